/-
  The iterator over the occurrences of a table of one rule.
-/
import Derived.Test.YtjddmcecllhlhaaDoorEyH
import Derived.Test.YtjddmcecllhlhaaDoorEyR
namespace Go.Proofs.YtjddmcecllhlhaaDoor
open Go.RowKit Go.Shelf Cal
attribute [local go_sem] Oper.semAt_some
/-- So many years from one on. -/
def yrs (f : Int) (k : Nat) : List Int := (List.range k).map (fun i : Nat => f + (i : Int))
theorem yrs_succ (f : Int) (k : Nat) : yrs f (k + 1) = yrs f k ++ [f + k] := by
  unfold yrs
  rw [List.range_succ, List.map_append]
  rfl
theorem yrs_len (f : Int) (k : Nat) : (yrs f k).length = k := by simp [yrs]
/-- How many years a rule has. -/
def yrsN (r : Ru) : Nat := (r.t - r.f + 1).toNat
def occEnc (r : Ru) (y : Int) : Array Value := #[occ 0 y (nomV r y)]
def yearAt (w : World) (c : Nat) : Int := match w.cell? ⟨c, 1, none⟩ with | some (.int _ y) => y | _ => 0
theorem yearAt_is {w : World} {c : Nat} {k : IntKind} {y : Int} (h : w.cell? ⟨c, 1, none⟩ = some (.int k y)) : yearAt w c = y := by unfold yearAt; rw [h]
def leftAt (r : Ru) (c : Nat) (m : Value) (w : World) : Nat := match m with | .bool true => (r.t + 1 - yearAt w c).toNat | _ => 0
theorem grown_row {W W' : World} (row : Option Nat) (h : Below W.heap.size W W') : W.grownBy W' row := ⟨h.os, h.tape, h.output, h.size, fun k hk _ => h.block k hk⟩
theorem grown_cell (W : World) (c o : Nat) (v : Value) : W.grownBy (W.setCell ⟨c, o, none⟩ v) (some c) := ⟨rfl, rfl, rfl, by simp, fun k _ hne => Below.heap_setCell _ _ _ _ (fun e => hne (by rw [e]))⟩
theorem occur_all (bl : Nat) (nm : ByteArray) (a b c : Int) (w : World) : Calls Tryd.prog 43 #[tabV bl, .string nm, occ a b c] w fun e w' => e = .returned (.func (.func 70) #[] #[.pointer (some ⟨w.heap.size, 0, none⟩), .pointer (some ⟨w.heap.size + 1, 0, none⟩), .pointer (some ⟨w.heap.size + 1 + 1, 0, none⟩)]) ∧ w' = ((w.alloc (.cells #[tabV bl] 47)).alloc (.cells #[.string nm] 9)).alloc (.cells #[.int .i64 a, .int .i64 b, .int .i64 c] 53) := by
  go_enter Tryd.func43, Tryd.ntmps43
  go_wp2
  go_ret
  exact ⟨rfl, rfl⟩
set_option maxRecDepth 100000 in
set_option maxHeartbeats 4000000 in
theorem all_in (r : Ru) (hR : RightIs r true) (hr : RuFine r) (n : Nat) (hn : 1 ≤ n) (lp Bl Bn Bf n₀ bl : Nat) (hb : bl < n₀) (J : List Nat → List Int → World → Prop) (Jx : List Int → World → Prop) (W : World) (hn0 : n₀ ≤ W.heap.size) (l1 : Bl < W.heap.size) (l2 : Bn < W.heap.size)
    (hJ : ∀ ks s A B c, c ∈ ks → J ks s A → A.grownBy B (some c) → J ks s B) (hJ3 : ∀ ks c A B, J ks [] A → A.grownBy B none → A.heap.size ≤ c → c < B.heap.size → J (c :: ks) [] B)
    (hY : ∀ ks pre x W1, J ks pre W1 → YieldAt Fence.wide (n - 1) Tryd.prog lp (occEnc r x) W1 fun e W' => (e = .returned (.bool true) ∧ J ks (pre ++ [x]) W' ∧ Below n₀ W1 W' ∧ KeptK ks W1 W') ∨ (e = .returned (.bool false) ∧ Jx (pre ++ [x]) W'))
    (c1 : W.cell? ⟨Bl, 0, none⟩ = some (tabV bl)) (c2 : W.cell? ⟨Bn, 0, none⟩ = some (.string r.nm)) (f0 : W.cell? ⟨Bf, 0, none⟩ = some (.int .i64 (-1))) (f1 : W.cell? ⟨Bf, 1, none⟩ = some (.int .i64 0)) (f2 : W.cell? ⟨Bf, 2, none⟩ = some (.int .i64 (-2192387558400))) (hT : TabAt W bl r) (h0 : J [Bl, Bn] [] W) :
    CallsIn Fence.wide n Tryd.prog 70 #[.func (.yield lp) #[] #[], .pointer (some ⟨Bl, 0, none⟩), .pointer (some ⟨Bn, 0, none⟩), .pointer (some ⟨Bf, 0, none⟩)] W fun e W' => (∃ v, e = .returned v) ∧ ((∃ xs ks, xs = yrs r.f (yrsN r) ∧ J ks xs W') ∨ (∃ pre, (∃ k, 1 ≤ k ∧ k ≤ yrsN r ∧ pre = yrs r.f k) ∧ Jx pre W')) := by
  have HY := Lib.hid hY
  have HJ := Lib.hid hJ
  have HN := Lib.hid (fun y h0 h1 w h => Next_at r hR hr bl y h0 h1 w h)
  have hF := Next_first r hR hr bl W hT
  obtain ⟨i0, i1, i2, -⟩ := hr
  have hTN : (yrsN r : Int) = r.t - r.f + 1 := by unfold yrsN; omega
  clear hY hJ hR
  refine callsIn_of_wp Tryd.func70 rfl trivial ?_ rfl
  simp only [Tryd.ntmps70, List.size_toArray, List.length_cons, List.length_nil, Nat.reduceAdd, Nat.reduceSub, Array.replicate_succ, Array.replicate_zero, List.push_toArray, List.append_toArray, List.nil_append, List.cons_append]
  gi_wp2_with fail
  refine ⟨trivial, ?_⟩
  refine (callsIn_wide.2 hF).mono ?_
  rintro e w1 ⟨rfl, hb1⟩
  have z1 := hb1.size
  gi_wp2_with fail
  have B2 : Below W.heap.size W (w1.alloc (.cells #[.int .i64 0, .int .i64 r.f, .int .i64 (nomV r r.f)] 53)) := hb1.alloc z1 _
  have j2 := hJ3 _ w1.heap.size _ _ h0 (grown_row none B2) z1 (by simp)
  have a0 : (w1.alloc (.cells #[.int .i64 0, .int .i64 r.f, .int .i64 (nomV r r.f)] 53)).cell? ⟨w1.heap.size, 0, none⟩ = some (.int .i64 0) := by go_simp
  have g0 : (w1.alloc (.cells #[.int .i64 0, .int .i64 r.f, .int .i64 (nomV r r.f)] 53)).frozen? ⟨w1.heap.size, 0, none⟩ = false := by go_simp
  have a1 : (w1.alloc (.cells #[.int .i64 0, .int .i64 r.f, .int .i64 (nomV r r.f)] 53)).cell? ⟨w1.heap.size, 1, none⟩ = some (.int .i64 r.f) := by go_simp
  have g1 : (w1.alloc (.cells #[.int .i64 0, .int .i64 r.f, .int .i64 (nomV r r.f)] 53)).frozen? ⟨w1.heap.size, 1, none⟩ = false := by go_simp
  have a2 : (w1.alloc (.cells #[.int .i64 0, .int .i64 r.f, .int .i64 (nomV r r.f)] 53)).cell? ⟨w1.heap.size, 2, none⟩ = some (.int .i64 (nomV r r.f)) := by go_simp
  have g2 : (w1.alloc (.cells #[.int .i64 0, .int .i64 r.f, .int .i64 (nomV r r.f)] 53)).frozen? ⟨w1.heap.size, 2, none⟩ = false := by go_simp
  have hcs : w1.heap.size < (w1.alloc (.cells #[.int .i64 0, .int .i64 r.f, .int .i64 (nomV r r.f)] 53)).heap.size := by simp
  have t2 := hT.below B2 hT.lt (Nat.le_refl _)
  have e1 := (B2.cell (p := ⟨Bl, 0, none⟩) l1).trans c1
  have e2 := (B2.cell (p := ⟨Bn, 0, none⟩) l2).trans c2
  have n1 : Bl < (w1.alloc (.cells #[.int .i64 0, .int .i64 r.f, .int .i64 (nomV r r.f)] 53)).heap.size := Nat.lt_of_lt_of_le l1 B2.size
  have n2 : Bn < (w1.alloc (.cells #[.int .i64 0, .int .i64 r.f, .int .i64 (nomV r r.f)] 53)).heap.size := Nat.lt_of_lt_of_le l2 B2.size
  have hnc : n₀ ≤ w1.heap.size := by omega
  have q1 : Bl ≠ w1.heap.size := by omega
  have q2 : Bn ≠ w1.heap.size := by omega
  clear hF hJ3 h0 hb1 c1 c2 f0 f1 f2 hT l1 l2 B2
  generalize (w1.alloc (.cells #[.int .i64 0, .int .i64 r.f, .int .i64 (nomV r r.f)] 53)) = W2 at *
  generalize w1.heap.size = c at *
  gi_loopw [6] (fun m wr => ∃ (k : Nat) (mm : Bool), m = .bool mm ∧ (mm = true → k < yrsN r ∧ wr.cell? ⟨c, 0, none⟩ = some (.int .i64 0) ∧ wr.cell? ⟨c, 1, none⟩ = some (.int .i64 (r.f + k)) ∧ wr.cell? ⟨c, 2, none⟩ = some (.int .i64 (nomV r (r.f + k)))) ∧ (mm = false → k = yrsN r) ∧ wr.frozen? ⟨c, 0, none⟩ = false ∧ wr.frozen? ⟨c, 1, none⟩ = false ∧ wr.frozen? ⟨c, 2, none⟩ = false ∧ c < wr.heap.size ∧ J [c, Bl, Bn] (yrs r.f k) wr ∧ TabAt wr bl r ∧ wr.cell? ⟨Bl, 0, none⟩ = some (tabV bl) ∧ wr.cell? ⟨Bn, 0, none⟩ = some (.string r.nm) ∧ Bl < wr.heap.size ∧ Bn < wr.heap.size) (fun m wr => leftAt r c m wr)
  case atStart => exact ⟨0, true, rfl, fun _ => ⟨by omega, a0, by rw [a1]; simp, by rw [a2]; simp⟩, fun h => (by cases h), g0, g1, g2, hcs, j2, t2, e1, e2, n1, n2⟩
  case round =>
    clear a0 a1 a2 g0 g1 g2 hcs j2 t2 e1 e2 n1 n2
    obtain ⟨k, mm, rfl, ht, hf, g0, g1, g2, hcs, hj, t2, e1, e2, n1, n2⟩ := hrel
    cases mm with
    | true =>
      obtain ⟨hk, a0, a1, a2⟩ := ht rfl
      clear ht hf
      have hye := yearAt_is a1
      obtain ⟨y, hy⟩ : ∃ y, y = r.f + (k : Int) := ⟨_, rfl⟩
      rw [← hy] at a1 a2 hye
      have hys : yrs r.f (k + 1) = yrs r.f k ++ [y] := by rw [yrs_succ, hy]
      have HYS := Lib.hid hys
      have hyk := HY.out _ (yrs r.f k) y _ hj
      have hNx := HN.out y (by omega) (by omega)
      have yt : y ≤ r.t := by omega
      have yf : r.f ≤ y := by omega
      have HYD := Lib.hid hy
      clear hys hy
      unfold occEnc at hyk
      obtain ⟨fn, tmps, assign, body, hyy, hR2⟩ := hyk
      gi_wp2_with fail
      refine hR2.mono ?_
      rintro e W3 (⟨rfl, hj3, hb3, hk3⟩ | ⟨rfl, hjx⟩)
      · have kc := hk3 c (by simp)
        have kl := hk3 Bl (by simp)
        have kn := hk3 Bn (by simp)
        have z3 := hb3.size
        have hn3 : n₀ ≤ W3.heap.size := by omega
        have A0 := (World.cell?_of_block (a := ⟨c, 0, none⟩) kc).trans a0
        have G0 := (World.frozen?_of_block (a := ⟨c, 0, none⟩) kc).trans g0
        have A1 := (World.cell?_of_block (a := ⟨c, 1, none⟩) kc).trans a1
        have G1 := (World.frozen?_of_block (a := ⟨c, 1, none⟩) kc).trans g1
        have A2 := (World.cell?_of_block (a := ⟨c, 2, none⟩) kc).trans a2
        have G2 := (World.frozen?_of_block (a := ⟨c, 2, none⟩) kc).trans g2
        have T3 : TabAt W3 bl r := t2.below hb3 hb (by omega)
        have E1 := (World.cell?_of_block (a := ⟨Bl, 0, none⟩) kl).trans e1
        have E2 := (World.cell?_of_block (a := ⟨Bn, 0, none⟩) kn).trans e2
        have hc3 : c < W3.heap.size := by omega
        have hl3 : Bl < W3.heap.size := by omega
        have hm3 : Bn < W3.heap.size := by omega
        clear a0 a1 a2 g0 g1 g2 e1 e2 n1 n2 hcs t2 hj kc kl kn hk3 hb3
        gi_wp2_with fail
        refine ⟨trivial, ?_⟩
        refine (callsIn_wide.2 (hNx W3 T3)).mono ?_
        rintro e w4 ⟨rfl, hb4⟩
        have j4 := HJ.out _ _ _ _ c (by simp) hj3 (grown_row (some c) hb4)
        have z4 := hb4.size
        have E1' := (hb4.cell (p := ⟨Bl, 0, none⟩) hl3).trans E1
        have E2' := (hb4.cell (p := ⟨Bn, 0, none⟩) hm3).trans E2
        have G0' := (hb4.frozen (p := ⟨c, 0, none⟩) hc3).trans G0
        have G1' := (hb4.frozen (p := ⟨c, 1, none⟩) hc3).trans G1
        have G2' := (hb4.frozen (p := ⟨c, 2, none⟩) hc3).trans G2
        have hc4 : c < w4.heap.size := by omega
        have X0 := (hb4.cell (p := ⟨c, 0, none⟩) hc3).trans A0
        have X1 := (hb4.cell (p := ⟨c, 1, none⟩) hc3).trans A1
        have X2 := (hb4.cell (p := ⟨c, 2, none⟩) hc3).trans A2
        clear E1 E2 A0 A1 A2 G0 G1 G2 hj3 hNx
        by_cases hyt : y < r.t
        · rw [show nextV r y = .tuple #[occ 0 (y + 1) (nomV r (y + 1)), .bool true] by unfold nextV; rw [if_pos hyt]]
          have HM : Hid (leftAt r c (.bool true) wr = (r.t + 1 - y).toNat) := Lib.hid (by unfold leftAt; simp only [hye])
          have HK1 : Hid (k + 1 < yrsN r) := Lib.hid (by have := HYD.out; omega)
          have HK2 : Hid (y + 1 = r.f + ((k + 1 : Nat) : Int)) := Lib.hid (by have := HYD.out; omega)
          clear hye
          have j5 := HJ.out _ _ _ _ c (by simp) (HJ.out _ _ _ _ c (by simp) (HJ.out _ _ _ _ c (by simp) j4 (grown_cell w4 c 0 (.int .i64 0))) (grown_cell _ c 1 (.int .i64 (y + 1)))) (grown_cell _ c 2 (.int .i64 (nomV r (y + 1))))
          have B5 : Below n₀ W3 (((w4.setCell ⟨c, 0, none⟩ (.int .i64 0)).setCell ⟨c, 1, none⟩ (.int .i64 (y + 1))).setCell ⟨c, 2, none⟩ (.int .i64 (nomV r (y + 1)))) := (((hb4.mono hn3).setCell (p := ⟨c, 0, none⟩) hnc _).setCell (p := ⟨c, 1, none⟩) hnc _).setCell (p := ⟨c, 2, none⟩) hnc _
          have T5 := T3.below B5 hb hn3
          have x0 : (((w4.setCell ⟨c, 0, none⟩ (.int .i64 0)).setCell ⟨c, 1, none⟩ (.int .i64 (y + 1))).setCell ⟨c, 2, none⟩ (.int .i64 (nomV r (y + 1)))).cell? ⟨c, 0, none⟩ = some (.int .i64 0) := by go_simp
          have x1 : (((w4.setCell ⟨c, 0, none⟩ (.int .i64 0)).setCell ⟨c, 1, none⟩ (.int .i64 (y + 1))).setCell ⟨c, 2, none⟩ (.int .i64 (nomV r (y + 1)))).cell? ⟨c, 1, none⟩ = some (.int .i64 (y + 1)) := by go_simp
          have x2 : (((w4.setCell ⟨c, 0, none⟩ (.int .i64 0)).setCell ⟨c, 1, none⟩ (.int .i64 (y + 1))).setCell ⟨c, 2, none⟩ (.int .i64 (nomV r (y + 1)))).cell? ⟨c, 2, none⟩ = some (.int .i64 (nomV r (y + 1))) := by go_simp
          have y0 : (((w4.setCell ⟨c, 0, none⟩ (.int .i64 0)).setCell ⟨c, 1, none⟩ (.int .i64 (y + 1))).setCell ⟨c, 2, none⟩ (.int .i64 (nomV r (y + 1)))).frozen? ⟨c, 0, none⟩ = false := by go_simp
          have y1 : (((w4.setCell ⟨c, 0, none⟩ (.int .i64 0)).setCell ⟨c, 1, none⟩ (.int .i64 (y + 1))).setCell ⟨c, 2, none⟩ (.int .i64 (nomV r (y + 1)))).frozen? ⟨c, 1, none⟩ = false := by go_simp
          have y2 : (((w4.setCell ⟨c, 0, none⟩ (.int .i64 0)).setCell ⟨c, 1, none⟩ (.int .i64 (y + 1))).setCell ⟨c, 2, none⟩ (.int .i64 (nomV r (y + 1)))).frozen? ⟨c, 2, none⟩ = false := by go_simp
          have u1 : (((w4.setCell ⟨c, 0, none⟩ (.int .i64 0)).setCell ⟨c, 1, none⟩ (.int .i64 (y + 1))).setCell ⟨c, 2, none⟩ (.int .i64 (nomV r (y + 1)))).cell? ⟨Bl, 0, none⟩ = some (tabV bl) := by go_simp
          have u2 : (((w4.setCell ⟨c, 0, none⟩ (.int .i64 0)).setCell ⟨c, 1, none⟩ (.int .i64 (y + 1))).setCell ⟨c, 2, none⟩ (.int .i64 (nomV r (y + 1)))).cell? ⟨Bn, 0, none⟩ = some (.string r.nm) := by go_simp
          have v1 : Bl < (((w4.setCell ⟨c, 0, none⟩ (.int .i64 0)).setCell ⟨c, 1, none⟩ (.int .i64 (y + 1))).setCell ⟨c, 2, none⟩ (.int .i64 (nomV r (y + 1)))).heap.size := by simp; omega
          have v2 : Bn < (((w4.setCell ⟨c, 0, none⟩ (.int .i64 0)).setCell ⟨c, 1, none⟩ (.int .i64 (y + 1))).setCell ⟨c, 2, none⟩ (.int .i64 (nomV r (y + 1)))).heap.size := by simp; omega
          have v3 : c < (((w4.setCell ⟨c, 0, none⟩ (.int .i64 0)).setCell ⟨c, 1, none⟩ (.int .i64 (y + 1))).setCell ⟨c, 2, none⟩ (.int .i64 (nomV r (y + 1)))).heap.size := by simp; omega
          gi_wp2_with fail
          generalize (((w4.setCell ⟨c, 0, none⟩ (.int .i64 0)).setCell ⟨c, 1, none⟩ (.int .i64 (y + 1))).setCell ⟨c, 2, none⟩ (.int .i64 (nomV r (y + 1)))) = W5 at *
          go_roundw
          case rel => exact ⟨k + 1, true, rfl, fun _ => ⟨HK1.out, x0, by rw [← HK2.out]; exact x1, by rw [← HK2.out]; exact x2⟩, (fun h => by cases h), y0, y1, y2, v3, by rw [HYS.out]; exact j5, T5, u1, u2, v1, v2⟩
          case measure =>
            have e5 := yearAt_is x1
            rw [HM.out]
            show leftAt r c (.bool true) W5 < _
            unfold leftAt
            simp only [e5]
            omega
        · rw [show nextV r y = .tuple #[occ 0 0 0, .bool false] by unfold nextV; rw [if_neg hyt]]
          have HM : Hid (leftAt r c (.bool true) wr = (r.t + 1 - y).toNat) := Lib.hid (by unfold leftAt; simp only [hye])
          have HK1 : Hid (k + 1 = yrsN r) := Lib.hid (by have := HYD.out; omega)
          clear hye
          have j5 := HJ.out _ _ _ _ c (by simp) (HJ.out _ _ _ _ c (by simp) (HJ.out _ _ _ _ c (by simp) j4 (grown_cell w4 c 0 (.int .i64 0))) (grown_cell _ c 1 (.int .i64 0))) (grown_cell _ c 2 (.int .i64 0))
          have B5 : Below n₀ W3 (((w4.setCell ⟨c, 0, none⟩ (.int .i64 0)).setCell ⟨c, 1, none⟩ (.int .i64 0)).setCell ⟨c, 2, none⟩ (.int .i64 0)) := (((hb4.mono hn3).setCell (p := ⟨c, 0, none⟩) hnc _).setCell (p := ⟨c, 1, none⟩) hnc _).setCell (p := ⟨c, 2, none⟩) hnc _
          have T5 := T3.below B5 hb hn3
          have x0 : (((w4.setCell ⟨c, 0, none⟩ (.int .i64 0)).setCell ⟨c, 1, none⟩ (.int .i64 0)).setCell ⟨c, 2, none⟩ (.int .i64 0)).cell? ⟨c, 0, none⟩ = some (.int .i64 0) := by go_simp
          have x1 : (((w4.setCell ⟨c, 0, none⟩ (.int .i64 0)).setCell ⟨c, 1, none⟩ (.int .i64 0)).setCell ⟨c, 2, none⟩ (.int .i64 0)).cell? ⟨c, 1, none⟩ = some (.int .i64 0) := by go_simp
          have x2 : (((w4.setCell ⟨c, 0, none⟩ (.int .i64 0)).setCell ⟨c, 1, none⟩ (.int .i64 0)).setCell ⟨c, 2, none⟩ (.int .i64 0)).cell? ⟨c, 2, none⟩ = some (.int .i64 0) := by go_simp
          have y0 : (((w4.setCell ⟨c, 0, none⟩ (.int .i64 0)).setCell ⟨c, 1, none⟩ (.int .i64 0)).setCell ⟨c, 2, none⟩ (.int .i64 0)).frozen? ⟨c, 0, none⟩ = false := by go_simp
          have y1 : (((w4.setCell ⟨c, 0, none⟩ (.int .i64 0)).setCell ⟨c, 1, none⟩ (.int .i64 0)).setCell ⟨c, 2, none⟩ (.int .i64 0)).frozen? ⟨c, 1, none⟩ = false := by go_simp
          have y2 : (((w4.setCell ⟨c, 0, none⟩ (.int .i64 0)).setCell ⟨c, 1, none⟩ (.int .i64 0)).setCell ⟨c, 2, none⟩ (.int .i64 0)).frozen? ⟨c, 2, none⟩ = false := by go_simp
          have u1 : (((w4.setCell ⟨c, 0, none⟩ (.int .i64 0)).setCell ⟨c, 1, none⟩ (.int .i64 0)).setCell ⟨c, 2, none⟩ (.int .i64 0)).cell? ⟨Bl, 0, none⟩ = some (tabV bl) := by go_simp
          have u2 : (((w4.setCell ⟨c, 0, none⟩ (.int .i64 0)).setCell ⟨c, 1, none⟩ (.int .i64 0)).setCell ⟨c, 2, none⟩ (.int .i64 0)).cell? ⟨Bn, 0, none⟩ = some (.string r.nm) := by go_simp
          have v1 : Bl < (((w4.setCell ⟨c, 0, none⟩ (.int .i64 0)).setCell ⟨c, 1, none⟩ (.int .i64 0)).setCell ⟨c, 2, none⟩ (.int .i64 0)).heap.size := by simp; omega
          have v2 : Bn < (((w4.setCell ⟨c, 0, none⟩ (.int .i64 0)).setCell ⟨c, 1, none⟩ (.int .i64 0)).setCell ⟨c, 2, none⟩ (.int .i64 0)).heap.size := by simp; omega
          have v3 : c < (((w4.setCell ⟨c, 0, none⟩ (.int .i64 0)).setCell ⟨c, 1, none⟩ (.int .i64 0)).setCell ⟨c, 2, none⟩ (.int .i64 0)).heap.size := by simp; omega
          gi_wp2_with fail
          generalize (((w4.setCell ⟨c, 0, none⟩ (.int .i64 0)).setCell ⟨c, 1, none⟩ (.int .i64 0)).setCell ⟨c, 2, none⟩ (.int .i64 0)) = W5 at *
          go_roundw
          case rel => exact ⟨k + 1, false, rfl, (fun h => by cases h), fun _ => HK1.out, y0, y1, y2, v3, by rw [HYS.out]; exact j5, T5, u1, u2, v1, v2⟩
          case measure =>
            rw [HM.out]
            show 0 < _
            omega
      · gi_wp2_with fail
        go_end0
        exact ⟨⟨_, rfl⟩, .inr ⟨_, ⟨k + 1, by omega, by omega, HYS.out.symm⟩, hjx⟩⟩
    | false =>
      obtain rfl := hf rfl
      clear ht hf
      gi_wp2_with fail
      refine ⟨fun _ h => (by cases h), ?_⟩
      gi_wp2_with fail
      go_end0
      exact ⟨⟨_, rfl⟩, .inl ⟨_, _, rfl, hj⟩⟩
end Go.Proofs.YtjddmcecllhlhaaDoor
