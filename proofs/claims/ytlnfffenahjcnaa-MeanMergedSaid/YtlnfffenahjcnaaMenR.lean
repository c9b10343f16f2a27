/-
  The reference's totals, means and ends of parts.
-/
import Derived.Test.YtlnfffenahjcnaaMenD
import Derived.Test.YtlnfffenahjcnaaMenE
import Derived.Test.YtlnfffenahjcnaaSpanL
import Derived.Maps.AppendAt
namespace Go.Proofs.Ytlnfffenahjcnaa
open Go.RowKit Go.Shelf Flo
attribute [local go_sem] BW.cell BW.frozen
theorem ref12_long (a b : Int) (ha : I64 a) (hb : I64 b) (h : a < b) (w : World) : Calls Try.prog 46 #[spn a b] w fun e w' => e = .returned (.float .f64 (Go.floatOfInt .f64 (b - a))) ∧ Below w.heap.size w w' := by
  have u0 := u64_sub ha hb h
  clear ha hb h
  go_enter Try.func46, Try.ntmps46
  go_wp2
  go_ret
  exact ⟨rfl, by (focus (repeat' (first | exact Below.refl _ _ | refine Below.alloc ?_ ?_ _ | refine Below.setCell ?_ ?_ _ | refine Below.drew ?_ | refine below_drewN ?_ _ | refine Below.trans ?_ (Below.mono (by assumption) ?_) | refine Below.trans ?_ (Below.mono (BW.below _) ?_) | (simp; done) | (simp; omega) | omega)))⟩
/-- Two sums. -/
def GF2 (w : World) (X Y : Option Nat) (e : Ending) (w' : World) : Prop := ∃ x y, e = .returned (.tuple #[.float .f64 x, .float .f64 y]) ∧ Hid (x < 18446744073709551616 ∧ nz x = X) ∧ Hid (y < 18446744073709551616 ∧ nz y = Y) ∧ Below w.heap.size w w'
/-- A row of numbers. -/
def FRow (w : World) (B : Nat) (u : Value) (us : List Nat) : Prop := w.ownsRow B 26 1 u us.length (us.map (Value.float .f64))
theorem FRow.below {w w' : World} {B : Nat} {u : Value} {us : List Nat} (h : FRow w B u us) (hb : Below w.heap.size w w') : FRow w' B u us := own_below h hb
def Apart (u v : Value) : Prop := u.ownBlock = none ∨ u.ownBlock ≠ v.ownBlock
theorem Apart.symm {u v : Value} (h : Apart u v) : Apart v u := by
  unfold Apart at *
  by_cases e : v.ownBlock = none
  · exact .inl e
  · right
    intro e2
    rcases h with h | h
    · rw [h] at e2; exact e e2
    · exact h e2.symm
theorem Apart.new {w : World} {B : Nat} {u v u' : Value} {vs : List Nat} (h : Apart u v) (hv : FRow w B v vs) (he : u'.ownBlock = u.ownBlock ∨ u'.ownBlock = some w.heap.size) : Apart u' v := by
  unfold Apart at *
  rcases he with he | he
  · rw [he]; exact h
  · right
    rw [he]
    intro e2
    have := (World.ownsRow.lt hv _ e2.symm).2
    omega
/-- Two rows that lie in no one block. -/
def TwoRows (w : World) (B : Nat) (u v : Value) (c : List Ct) : Prop := FRow w B u (c.map tmv) ∧ FRow w B v (c.map vlv) ∧ Apart u v
theorem TwoRows.below {w w' : World} {B : Nat} {u v : Value} {c : List Ct} (h : TwoRows w B u v c) (hb : Below w.heap.size w w') : TwoRows w' B u v c := ⟨h.1.below hb, h.2.1.below hb, h.2.2⟩
theorem TwoRows.nil (w : World) (B : Nat) : TwoRows w B (.slice none 0 0) (.slice none 0 0) [] := ⟨World.ownsRow_nil _ _ _ _, World.ownsRow_nil _ _ _ _, .inl rfl⟩
theorem below_drop {B : Nat} {a b : World} (h : Below a.heap.size a b) (hB : B ≤ a.heap.size) : Below B a b := h.mono hB
/-- append(l, x) of one number. -/
theorem app_fl {Q : Exit → Act → World → Prop} {ops : Array Oper} {rest : List Oper} {o : Oper} {a : Act} {w : World} (hgd : o.guard = none) (s x : Operand)
    (ho : o.op = .call { callee := .builtin .append, args := #[s, x], argTypes := #[48, 48] }) (B : Nat) (u : Value) (us : List Nat) (hs : a.eval s = u) (hown : FRow w B u us) (ad : Addr) (p : Nat)
    (hx : a.eval x = .slice (some ad) 1 1) (h0 : w.cell? (ad.add 0) = some (.float .f64 p)) (hn : us.length ≤ 6000000000000) (hB : B ≤ w.heap.size)
    (h : ∀ u' w', FRow w' B u' (us ++ [p]) → Below B w w' → (∀ v vs, FRow w B v vs → Apart u v → FRow w' B v vs ∧ Apart u' v) → (∀ a v, w.cell? a = some v → some a.block ≠ u.ownBlock → w'.cell? a = some v) → wpList Try.prog ops Q rest (a.put o.dst u') w') : wpList Try.prog ops Q (o :: rest) a w := by
  obtain ⟨i, hi, hz0, hz1, hz2⟩ := info_parts Try.infoFl
  refine wpList_append_own_at w hgd s x 48 ho B 26 i _ 1 8 Try.underlying48 hi hz0 hz1 hz2 rfl (by decide) u us.length _ hs hown ad 1 1 [.float .f64 p] hx rfl ?_ ?_ (by unfold maxLen; omega) (by omega) hB ?_
  · intro j v hj
    match j, hj with
    | 0, hj => simp at hj; rw [h0, hj]
  · intro v hv; simp at hv; subst hv; rfl
  · intro v' w' h2 h3 _ h5
    refine h v' w' ?_ ((Below.refl _ _).grown h3 hB (fun k hk => (World.ownsRow.lt hown k hk).1)) (fun v vs hv hne => ⟨World.ownsRow.kept hv h3 hne.symm, hne.new hv h5⟩) (fun a v h hne => h3.cell h hne)
    unfold FRow
    rw [List.length_append, List.map_append]
    simpa using h2
/-- The reference's sum of what a slice owns. -/
theorem ref02_Sum_own {w : World} {B : Nat} {v : Value} {xs : List Nat} (hr : FRow w B v xs) (hw : ∀ x ∈ xs, x < 18446744073709551616) : Calls Try.prog 47 #[v] w (GF w (sumX xs)) := by
  by_cases h0 : xs = []
  · subst h0
    rcases hr.2 with ⟨rfl, _⟩ | ⟨g, cap, cur, rfl, _⟩
    · exact ref02_Sum_nil none 0 w
    · exact ref02_Sum_nil _ cap w
  · have hpos : 0 < xs.length := List.length_pos_iff.2 h0
    rcases hr.2 with ⟨_, h⟩ | ⟨g, cap, cur, rfl, _, hg, hn, hc, _⟩
    · omega
    · refine ref02_Sum (b := g) (off := 0) (cap := cap) (l := xs) ⟨hpos, hn, by unfold maxLen at hc; omega, fun k hk => ?_⟩ hw
      rw [Nat.zero_add]
      have := World.ownsRow.cellAt hr k (by omega)
      rw [this, List.getElem?_map, List.getElem?_eq_getElem hk]
      rfl
set_option maxRecDepth 100000 in
set_option maxHeartbeats 4000000 in
theorem ref12_sums {w : World} {p : Option Addr} {l : List Pt} (cap : Nat) (a b : Int) (h : PtS w p l) (hl : l.length ≤ 6000000000000) (hI : ∀ k, k < l.length → PtI (pt l k)) : Calls Try.prog 28 #[.slice p l.length cap, spn a b] w (GF2 w (sumX (tms l a b)) (sumX (vls l a b))) := by
  rcases h with rfl | ⟨bk, off, rfl, hb, hc⟩
  · rw [show sumX (tms [] a b) = some 0 from rfl, show sumX (vls [] a b) = some 0 from rfl]
    have hS := fun p c w => ref02_Sum_nil p c w
    go_enter Try.func28, Try.ntmps28
    go_wp2
    refine wp_loop_rounds 1 ?_
    rw [rounds_succ]
    go_wp2_with fail
    refine (hS _ _ _).mono ?_
    rintro e w1 ⟨x, rfl, hx, hb1⟩
    have z1 := hb1.size
    simp at z1
    go_wp2_with fail
    refine (hS _ _ _).mono ?_
    rintro e w2 ⟨y, rfl, hy, hb2⟩
    have z2 := hb2.size
    go_wp2_with fail
    go_ret2
    exact ⟨x, y, rfl, hx, hy, by (focus (repeat' (first | exact Below.refl _ _ | refine Below.alloc ?_ ?_ _ | refine Below.setCell ?_ ?_ _ | refine Below.drew ?_ | refine below_drewN ?_ _ | refine Below.trans ?_ (Below.mono (by assumption) ?_) | refine Below.trans ?_ (Below.mono (BW.below _) ?_) | (simp; done) | (simp; omega) | omega)))⟩
  have HC := Lib.hid hc
  have HI := Lib.hid hI
  clear hc hI
  go_enter Try.func28, Try.ntmps28
  go_wp2
  have B0 : Below w.heap.size w (w.alloc (.cells #[.int .i64 a, .int .i64 b] 24)) := (Below.refl _ _).alloc (Nat.le_refl _) _
  have z0 : (w.alloc (.cells #[.int .i64 a, .int .i64 b] 24)).heap.size = w.heap.size + 1 := by simp
  have s0 : (w.alloc (.cells #[.int .i64 a, .int .i64 b] 24)).cell? ⟨w.heap.size, 0, none⟩ = some (.int .i64 a) := by go_simp
  have s1 : (w.alloc (.cells #[.int .i64 a, .int .i64 b] 24)).cell? ⟨w.heap.size, 1, none⟩ = some (.int .i64 b) := by go_simp
  generalize w.alloc (.cells #[.int .i64 a, .int .i64 b] 24) = W0 at *
  have Z0 := Lib.hid z0
  have zz : w.heap.size + 1 ≤ W0.heap.size := by omega
  clear z0
  go_loopw [15, 6, 7, 9, 10, 11, 12] (fun i u v _ _ _ _ wr => ∃ k : Nat, k ≤ l.length ∧ i = .int .i64 k ∧ Hid (TwoRows wr (w.heap.size + 1) u v (cnt l a b k)) ∧ Below (w.heap.size + 1) W0 wr) (fun i _ _ _ _ _ _ _ => l.length - (intOf i).toNat)
  case atStart => exact ⟨0, Nat.zero_le _, rfl, Lib.hid (TwoRows.nil _ _), Below.refl _ _⟩
  case round =>
    obtain ⟨k, hk, rfl, HT, hB⟩ := hrel
    have hsz := hB.size
    by_cases hlt : k < l.length
    · have b0 : (k : Int) < (l.length : Int) := by omega
      have b1 : 0 ≤ (k : Int) := by omega
      obtain ⟨c0, c1, c2⟩ := HC.out k hlt
      have hBw := B0.trans (hB.mono (Nat.le_succ _))
      have d0 := (hBw.cell (p := ⟨bk, off + k * 3, none⟩) hb).trans c0
      have d1 := (hBw.cell (p := ⟨bk, off + k * 3 + 1, none⟩) hb).trans c1
      have d2 := (hBw.cell (p := ⟨bk, off + k * 3 + 2, none⟩) hb).trans c2
      have t0 := (hB.cell (p := ⟨w.heap.size, 0, none⟩) (Nat.lt_succ_self _)).trans s0
      have t1 := (hB.cell (p := ⟨w.heap.size, 1, none⟩) (Nat.lt_succ_self _)).trans s1
      have hR := fun w => ref10_Both (pt l k).1 (pt l k).2.1 a b w
      have hpi := HI.out k hlt
      have hlen := cnt_len l a b k
      clear c0 c1 c2 hBw
      have zr : w.heap.size + 1 ≤ wr.heap.size := by omega
      have zs : w.heap.size < wr.heap.size := by omega
      cases hm : meetP a b (pt l k)
      · have hc1 := Lib.hid (cnt_n hlt hm)
        unfold meetP at hm
        rw [hm] at hR
        generalize bothF (pt l k).1 (pt l k).2.1 a b = F at *
        generalize bothT (pt l k).1 (pt l k).2.1 a b = T at *
        clear hpi hm
        generalize (pt l k).1 = f at *
        generalize (pt l k).2.1 = t at *
        generalize (pt l k).2.2 = v at *
        go_wp2_with fail
        refine (hR _).mono ?_
        rintro e w1 ⟨rfl, hb1⟩
        have B1 : Below wr.heap.size wr w1 := ((Below.refl _ _).alloc (Nat.le_refl _) _).trans (hb1.mono (by simp))
        have n1 := B1.size
        clear hb1
        go_wp2_with fail
        go_roundw
        case rel => exact ⟨k + 1, by omega, by go_num, Lib.hid (by rw [hc1.out]; exact HT.out.below (B1.alloc n1 _)), hB.trans ((B1.alloc n1 _).mono zr)⟩
        case measure => simp [intOf]; omega
      · have hc1 := Lib.hid (cnt_y hlt hm)
        have hv := ct_val hm hpi
        obtain ⟨m1, m2, m3, _, _⟩ := meet_bd hm hpi.1 hpi.2.1
        have hL := fun w => ref12_long (bothF (pt l k).1 (pt l k).2.1 a b) (bothT (pt l k).1 (pt l k).2.1 a b) m1 m2 m3 w
        have ht1 : tmv (ct a b (pt l k)) = Go.floatOfInt .f64 (bothT (pt l k).1 (pt l k).2.1 a b - bothF (pt l k).1 (pt l k).2.1 a b) := by unfold tmv; rw [hv]; rfl
        have hr := vlv_run (ct a b (pt l k))
        rw [hv] at hr
        change Go.floatBits .mul .f64 (Go.floatOfInt .f64 (pt l k).2.2) (Go.floatOfInt .f64 (bothT (pt l k).1 (pt l k).2.1 a b - bothF (pt l k).1 (pt l k).2.1 a b)) = _ at hr
        rw [← ht1] at hL hr
        clear hv hpi m1 m2 m3 ht1
        unfold meetP at hm
        rw [hm] at hR
        clear hm
        generalize ct a b (pt l k) = cx at *
        generalize bothF (pt l k).1 (pt l k).2.1 a b = F at *
        generalize bothT (pt l k).1 (pt l k).2.1 a b = T at *
        generalize (pt l k).1 = f at *
        generalize (pt l k).2.1 = t at *
        generalize (pt l k).2.2 = v at *
        have hm := fun w => run_float_arith (P := Try.prog) w .mul 26 .f64 _ _ _ hr
        clear hr
        go_wp2_with fail
        refine (hR _).mono ?_
        rintro e w1 ⟨rfl, hb1⟩
        have v1 : w1.cell? ⟨wr.heap.size, 2, none⟩ = some (.int .i64 v) := (hb1.cell (p := ⟨wr.heap.size, 2, none⟩) (by simp)).trans (by go_simp)
        have z1 : wr.heap.size < w1.heap.size := Nat.lt_of_lt_of_le (by simp) hb1.size
        have B1 : Below wr.heap.size wr w1 := ((Below.refl _ _).alloc (Nat.le_refl _) _).trans (hb1.mono (by simp))
        have n1 := B1.size
        clear hb1
        go_wp2_with fail
        refine (hL _).mono ?_
        rintro e w2 ⟨rfl, hb2⟩
        have v2 : w2.cell? ⟨wr.heap.size, 2, none⟩ = some (.int .i64 v) := (hb2.cell (p := ⟨wr.heap.size, 2, none⟩) (by simp; omega)).trans (by go_simp)
        have z2 : wr.heap.size < w2.heap.size := Nat.lt_of_lt_of_le (by simp; omega) hb2.size
        have B2 : Below wr.heap.size wr w2 := (B1.alloc n1 _).trans (hb2.mono (by simp; omega))
        have T2 := HT.out.below B2
        generalize cnt l a b k = C at *
        have ub : some wr.heap.size ≠ u6.ownBlock := fun e => by have := (World.ownsRow.lt HT.out.1 _ e.symm).2; omega
        obtain ⟨r1, r2, r3⟩ := T2
        have R1 := Lib.hid r1
        have R2 := Lib.hid r2
        have R3 := Lib.hid r3
        clear v1 hb2 r1 r2 r3 HT
        go_wp2_with (first
          | (at_builtin; refine app_fl rfl _ _ rfl (w.heap.size + 1) u6 (C.map tmv) rfl (R1.out.below ((Below.refl _ _).alloc (Nat.le_refl _) _)) _ (tmv cx) rfl ?_ ?_ ?_ ?_; (simp [Addr.add]); (simp; omega); (simp; omega); intro u3 w3 own3 hb3 kp3 kc3; have v3 : w3.cell? ⟨wr.heap.size, 2, none⟩ = some (.int .i64 v) := kc3 _ _ (by go_simp) ub; have z3 := hb3.size; (try simp at z3); obtain ⟨r4, r5⟩ := kp3 u7 _ (R2.out.below ((Below.refl _ _).alloc (Nat.le_refl _) _)) R3.out; have R4 := Lib.hid r4; have R5 := Lib.hid r5; have O3 := Lib.hid own3; clear r4 r5 own3 kp3)
          | (at_builtin; refine app_fl rfl _ _ rfl (w.heap.size + 1) u7 (C.map vlv) rfl (R4.out.below ((Below.refl _ _).alloc (Nat.le_refl _) _)) _ (vlv cx) rfl ?_ ?_ ?_ ?_; (simp [Addr.add]); (simp; omega); (simp; omega); intro u4 w4 own4 hb4 kp4 _; have z4 := hb4.size; (try simp at z4); obtain ⟨r6, r7⟩ := kp4 u3 _ (O3.out.below ((Below.refl _ _).alloc (Nat.le_refl _) _)) R5.out.symm; have R6 := Lib.hid r6; have R7 := Lib.hid r7; have O4 := Lib.hid own4; clear r6 r7 own4 kp4))
        have BE := ((((hB.trans (B2.mono zr)).alloc (by have := B2.size; omega) _).trans hb3).alloc (by have := hb3.size; have := B2.size; simp at *; omega) _).trans hb4
        go_roundw
        case rel => exact ⟨k + 1, by omega, by go_num, Lib.hid (by rw [hc1.out]; exact ⟨by rw [List.map_append]; exact R6.out, by rw [List.map_append]; exact O4.out, R7.out.symm⟩), BE⟩
        case measure => simp [intOf]; omega
    · obtain rfl : k = l.length := by omega
      obtain ⟨r1, r2, _⟩ := HT.out
      have S1 := ref02_Sum_own r1 (fun x hx => by obtain ⟨c, _, rfl⟩ := List.mem_map.1 hx; exact tmv_lt c)
      have S2 := fun w2 (hb : Below wr.heap.size wr w2) => ref02_Sum_own (r2.below hb) (fun x hx => by obtain ⟨c, _, rfl⟩ := List.mem_map.1 hx; exact vlv_lt c)
      clear r1 r2 HT HC HI
      go_wp2_with fail
      refine S1.mono ?_
      rintro e w1 ⟨x, rfl, hx, hb1⟩
      have S2 := S2 w1 hb1
      go_wp2_with fail
      refine S2.mono ?_
      rintro e w2 ⟨y, rfl, hy, hb2⟩
      go_wp2_with fail
      go_ret2
      have BF := B0.trans (hB.mono (Nat.le_succ _))
      exact ⟨x, y, rfl, hx, hy, (BF.trans (hb1.mono BF.size)).trans (hb2.mono (BF.trans (hb1.mono BF.size)).size)⟩
end Go.Proofs.Ytlnfffenahjcnaa
