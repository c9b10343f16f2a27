/-
  noontidetop.TopWhole: the walk.
-/
import Derived.Test.YtblmlglkjmilkacDoorWhlA
namespace Go.Proofs.YtblmlglkjmilkacDoor
open Go.RowKit Flo

/-- Whole numbers in memory. -/
def IntAt (w : World) (b off : Nat) (l : List Int) : Prop := ∀ k (hk : k < l.length), w.cell? ⟨b, off + k, none⟩ = some (.int .i64 l[k])
/-- v is a slice of floats that reads as l, in memory from block B on. -/
def FRow (w : World) (B : Nat) (v : Value) (l : List Nat) : Prop := w.ownsRow B 59 1 v l.length (l.map fun x => .float .f64 x)
theorem FRow.below {w w' : World} {B : Nat} {v : Value} {l : List Nat} (h : FRow w B v l) (hb : Below w.heap.size w w') : FRow w' B v l := by
  obtain ⟨h1, h2⟩ := h
  refine ⟨h1, ?_⟩
  rcases h2 with h2 | ⟨g, cap, cur, hv, hg, hh, r⟩
  · exact .inl h2
  · exact .inr ⟨g, cap, cur, hv, hg, by rw [hb.block g (Array.getElem?_eq_some_iff.1 hh).1]; exact hh, r⟩
theorem FRow.lt {w : World} {B : Nat} {v : Value} {l : List Nat} (h : FRow w B v l) : ∀ k, v.ownBlock = some k → B ≤ k := fun k hk => (World.ownsRow.lt h k hk).1
theorem Tryd.infoFloat : (Tryd.prog.info? 59).map (fun i => (i.zero, i.size, i.bytes)) = some (some (.float .f64 0), 1, 8) := by kernel_rfl
theorem app_float {Q : Exit → Act → World → Prop} {ops : Array Oper} {rest : List Oper} {o : Oper} {a : Act} {w : World} (hgd : o.guard = none) (s x : Operand)
    (ho : o.op = .call { callee := .builtin .append, args := #[s, x], argTypes := #[57, 57] }) (B : Nat) (v : Value) (l : List Nat) (hs : a.eval s = v) (hown : FRow w B v l) (ad : Addr) (b : Nat)
    (hx : a.eval x = .slice (some ad) 1 1) (h0 : w.cell? (ad.add 0) = some (.float .f64 b)) (hn : l.length ≤ 1000000) (hB : B ≤ w.heap.size)
    (h : ∀ v' w', FRow w' B v' (l ++ [b]) → Below B w w' → wpList Tryd.prog ops Q rest (a.put o.dst v') w') : wpList Tryd.prog ops Q (o :: rest) a w := by
  obtain ⟨i, hi, hz0, hz1, hz2⟩ := info_parts Tryd.infoFloat
  refine wpList_append_own w hgd s x 57 ho B 59 i _ 1 8 Tryd.underlying57 hi hz0 hz1 hz2 rfl (by decide) v l.length (l.map fun x => .float .f64 x) hs hown ad 1 1 [.float .f64 b] hx rfl ?_ ?_ (by unfold maxLen; omega) (by omega) hB ?_
  · intro j u hj
    match j, hj with
    | 0, hj => simp at hj; rw [h0, hj]
  · intro u hu; simp at hu; rcases hu with rfl; rfl
  · intro v' w' h2 h3 _
    refine h v' w' ?_ ((Below.refl _ _).grown h3 hB hown.lt)
    unfold FRow
    rw [List.map_append]
    simpa using h2
/-- The sum of them. -/
theorem sum_row {w : World} {B : Nat} {v : Value} {l : List Nat} {T : Nat} (h : FRow w B v l) (hw : ∀ x ∈ l, x < 18446744073709551616) (e : sumX l = some T) : Calls Tryd.prog 35 #[v] w fun e w' => e = .returned (.float .f64 T) ∧ Below w.heap.size w w' := by
  have fin : ∀ {X : Option Nat}, X = some T → ∀ {e : Ending} {w' : World}, GF w X e w' → e = .returned (.float .f64 T) ∧ Below w.heap.size w w' := by
    rintro X hX e w' ⟨y, rfl, hy, hb⟩
    have := nz_eq_some (hy.out.2.trans hX)
    rw [this.1]
    exact ⟨rfl, hb⟩
  rcases h.2 with ⟨rfl, h2⟩ | ⟨g, cap, cur, rfl, hg, hh, hc1, hc2, hc3, hc4⟩
  · have hl : l = [] := List.length_eq_zero_iff.1 h2
    subst hl
    exact (real_Sum_nil none 0 w).mono fun e' w' hh => fin e hh
  · by_cases hl : l = []
    · subst hl
      exact (real_Sum_nil _ cap w).mono fun e' w' hh => fin e hh
    · refine (real_Sum (b := g) (off := 0) (cap := cap) (l := l) ⟨List.length_pos_iff.2 hl, hc1, by unfold maxLen at hc2; omega, fun k hk => ?_⟩ hw).mono fun e' w' hh => fin e hh
      have := World.ownsRow.cells h (g := g) rfl k (.float .f64 l[k]) (by simp [List.getElem?_eq_getElem hk])
      rcases k with _ | k <;> simpa [Addr.add] using this
theorem whole_of (k m : Int) (hk : k.natAbs ≤ 9007199254740992) (hm : 1 ≤ m ∧ m ≤ 4) (w : World) : Calls Tryd.prog 34 #[.float .f64 (floatOfInt .f64 k), .int .i64 m] w fun e w' => e = .returned (.tuple #[.int .i64 k, .int .i64 0]) ∧ Below w.heap.size w w' := by
  have h := real_Whole (floatOfInt .f64 k) m (int_rnd k).lt w
  rwa [(whole_big hk hm).1, (whole_big hk hm).2] at h
theorem total_take {l : List Int} {k : Nat} (hk : k < l.length) : total (l.take (k + 1)) = total (l.take k) + l[k] := by
  rw [List.take_succ_eq_append_getElem hk, total_snoc]
theorem words_of (l : List Int) : ∀ x ∈ l.map (floatOfInt .f64), x < 18446744073709551616 := by
  intro x hx
  obtain ⟨y, _, rfl⟩ := List.mem_map.1 hx
  exact (int_rnd y).lt
theorem TopWhole_out (n : Int) (p : Option Addr) (k cap : Nat) (h : 9007199254740992 < n ∨ n < -9007199254740992 ∨ 100 < k) (w : World) : Calls Tryd.prog 8 #[.int .i64 n, .slice p k cap] w fun e w' => e = .returned (.bool true) ∧ Below w.heap.size w w' := by
  have hB := fun w => begins1 w
  by_cases h1 : 9007199254740992 < n
  · go_enter Tryd.func8, Tryd.ntmps8
    go_wp2_with (go_at_call 27; refine (hB _).mono ?_; rintro e w1 ⟨rfl, hb⟩; obtain ⟨hc, hf⟩ := bcell hb; have z := hb.size; (try simp at z))
    go_ret
    exact ⟨rfl, by (focus (repeat' (first | exact Below.refl _ _ | refine Below.alloc ?_ ?_ _ | refine Below.setCell ?_ ?_ _ | refine Below.drew ?_ | refine below_drewN ?_ _ | refine Below.trans ?_ (Below.mono (by assumption) ?_) | refine Below.trans ?_ (Below.mono (BW.below _) ?_) | (simp; done) | (simp; omega) | omega)))⟩
  · have g1 : decide (9007199254740992 < n) = false := decide_eq_false h1
    by_cases h2 : n < -9007199254740992
    · go_enter Tryd.func8, Tryd.ntmps8
      go_wp2_with (go_at_call 27; refine (hB _).mono ?_; rintro e w1 ⟨rfl, hb⟩; obtain ⟨hc, hf⟩ := bcell hb; have z := hb.size; (try simp at z))
      go_ret
      exact ⟨rfl, by (focus (repeat' (first | exact Below.refl _ _ | refine Below.alloc ?_ ?_ _ | refine Below.setCell ?_ ?_ _ | refine Below.drew ?_ | refine below_drewN ?_ _ | refine Below.trans ?_ (Below.mono (by assumption) ?_) | refine Below.trans ?_ (Below.mono (BW.below _) ?_) | (simp; done) | (simp; omega) | omega)))⟩
    · have g2 : decide (n < -9007199254740992) = false := decide_eq_false h2
      have h3 : 100 < (k : Int) := by omega
      go_enter Tryd.func8, Tryd.ntmps8
      go_wp2_with (go_at_call 27; refine (hB _).mono ?_; rintro e w1 ⟨rfl, hb⟩; obtain ⟨hc, hf⟩ := bcell hb; have z := hb.size; (try simp at z))
      go_ret
      exact ⟨rfl, by (focus (repeat' (first | exact Below.refl _ _ | refine Below.alloc ?_ ?_ _ | refine Below.setCell ?_ ?_ _ | refine Below.drew ?_ | refine below_drewN ?_ _ | refine Below.trans ?_ (Below.mono (by assumption) ?_) | refine Below.trans ?_ (Below.mono (BW.below _) ?_) | (simp; done) | (simp; omega) | omega)))⟩
set_option maxRecDepth 100000 in
set_option maxHeartbeats 4000000 in
theorem TopWhole_in (n : Int) (p : Option Addr) (cap : Nat) (l : List Int) (h0 : -9007199254740992 ≤ n) (h1 : n ≤ 9007199254740992) (hl : l.length ≤ 100) (w : World) (hp : l = [] ∨ ∃ c off, p = some ⟨c, off, none⟩ ∧ IntAt w c off l) :
    Calls Tryd.prog 8 #[.int .i64 n, .slice p l.length cap] w fun e w' => e = .returned (.bool true) ∧ Below w.heap.size w w' := by
  have hB := fun w => begins1 w
  have hn := fun (m : Int) (hm : 1 ≤ m ∧ m ≤ 4) w => whole_of n m (by omega) hm w
  have hO := fun (x : Int) w => real_Of x w
  have hl' : (l.length : Int) ≤ 100 := by omega
  go_enter Tryd.func8, Tryd.ntmps8
  go_wp2_with (go_at_call 27; refine (hB _).mono ?_; rintro e w1 ⟨rfl, hb⟩; obtain ⟨hc, hf⟩ := bcell hb; have z := hb.size; (try simp at z))
  have B1 : Below w.heap.size w w1 := by assumption
  have z1 : w.heap.size ≤ w1.heap.size := B1.size
  clear hb hc hf hB
  go_loopw [5, 6, 31] (fun s v t wr => ∃ k : Nat, k ≤ l.length ∧ t = .int .i64 (k : Int) ∧ s = .int .i64 (total (l.take k)) ∧ (∀ x ∈ l.take k, x.natAbs ≤ 1099511627776) ∧ FRow wr w.heap.size v ((l.take k).map (floatOfInt .f64)) ∧ Below w.heap.size w wr) (fun _ _ t _ => l.length - (RowKit.intOf t).toNat)
  case atStart => exact ⟨0, by omega, rfl, rfl, by simp, World.ownsRow_nil _ _ _ _, B1⟩
  case round =>
    clear B1 z1
    obtain ⟨k, hk, rfl, rfl, hx, own, Br⟩ := hrel
    have zr := Br.size
    by_cases hlt : k < l.length
    · obtain ⟨c, off, rfl, hI⟩ := hp.resolve_left (by rintro rfl; simp at hlt)
      have ck := hI k hlt
      have cin : c < w.heap.size := cell_in ck
      have ck' : wr.cell? ⟨c, off + k, none⟩ = some (.int .i64 l[k]) := (Br.cell (p := ⟨c, off + k, none⟩) cin).trans ck
      have tt := total_take hlt
      obtain ⟨_, sm⟩ := sum_ints k (l.take k) (by simp; omega) hx (by omega)
      generalize hX : l[k] = x at *
      have tx : l.take (k + 1) = l.take k ++ [x] := by rw [List.take_succ_eq_append_getElem hlt, hX]
      have TX := Lib.hid tx
      have HX := Lib.hid hx
      have TT := Lib.hid tt
      clear tx hx tt hI ck hX hp
      generalize total (l.take k) = S at *
      by_cases hb1 : 1099511627776 < x
      · go_wp2_with fail
        go_ret
        exact ⟨rfl, Br⟩
      · have g1 : decide (1099511627776 < x) = false := decide_eq_false hb1
        by_cases hb2 : x < -1099511627776
        · go_wp2_with fail
          go_ret
          exact ⟨rfl, Br⟩
        · have g2 : decide (x < -1099511627776) = false := decide_eq_false hb2
          have hAd := fun w => num_Add S x (by unfold I64; omega) (by unfold I64; omega) w
          rw [(valI_y (okI_y (by omega))).1, (valI_y (okI_y (by omega))).2] at hAd
          go_wp2_with (first
            | (go_at_call 32; with_reducible refine (hAd _).mono ?_; rintro e w' ⟨rfl, rfl⟩)
            | (go_at_call 33; with_reducible refine (hO x _).mono ?_; rintro e w' ⟨rfl, rfl⟩)
            | (at_builtin; refine app_float rfl _ _ rfl w.heap.size _ _ rfl (own.below ?_) _ (floatOfInt .f64 x) rfl ?_ ?_ ?_ ?_; (focus (repeat' (first | exact Below.refl _ _ | refine Below.alloc ?_ ?_ _ | refine Below.setCell ?_ ?_ _ | refine Below.drew ?_ | refine below_drewN ?_ _ | refine Below.trans ?_ (Below.mono (by assumption) ?_) | refine Below.trans ?_ (Below.mono (BW.below _) ?_) | (simp; done) | (simp; omega) | omega))); (simp [Addr.add]); (first | (simp; done) | (simp; omega)); (first | (simp; done) | (simp; omega)); intro v3 w3 own3 hb3; have z3 := hb3.size; (try simp at z3)))
          go_roundw
          case rel =>
            refine ⟨k + 1, by omega, by simp, by rw [TT.out], fun y hy => ?_, ?_, by (focus (repeat' (first | exact Below.refl _ _ | refine Below.alloc ?_ ?_ _ | refine Below.setCell ?_ ?_ _ | refine Below.drew ?_ | refine below_drewN ?_ _ | refine Below.trans ?_ (Below.mono (by assumption) ?_) | refine Below.trans ?_ (Below.mono (BW.below _) ?_) | (simp; done) | (simp; omega) | omega)))⟩
            · rw [TX.out, List.mem_append] at hy
              rcases hy with hy | hy
              · exact HX.out y hy
              · rw [List.mem_singleton] at hy
                omega
            · rw [TX.out, List.map_append]
              exact own3
          case measure => simp [RowKit.intOf]; omega
    · have ek : k = l.length := by omega
      subst ek
      rw [List.take_length] at own hx
      rw [List.take_length]
      obtain ⟨sx, sm⟩ := sum_ints l.length l rfl hx (by omega)
      have hT := fun (m : Int) (hm : 1 ≤ m ∧ m ≤ 4) w => whole_of (total l) m (by omega) hm w
      have hS : ∀ wx : World, Below wr.heap.size wr wx → Calls Tryd.prog 35 #[_] wx fun e w' => e = .returned (.float .f64 (floatOfInt .f64 (total l))) ∧ Below wx.heap.size wx w' := fun wx hb => sum_row (own.below hb) (words_of l) sx
      clear own sx sm hx hp
      generalize total l = T at *
      have HS := Lib.hid hS
      clear hS
      go_wp2_with fail
      refine wp_loop_rounds 8 ?_
      rw [rounds_succ]
      go_wp2_with (go_at_call 33; with_reducible refine (hO n _).mono ?_; rintro e w' ⟨rfl, rfl⟩)
      refine (hn 1 (by omega) _).mono ?_
      rintro e a1 ⟨rfl, ha1⟩
      have Ba1 : Below wr.heap.size wr a1 := ha1
      go_wp2_with fail
      refine (HS.out a1 Ba1).mono ?_
      rintro e b1 ⟨rfl, hb1⟩
      have Bb1 : Below wr.heap.size wr b1 := Ba1.trans (hb1.mono Ba1.size)
      go_wp2_with fail
      refine (hT 1 (by omega) _).mono ?_
      rintro e c1 ⟨rfl, hc1⟩
      have Bc1 : Below wr.heap.size wr c1 := Bb1.trans (hc1.mono Bb1.size)
      go_wp2_with fail
      rw [rounds_succ]
      go_wp2_with (go_at_call 33; with_reducible refine (hO n _).mono ?_; rintro e w' ⟨rfl, rfl⟩)
      refine (hn 2 (by omega) _).mono ?_
      rintro e a2 ⟨rfl, ha2⟩
      have Ba2 : Below wr.heap.size wr a2 := Bc1.trans (ha2.mono Bc1.size)
      go_wp2_with fail
      refine (HS.out a2 Ba2).mono ?_
      rintro e b2 ⟨rfl, hb2⟩
      have Bb2 : Below wr.heap.size wr b2 := Ba2.trans (hb2.mono Ba2.size)
      go_wp2_with fail
      refine (hT 2 (by omega) _).mono ?_
      rintro e c2 ⟨rfl, hc2⟩
      have Bc2 : Below wr.heap.size wr c2 := Bb2.trans (hc2.mono Bb2.size)
      go_wp2_with fail
      rw [rounds_succ]
      go_wp2_with (go_at_call 33; with_reducible refine (hO n _).mono ?_; rintro e w' ⟨rfl, rfl⟩)
      refine (hn 3 (by omega) _).mono ?_
      rintro e a3 ⟨rfl, ha3⟩
      have Ba3 : Below wr.heap.size wr a3 := Bc2.trans (ha3.mono Bc2.size)
      go_wp2_with fail
      refine (HS.out a3 Ba3).mono ?_
      rintro e b3 ⟨rfl, hb3⟩
      have Bb3 : Below wr.heap.size wr b3 := Ba3.trans (hb3.mono Ba3.size)
      go_wp2_with fail
      refine (hT 3 (by omega) _).mono ?_
      rintro e c3 ⟨rfl, hc3⟩
      have Bc3 : Below wr.heap.size wr c3 := Bb3.trans (hc3.mono Bb3.size)
      go_wp2_with fail
      rw [rounds_succ]
      go_wp2_with (go_at_call 33; with_reducible refine (hO n _).mono ?_; rintro e w' ⟨rfl, rfl⟩)
      refine (hn 4 (by omega) _).mono ?_
      rintro e a4 ⟨rfl, ha4⟩
      have Ba4 : Below wr.heap.size wr a4 := Bc3.trans (ha4.mono Bc3.size)
      go_wp2_with fail
      refine (HS.out a4 Ba4).mono ?_
      rintro e b4 ⟨rfl, hb4⟩
      have Bb4 : Below wr.heap.size wr b4 := Ba4.trans (hb4.mono Ba4.size)
      go_wp2_with fail
      refine (hT 4 (by omega) _).mono ?_
      rintro e c4 ⟨rfl, hc4⟩
      have Bc4 : Below wr.heap.size wr c4 := Bb4.trans (hc4.mono Bb4.size)
      go_wp2_with fail
      rw [rounds_succ]
      go_wp2_with fail
      go_ret
      exact ⟨rfl, Br.trans (Bc4.mono zr)⟩
theorem TopWhole_frame (n : Int) (p : Option Addr) (cap : Nat) (l : List Int) (w : World) (hp : l = [] ∨ ∃ c off, p = some ⟨c, off, none⟩ ∧ IntAt w c off l) :
    Calls Tryd.prog 8 #[.int .i64 n, .slice p l.length cap] w fun e w' => e = .returned (.bool true) ∧ Below w.heap.size w w' := by
  by_cases h : 9007199254740992 < n ∨ n < -9007199254740992 ∨ 100 < l.length
  · exact TopWhole_out n p l.length cap h w
  · exact TopWhole_in n p cap l (by omega) (by omega) (by omega) w hp
end Go.Proofs.YtblmlglkjmilkacDoor
