/-
  noontidetop.TopWeeks: the walk.
-/
import Derived.Test.YtblmlglkjmilkaaDayX
import Derived.Test.YtblmlglkjmilkaaMonA
namespace Go.Proofs.Ytblmlglkjmilkaa
open Go.RowKit Cal
attribute [local go_sem] BW.cell BW.frozen

theorem top_begins3 (w : World) : Calls Try.prog 61 #[] w fun e w' => e = .returned (.bool true) ∧ Below w.heap.size w w' := by
  have q0 : ruleV 2 0 8 2024 3 = 19792 := by decide
  have q1 : ruleE 2 0 8 2024 3 = 0 := by decide
  have hD := fun w => dayrule_Days 2 0 8 2024 3 (I64.sm (by omega)) w
  rw [q0, q1] at hD
  clear q0 q1
  go_enter Try.func61, Try.ntmps61
  go_wp2_with (go_at_call 35; refine (hD _).mono ?_; rintro e w1 ⟨rfl, hb⟩; obtain ⟨hc, hf⟩ := bcell hb; have z := hb.size; (try simp at z))
  go_ret
  exact ⟨rfl, by (focus (repeat' (first | exact Below.refl _ _ | refine Below.alloc ?_ ?_ _ | refine Below.setCell ?_ ?_ _ | refine Below.drew ?_ | refine below_drewN ?_ _ | refine Below.trans ?_ (Below.mono (by assumption) ?_) | refine Below.trans ?_ (Below.mono (BW.below _) ?_) | (simp; done) | (simp; omega) | omega)))⟩

/-- The days of a weekday in a month: a week from each other; the last one; the next month. -/
theorem weeks_of {w y m : Int} (hw : 0 ≤ w ∧ w ≤ 6) (hm : 1 ≤ m ∧ m ≤ 12) (hy : -39000 ≤ y ∧ y ≤ 39000) :
    ∃ N F : Int, (ruleV 2 w 1 y m = N ∧ ruleV 2 w 8 y m = N + 7 ∧ ruleV 2 w 15 y m = N + 7 + 7 ∧ ruleV 2 w 22 y m = N + 7 + 7 + 7) ∧ (ruleV 3 w 7 y m = N ∧ ruleV 3 w 14 y m = N + 7 ∧ ruleV 3 w 21 y m = N + 7 + 7 ∧ ruleV 3 w 28 y m = N + 7 + 7 + 7) ∧
      (ruleE 2 w 1 y m = 0 ∧ ruleE 2 w 8 y m = 0 ∧ ruleE 2 w 15 y m = 0 ∧ ruleE 2 w 22 y m = 0) ∧ (ruleE 3 w 7 y m = 0 ∧ ruleE 3 w 14 y m = 0 ∧ ruleE 3 w 21 y m = 0 ∧ ruleE 3 w 28 y m = 0) ∧
      (ruleV 1 w 0 y m = N + 7 + 7 + 7 ∨ ruleV 1 w 0 y m = N + 7 + 7 + 7 + 7) ∧ ruleE 1 w 0 y m = 0 ∧ ruleV 1 w 0 y m < F ∧ F ≤ ruleV 1 w 0 y m + 7 ∧
      addE y m 1 1 = 0 ∧ dayV (addY y m 1 1) (addM y m 1 1) (addD y m 1 1) = F ∧ dayE (addY y m 1 1) (addM y m 1 1) (addD y m 1 1) = 0 ∧ -40000 ≤ addY y m 1 1 ∧ addY y m 1 1 ≤ 40000 ∧ -100000000 ≤ N ∧ N ≤ 100000100 := by
  obtain ⟨l0, l1, l2, l3, l4⟩ := mlen_le y m hm.1 hm.2
  have iy : inB y (-39999) 39999 = true := inB_iff.2 (by omega)
  have f23 : ∀ k x, k = 2 ∨ k = 3 → 1 ≤ x → x ≤ 28 → onFits k w x m = true := fun k x hk h1 h2 => (fits_iff k w x m).2 ⟨(ok_iff k w x).2 (by omega), by omega⟩
  have f1 : onFits 1 w 0 m = true := (fits_iff 1 w 0 m).2 ⟨(ok_iff 1 w 0).2 (by omega), by omega⟩
  obtain ⟨n0, n1⟩ := numb_bd y m 1 (by omega)
  have e2 : ∀ x, ruleN 2 w x y m = numb y m 1 + x - 1 + (6 - backI (numb y m 1 + x - 1 + 6) w) := fun x => rfl
  have e3 : ∀ x, ruleN 3 w x y m = numb y m 1 + x - 1 - backI (numb y m 1 + x - 1) w := fun x => rfl
  have e1 : ruleN 1 w 0 y m = numb y m 1 + mlen y m - 1 - backI (numb y m 1 + mlen y m - 1) w := rfl
  have v2 : ∀ x, 1 ≤ x → x ≤ 28 → ruleV 2 w x y m = numb y m 1 + x - 1 + (6 - backI (numb y m 1 + x - 1 + 6) w) ∧ ruleE 2 w x y m = 0 := fun x h1 h2 => ⟨(rule_y (f23 2 x (.inl rfl) h1 h2) iy).1.trans (e2 x), (rule_y (f23 2 x (.inl rfl) h1 h2) iy).2⟩
  have v3 : ∀ x, 1 ≤ x → x ≤ 28 → ruleV 3 w x y m = numb y m 1 + x - 1 - backI (numb y m 1 + x - 1) w ∧ ruleE 3 w x y m = 0 := fun x h1 h2 => ⟨(rule_y (f23 3 x (.inr rfl) h1 h2) iy).1.trans (e3 x), (rule_y (f23 3 x (.inr rfl) h1 h2) iy).2⟩
  have w1 := (rule_y f1 iy).1.trans e1
  have w2 := (rule_y f1 iy).2
  -- the next month
  have hr : rightB y m 1 = true := (right_iff _ _ _).2 (by omega)
  have hb : addB y m 1 1 = true := (addB_iff _ _ _ _).2 ⟨hr, by unfold moN; omega⟩
  obtain ⟨a1, a2, a3, a4⟩ := add_y hb
  have hn : rightB (addY y m 1 1) (addM y m 1 1) (addD y m 1 1) = true := by
    have := reach_right (moN y m 1 / 12) (moN y m 1) 1 (by omega)
    rw [a1, a2, a3, this]
    exact decide_eq_true ((addB_iff _ _ _ _).1 hb).2
  have hD : addD y m 1 1 = 1 := by
    have h1 := (right_iff _ _ _).1 hn
    have h2 := minI_cases 1 (mlen (moN y m 1 / 12) (moN y m 1 % 12 + 1))
    omega
  have hF : numb (addY y m 1 1) (addM y m 1 1) (addD y m 1 1) = numb y m 1 + mlen y m := by
    rw [hD]
    by_cases h12 : m = 12
    · subst h12
      have b1 : addY y 12 1 1 = y + 1 := by rw [a1]; unfold moN; omega
      have b2 : addM y 12 1 1 = 1 := by rw [a2]; unfold moN; omega
      have c1 := cum_12 y
      have c2 := ahead_succ y
      have c3 := cum_1 (y + 1)
      rw [b1, b2]; unfold numb; omega
    · have b1 : addY y m 1 1 = y := by rw [a1]; unfold moN; omega
      have b2 : addM y m 1 1 = m + 1 := by rw [a2]; unfold moN; omega
      have c1 := cum_succ y m hm.1 (by omega)
      rw [b1, b2]; unfold numb; omega
  have g1 : dayV (addY y m 1 1) (addM y m 1 1) (addD y m 1 1) = numb y m 1 + mlen y m := by simp [dayV, hn, hF]
  have g2 : dayE (addY y m 1 1) (addM y m 1 1) (addD y m 1 1) = 0 := by simp [dayE, hn]
  have g3 := (right_iff _ _ _).1 hn
  refine ⟨numb y m 1 + (6 - backI (numb y m 1 + 6) w), numb y m 1 + mlen y m, ?_⟩
  rw [g1, g2, a4, w1, w2, (v2 1 (by omega) (by omega)).1, (v2 8 (by omega) (by omega)).1, (v2 15 (by omega) (by omega)).1, (v2 22 (by omega) (by omega)).1, (v2 1 (by omega) (by omega)).2, (v2 8 (by omega) (by omega)).2, (v2 15 (by omega) (by omega)).2, (v2 22 (by omega) (by omega)).2,
    (v3 7 (by omega) (by omega)).1, (v3 14 (by omega) (by omega)).1, (v3 21 (by omega) (by omega)).1, (v3 28 (by omega) (by omega)).1, (v3 7 (by omega) (by omega)).2, (v3 14 (by omega) (by omega)).2, (v3 21 (by omega) (by omega)).2, (v3 28 (by omega) (by omega)).2]
  have hw0 := hw.1
  have hw1 := hw.2
  have g30 := g3.1
  have g31 := g3.2.1
  clear v2 v3 e1 e2 e3 w1 w2 f1 f23 hr hb hn hD hF g1 g2 a1 a2 a3 a4 iy hy g3 hw
  generalize numb y m 1 = f at *
  generalize mlen y m = L at *
  have hL0 : 28 ≤ L := by omega
  have hL1 : L ≤ 31 := by omega
  clear l0 l1 l2 l3 l4
  unfold backI wday
  refine ⟨⟨by omega, by omega, by omega, by omega⟩, ⟨by omega, by omega, by omega, by omega⟩, ⟨rfl, rfl, rfl, rfl⟩, ⟨rfl, rfl, rfl, rfl⟩, by omega, rfl, by omega, by omega, rfl, rfl, rfl, g30, g31, by omega, by omega⟩

set_option maxRecDepth 100000 in
set_option maxHeartbeats 4000000 in
theorem TopWeeks_n (y m wk : Int) (hn : ¬ (0 ≤ wk ∧ wk ≤ 6 ∧ 1 ≤ m ∧ m ≤ 12 ∧ -39000 ≤ y ∧ y ≤ 39000)) (w : World) : Calls Try.prog 12 #[.int .i64 y, .int .i64 m, .int .i64 wk] w fun e w' => e = .returned (.bool true) ∧ Below w.heap.size w w' := by
  have HN := Lib.hid hn
  clear hn
  go_enter Try.func12, Try.ntmps12
  go_wp2_with fail
  refine (top_begins3 _).mono ?_
  rintro e w1 ⟨rfl, hb1⟩
  have B1 : Below w.heap.size w w1 := by (focus (repeat' (first | assumption | exact Below.refl _ _ | refine Below.alloc ?_ ?_ _ | refine Below.setCell ?_ ?_ _ | refine Below.drew ?_ | refine below_drewN ?_ _ | refine Below.trans ?_ (Below.mono (by assumption) ?_) | refine Below.trans ?_ (Below.mono (BW.below _) ?_) | (simp; done) | (simp; omega) | omega)))
  have n1 : w.heap.size ≤ w1.heap.size := B1.size
  clear hb1
  go_wp2_with fail
  all_goals (first | (exfalso; have := HN.out; omega) | (go_ret; exact ⟨rfl, by (focus (repeat' (first | assumption | exact Below.refl _ _ | refine Below.alloc ?_ ?_ _ | refine Below.setCell ?_ ?_ _ | refine Below.drew ?_ | refine below_drewN ?_ _ | refine Below.trans ?_ (Below.mono (by assumption) ?_) | refine Below.trans ?_ (Below.mono (BW.below _) ?_) | (simp; done) | (simp; omega) | omega)))⟩))
set_option maxRecDepth 100000 in
set_option maxHeartbeats 4000000 in
theorem TopWeeks_a (y m wk : Int) (ky : I64 y) (hk : 0 ≤ wk ∧ wk ≤ 6) (hm : 1 ≤ m ∧ m ≤ 12) (hy : -39000 ≤ y ∧ y ≤ 39000) (N F : Int) (a : ruleV 2 wk 1 y m = N ∧ ruleV 2 wk 8 y m = N + 7 ∧ ruleV 2 wk 15 y m = N + 7 + 7 ∧ ruleV 2 wk 22 y m = N + 7 + 7 + 7) (b : ruleV 3 wk 7 y m = N ∧ ruleV 3 wk 14 y m = N + 7 ∧ ruleV 3 wk 21 y m = N + 7 + 7 ∧ ruleV 3 wk 28 y m = N + 7 + 7 + 7)
    (c : ruleE 2 wk 1 y m = 0 ∧ ruleE 2 wk 8 y m = 0 ∧ ruleE 2 wk 15 y m = 0 ∧ ruleE 2 wk 22 y m = 0) (d : ruleE 3 wk 7 y m = 0 ∧ ruleE 3 wk 14 y m = 0 ∧ ruleE 3 wk 21 y m = 0 ∧ ruleE 3 wk 28 y m = 0)
    (e : ruleV 1 wk 0 y m = N + 7 + 7 + 7) (f : ruleE 1 wk 0 y m = 0) (g : ruleV 1 wk 0 y m < F) (h : F ≤ ruleV 1 wk 0 y m + 7) (p : addE y m 1 1 = 0) (q : dayV (addY y m 1 1) (addM y m 1 1) (addD y m 1 1) = F) (r : dayE (addY y m 1 1) (addM y m 1 1) (addD y m 1 1) = 0) (s0 : -40000 ≤ addY y m 1 1) (s1 : addY y m 1 1 ≤ 40000) (t0 : -100000000 ≤ N) (t1 : N ≤ 100000100) (w : World) : Calls Try.prog 12 #[.int .i64 y, .int .i64 m, .int .i64 wk] w fun e w' => e = .returned (.bool true) ∧ Below w.heap.size w w' := by
  have hA0 := fun w => dayrule_Days 2 wk 1 y m ky w
  rw [a.1, c.1] at hA0
  have hB0 := fun w => dayrule_Days 3 wk 7 y m ky w
  rw [b.1, d.1] at hB0
  have hA1 := fun w => dayrule_Days 2 wk 8 y m ky w
  rw [a.2.1, c.2.1] at hA1
  have hB1 := fun w => dayrule_Days 3 wk 14 y m ky w
  rw [b.2.1, d.2.1] at hB1
  have hA2 := fun w => dayrule_Days 2 wk 15 y m ky w
  rw [a.2.2.1, c.2.2.1] at hA2
  have hB2 := fun w => dayrule_Days 3 wk 21 y m ky w
  rw [b.2.2.1, d.2.2.1] at hB2
  have hA3 := fun w => dayrule_Days 2 wk 22 y m ky w
  rw [a.2.2.2, c.2.2.2] at hA3
  have hB3 := fun w => dayrule_Days 3 wk 28 y m ky w
  rw [b.2.2.2, d.2.2.2] at hB3
  have hL := fun w => dayrule_Days 1 wk 0 y m ky w
  rw [e, f] at hL
  rw [e] at g h
  have hM := fun w => monthly_Add y m 1 1 ky (I64.sm (by omega)) (I64.sm (by omega)) w
  rw [p] at hM
  have hC := fun w => civil_Days (addY y m 1 1) (addM y m 1 1) (addD y m 1 1) (I64.sm (by omega)) w
  rw [q, r] at hC
  clear a b c d e f p q r s0 s1
  obtain ⟨k0, k1⟩ := hk
  obtain ⟨m0, m1⟩ := hm
  obtain ⟨y0, y1⟩ := hy
  generalize addY y m 1 1 = Y at *
  generalize addM y m 1 1 = M at *
  generalize addD y m 1 1 = D at *
  go_enter Try.func12, Try.ntmps12
  go_wp2_with fail
  refine (top_begins3 _).mono ?_
  rintro e w1 ⟨rfl, hb1⟩
  have B1 : Below w.heap.size w w1 := by (focus (repeat' (first | assumption | exact Below.refl _ _ | refine Below.alloc ?_ ?_ _ | refine Below.setCell ?_ ?_ _ | refine Below.drew ?_ | refine below_drewN ?_ _ | refine Below.trans ?_ (Below.mono (by assumption) ?_) | refine Below.trans ?_ (Below.mono (BW.below _) ?_) | (simp; done) | (simp; omega) | omega)))
  have n1 : w.heap.size ≤ w1.heap.size := B1.size
  clear hb1
  go_wp2_with fail
  refine wp_loop_rounds 8 ?_
  rw [rounds_succ]
  go_wp2_with fail
  refine (hA0 _).mono ?_
  rintro e w2 ⟨rfl, hb2⟩
  have B2 : Below w.heap.size w w2 := by (focus (repeat' (first | assumption | exact Below.refl _ _ | refine Below.alloc ?_ ?_ _ | refine Below.setCell ?_ ?_ _ | refine Below.drew ?_ | refine below_drewN ?_ _ | refine Below.trans ?_ (Below.mono (by assumption) ?_) | refine Below.trans ?_ (Below.mono (BW.below _) ?_) | (simp; done) | (simp; omega) | omega)))
  have n2 : w.heap.size ≤ w2.heap.size := B2.size
  clear hb2 B1
  go_wp2_with fail
  refine (hB0 _).mono ?_
  rintro e w3 ⟨rfl, hb3⟩
  have B3 : Below w.heap.size w w3 := by (focus (repeat' (first | assumption | exact Below.refl _ _ | refine Below.alloc ?_ ?_ _ | refine Below.setCell ?_ ?_ _ | refine Below.drew ?_ | refine below_drewN ?_ _ | refine Below.trans ?_ (Below.mono (by assumption) ?_) | refine Below.trans ?_ (Below.mono (BW.below _) ?_) | (simp; done) | (simp; omega) | omega)))
  have n3 : w.heap.size ≤ w3.heap.size := B3.size
  clear hb3 B2
  go_wp2_with fail
  rw [rounds_succ]
  go_wp2_with fail
  refine (hA1 _).mono ?_
  rintro e w4 ⟨rfl, hb4⟩
  have B4 : Below w.heap.size w w4 := by (focus (repeat' (first | assumption | exact Below.refl _ _ | refine Below.alloc ?_ ?_ _ | refine Below.setCell ?_ ?_ _ | refine Below.drew ?_ | refine below_drewN ?_ _ | refine Below.trans ?_ (Below.mono (by assumption) ?_) | refine Below.trans ?_ (Below.mono (BW.below _) ?_) | (simp; done) | (simp; omega) | omega)))
  have n4 : w.heap.size ≤ w4.heap.size := B4.size
  clear hb4 B3
  go_wp2_with fail
  refine (hB1 _).mono ?_
  rintro e w5 ⟨rfl, hb5⟩
  have B5 : Below w.heap.size w w5 := by (focus (repeat' (first | assumption | exact Below.refl _ _ | refine Below.alloc ?_ ?_ _ | refine Below.setCell ?_ ?_ _ | refine Below.drew ?_ | refine below_drewN ?_ _ | refine Below.trans ?_ (Below.mono (by assumption) ?_) | refine Below.trans ?_ (Below.mono (BW.below _) ?_) | (simp; done) | (simp; omega) | omega)))
  have n5 : w.heap.size ≤ w5.heap.size := B5.size
  clear hb5 B4
  go_wp2_with fail
  rw [rounds_succ]
  go_wp2_with fail
  refine (hA2 _).mono ?_
  rintro e w6 ⟨rfl, hb6⟩
  have B6 : Below w.heap.size w w6 := by (focus (repeat' (first | assumption | exact Below.refl _ _ | refine Below.alloc ?_ ?_ _ | refine Below.setCell ?_ ?_ _ | refine Below.drew ?_ | refine below_drewN ?_ _ | refine Below.trans ?_ (Below.mono (by assumption) ?_) | refine Below.trans ?_ (Below.mono (BW.below _) ?_) | (simp; done) | (simp; omega) | omega)))
  have n6 : w.heap.size ≤ w6.heap.size := B6.size
  clear hb6 B5
  go_wp2_with fail
  refine (hB2 _).mono ?_
  rintro e w7 ⟨rfl, hb7⟩
  have B7 : Below w.heap.size w w7 := by (focus (repeat' (first | assumption | exact Below.refl _ _ | refine Below.alloc ?_ ?_ _ | refine Below.setCell ?_ ?_ _ | refine Below.drew ?_ | refine below_drewN ?_ _ | refine Below.trans ?_ (Below.mono (by assumption) ?_) | refine Below.trans ?_ (Below.mono (BW.below _) ?_) | (simp; done) | (simp; omega) | omega)))
  have n7 : w.heap.size ≤ w7.heap.size := B7.size
  clear hb7 B6
  go_wp2_with fail
  rw [rounds_succ]
  go_wp2_with fail
  refine (hA3 _).mono ?_
  rintro e w8 ⟨rfl, hb8⟩
  have B8 : Below w.heap.size w w8 := by (focus (repeat' (first | assumption | exact Below.refl _ _ | refine Below.alloc ?_ ?_ _ | refine Below.setCell ?_ ?_ _ | refine Below.drew ?_ | refine below_drewN ?_ _ | refine Below.trans ?_ (Below.mono (by assumption) ?_) | refine Below.trans ?_ (Below.mono (BW.below _) ?_) | (simp; done) | (simp; omega) | omega)))
  have n8 : w.heap.size ≤ w8.heap.size := B8.size
  clear hb8 B7
  go_wp2_with fail
  refine (hB3 _).mono ?_
  rintro e w9 ⟨rfl, hb9⟩
  have B9 : Below w.heap.size w w9 := by (focus (repeat' (first | assumption | exact Below.refl _ _ | refine Below.alloc ?_ ?_ _ | refine Below.setCell ?_ ?_ _ | refine Below.drew ?_ | refine below_drewN ?_ _ | refine Below.trans ?_ (Below.mono (by assumption) ?_) | refine Below.trans ?_ (Below.mono (BW.below _) ?_) | (simp; done) | (simp; omega) | omega)))
  have n9 : w.heap.size ≤ w9.heap.size := B9.size
  clear hb9 B8
  go_wp2_with fail
  rw [rounds_succ]
  go_wp2_with fail
  refine (hL _).mono ?_
  rintro e w10 ⟨rfl, hb10⟩
  have B10 : Below w.heap.size w w10 := by (focus (repeat' (first | assumption | exact Below.refl _ _ | refine Below.alloc ?_ ?_ _ | refine Below.setCell ?_ ?_ _ | refine Below.drew ?_ | refine below_drewN ?_ _ | refine Below.trans ?_ (Below.mono (by assumption) ?_) | refine Below.trans ?_ (Below.mono (BW.below _) ?_) | (simp; done) | (simp; omega) | omega)))
  have n10 : w.heap.size ≤ w10.heap.size := B10.size
  clear hb10 B9
  go_wp2_with fail
  refine (hM _).mono ?_
  rintro e w11 ⟨rfl, hb11⟩
  have B11 : Below w.heap.size w w11 := by (focus (repeat' (first | assumption | exact Below.refl _ _ | refine Below.alloc ?_ ?_ _ | refine Below.setCell ?_ ?_ _ | refine Below.drew ?_ | refine below_drewN ?_ _ | refine Below.trans ?_ (Below.mono (by assumption) ?_) | refine Below.trans ?_ (Below.mono (BW.below _) ?_) | (simp; done) | (simp; omega) | omega)))
  have n11 : w.heap.size ≤ w11.heap.size := B11.size
  clear hb11 B10
  go_wp2_with fail
  refine (hC _).mono ?_
  rintro e w12 ⟨rfl, hb12⟩
  have B12 : Below w.heap.size w w12 := by (focus (repeat' (first | assumption | exact Below.refl _ _ | refine Below.alloc ?_ ?_ _ | refine Below.setCell ?_ ?_ _ | refine Below.drew ?_ | refine below_drewN ?_ _ | refine Below.trans ?_ (Below.mono (by assumption) ?_) | refine Below.trans ?_ (Below.mono (BW.below _) ?_) | (simp; done) | (simp; omega) | omega)))
  have n12 : w.heap.size ≤ w12.heap.size := B12.size
  clear hb12 B11
  go_wp2_with fail
  go_ret
  exact ⟨rfl, by (focus (repeat' (first | assumption | exact Below.refl _ _ | refine Below.alloc ?_ ?_ _ | refine Below.setCell ?_ ?_ _ | refine Below.drew ?_ | refine below_drewN ?_ _ | refine Below.trans ?_ (Below.mono (by assumption) ?_) | refine Below.trans ?_ (Below.mono (BW.below _) ?_) | (simp; done) | (simp; omega) | omega)))⟩
set_option maxRecDepth 100000 in
set_option maxHeartbeats 4000000 in
theorem TopWeeks_b (y m wk : Int) (ky : I64 y) (hk : 0 ≤ wk ∧ wk ≤ 6) (hm : 1 ≤ m ∧ m ≤ 12) (hy : -39000 ≤ y ∧ y ≤ 39000) (N F : Int) (a : ruleV 2 wk 1 y m = N ∧ ruleV 2 wk 8 y m = N + 7 ∧ ruleV 2 wk 15 y m = N + 7 + 7 ∧ ruleV 2 wk 22 y m = N + 7 + 7 + 7) (b : ruleV 3 wk 7 y m = N ∧ ruleV 3 wk 14 y m = N + 7 ∧ ruleV 3 wk 21 y m = N + 7 + 7 ∧ ruleV 3 wk 28 y m = N + 7 + 7 + 7)
    (c : ruleE 2 wk 1 y m = 0 ∧ ruleE 2 wk 8 y m = 0 ∧ ruleE 2 wk 15 y m = 0 ∧ ruleE 2 wk 22 y m = 0) (d : ruleE 3 wk 7 y m = 0 ∧ ruleE 3 wk 14 y m = 0 ∧ ruleE 3 wk 21 y m = 0 ∧ ruleE 3 wk 28 y m = 0)
    (e : ruleV 1 wk 0 y m = N + 7 + 7 + 7 + 7) (f : ruleE 1 wk 0 y m = 0) (g : ruleV 1 wk 0 y m < F) (h : F ≤ ruleV 1 wk 0 y m + 7) (p : addE y m 1 1 = 0) (q : dayV (addY y m 1 1) (addM y m 1 1) (addD y m 1 1) = F) (r : dayE (addY y m 1 1) (addM y m 1 1) (addD y m 1 1) = 0) (s0 : -40000 ≤ addY y m 1 1) (s1 : addY y m 1 1 ≤ 40000) (t0 : -100000000 ≤ N) (t1 : N ≤ 100000100) (w : World) : Calls Try.prog 12 #[.int .i64 y, .int .i64 m, .int .i64 wk] w fun e w' => e = .returned (.bool true) ∧ Below w.heap.size w w' := by
  have hA0 := fun w => dayrule_Days 2 wk 1 y m ky w
  rw [a.1, c.1] at hA0
  have hB0 := fun w => dayrule_Days 3 wk 7 y m ky w
  rw [b.1, d.1] at hB0
  have hA1 := fun w => dayrule_Days 2 wk 8 y m ky w
  rw [a.2.1, c.2.1] at hA1
  have hB1 := fun w => dayrule_Days 3 wk 14 y m ky w
  rw [b.2.1, d.2.1] at hB1
  have hA2 := fun w => dayrule_Days 2 wk 15 y m ky w
  rw [a.2.2.1, c.2.2.1] at hA2
  have hB2 := fun w => dayrule_Days 3 wk 21 y m ky w
  rw [b.2.2.1, d.2.2.1] at hB2
  have hA3 := fun w => dayrule_Days 2 wk 22 y m ky w
  rw [a.2.2.2, c.2.2.2] at hA3
  have hB3 := fun w => dayrule_Days 3 wk 28 y m ky w
  rw [b.2.2.2, d.2.2.2] at hB3
  have hL := fun w => dayrule_Days 1 wk 0 y m ky w
  rw [e, f] at hL
  rw [e] at g h
  have hM := fun w => monthly_Add y m 1 1 ky (I64.sm (by omega)) (I64.sm (by omega)) w
  rw [p] at hM
  have hC := fun w => civil_Days (addY y m 1 1) (addM y m 1 1) (addD y m 1 1) (I64.sm (by omega)) w
  rw [q, r] at hC
  clear a b c d e f p q r s0 s1
  obtain ⟨k0, k1⟩ := hk
  obtain ⟨m0, m1⟩ := hm
  obtain ⟨y0, y1⟩ := hy
  generalize addY y m 1 1 = Y at *
  generalize addM y m 1 1 = M at *
  generalize addD y m 1 1 = D at *
  go_enter Try.func12, Try.ntmps12
  go_wp2_with fail
  refine (top_begins3 _).mono ?_
  rintro e w1 ⟨rfl, hb1⟩
  have B1 : Below w.heap.size w w1 := by (focus (repeat' (first | assumption | exact Below.refl _ _ | refine Below.alloc ?_ ?_ _ | refine Below.setCell ?_ ?_ _ | refine Below.drew ?_ | refine below_drewN ?_ _ | refine Below.trans ?_ (Below.mono (by assumption) ?_) | refine Below.trans ?_ (Below.mono (BW.below _) ?_) | (simp; done) | (simp; omega) | omega)))
  have n1 : w.heap.size ≤ w1.heap.size := B1.size
  clear hb1
  go_wp2_with fail
  refine wp_loop_rounds 8 ?_
  rw [rounds_succ]
  go_wp2_with fail
  refine (hA0 _).mono ?_
  rintro e w2 ⟨rfl, hb2⟩
  have B2 : Below w.heap.size w w2 := by (focus (repeat' (first | assumption | exact Below.refl _ _ | refine Below.alloc ?_ ?_ _ | refine Below.setCell ?_ ?_ _ | refine Below.drew ?_ | refine below_drewN ?_ _ | refine Below.trans ?_ (Below.mono (by assumption) ?_) | refine Below.trans ?_ (Below.mono (BW.below _) ?_) | (simp; done) | (simp; omega) | omega)))
  have n2 : w.heap.size ≤ w2.heap.size := B2.size
  clear hb2 B1
  go_wp2_with fail
  refine (hB0 _).mono ?_
  rintro e w3 ⟨rfl, hb3⟩
  have B3 : Below w.heap.size w w3 := by (focus (repeat' (first | assumption | exact Below.refl _ _ | refine Below.alloc ?_ ?_ _ | refine Below.setCell ?_ ?_ _ | refine Below.drew ?_ | refine below_drewN ?_ _ | refine Below.trans ?_ (Below.mono (by assumption) ?_) | refine Below.trans ?_ (Below.mono (BW.below _) ?_) | (simp; done) | (simp; omega) | omega)))
  have n3 : w.heap.size ≤ w3.heap.size := B3.size
  clear hb3 B2
  go_wp2_with fail
  rw [rounds_succ]
  go_wp2_with fail
  refine (hA1 _).mono ?_
  rintro e w4 ⟨rfl, hb4⟩
  have B4 : Below w.heap.size w w4 := by (focus (repeat' (first | assumption | exact Below.refl _ _ | refine Below.alloc ?_ ?_ _ | refine Below.setCell ?_ ?_ _ | refine Below.drew ?_ | refine below_drewN ?_ _ | refine Below.trans ?_ (Below.mono (by assumption) ?_) | refine Below.trans ?_ (Below.mono (BW.below _) ?_) | (simp; done) | (simp; omega) | omega)))
  have n4 : w.heap.size ≤ w4.heap.size := B4.size
  clear hb4 B3
  go_wp2_with fail
  refine (hB1 _).mono ?_
  rintro e w5 ⟨rfl, hb5⟩
  have B5 : Below w.heap.size w w5 := by (focus (repeat' (first | assumption | exact Below.refl _ _ | refine Below.alloc ?_ ?_ _ | refine Below.setCell ?_ ?_ _ | refine Below.drew ?_ | refine below_drewN ?_ _ | refine Below.trans ?_ (Below.mono (by assumption) ?_) | refine Below.trans ?_ (Below.mono (BW.below _) ?_) | (simp; done) | (simp; omega) | omega)))
  have n5 : w.heap.size ≤ w5.heap.size := B5.size
  clear hb5 B4
  go_wp2_with fail
  rw [rounds_succ]
  go_wp2_with fail
  refine (hA2 _).mono ?_
  rintro e w6 ⟨rfl, hb6⟩
  have B6 : Below w.heap.size w w6 := by (focus (repeat' (first | assumption | exact Below.refl _ _ | refine Below.alloc ?_ ?_ _ | refine Below.setCell ?_ ?_ _ | refine Below.drew ?_ | refine below_drewN ?_ _ | refine Below.trans ?_ (Below.mono (by assumption) ?_) | refine Below.trans ?_ (Below.mono (BW.below _) ?_) | (simp; done) | (simp; omega) | omega)))
  have n6 : w.heap.size ≤ w6.heap.size := B6.size
  clear hb6 B5
  go_wp2_with fail
  refine (hB2 _).mono ?_
  rintro e w7 ⟨rfl, hb7⟩
  have B7 : Below w.heap.size w w7 := by (focus (repeat' (first | assumption | exact Below.refl _ _ | refine Below.alloc ?_ ?_ _ | refine Below.setCell ?_ ?_ _ | refine Below.drew ?_ | refine below_drewN ?_ _ | refine Below.trans ?_ (Below.mono (by assumption) ?_) | refine Below.trans ?_ (Below.mono (BW.below _) ?_) | (simp; done) | (simp; omega) | omega)))
  have n7 : w.heap.size ≤ w7.heap.size := B7.size
  clear hb7 B6
  go_wp2_with fail
  rw [rounds_succ]
  go_wp2_with fail
  refine (hA3 _).mono ?_
  rintro e w8 ⟨rfl, hb8⟩
  have B8 : Below w.heap.size w w8 := by (focus (repeat' (first | assumption | exact Below.refl _ _ | refine Below.alloc ?_ ?_ _ | refine Below.setCell ?_ ?_ _ | refine Below.drew ?_ | refine below_drewN ?_ _ | refine Below.trans ?_ (Below.mono (by assumption) ?_) | refine Below.trans ?_ (Below.mono (BW.below _) ?_) | (simp; done) | (simp; omega) | omega)))
  have n8 : w.heap.size ≤ w8.heap.size := B8.size
  clear hb8 B7
  go_wp2_with fail
  refine (hB3 _).mono ?_
  rintro e w9 ⟨rfl, hb9⟩
  have B9 : Below w.heap.size w w9 := by (focus (repeat' (first | assumption | exact Below.refl _ _ | refine Below.alloc ?_ ?_ _ | refine Below.setCell ?_ ?_ _ | refine Below.drew ?_ | refine below_drewN ?_ _ | refine Below.trans ?_ (Below.mono (by assumption) ?_) | refine Below.trans ?_ (Below.mono (BW.below _) ?_) | (simp; done) | (simp; omega) | omega)))
  have n9 : w.heap.size ≤ w9.heap.size := B9.size
  clear hb9 B8
  go_wp2_with fail
  rw [rounds_succ]
  go_wp2_with fail
  refine (hL _).mono ?_
  rintro e w10 ⟨rfl, hb10⟩
  have B10 : Below w.heap.size w w10 := by (focus (repeat' (first | assumption | exact Below.refl _ _ | refine Below.alloc ?_ ?_ _ | refine Below.setCell ?_ ?_ _ | refine Below.drew ?_ | refine below_drewN ?_ _ | refine Below.trans ?_ (Below.mono (by assumption) ?_) | refine Below.trans ?_ (Below.mono (BW.below _) ?_) | (simp; done) | (simp; omega) | omega)))
  have n10 : w.heap.size ≤ w10.heap.size := B10.size
  clear hb10 B9
  go_wp2_with fail
  refine (hM _).mono ?_
  rintro e w11 ⟨rfl, hb11⟩
  have B11 : Below w.heap.size w w11 := by (focus (repeat' (first | assumption | exact Below.refl _ _ | refine Below.alloc ?_ ?_ _ | refine Below.setCell ?_ ?_ _ | refine Below.drew ?_ | refine below_drewN ?_ _ | refine Below.trans ?_ (Below.mono (by assumption) ?_) | refine Below.trans ?_ (Below.mono (BW.below _) ?_) | (simp; done) | (simp; omega) | omega)))
  have n11 : w.heap.size ≤ w11.heap.size := B11.size
  clear hb11 B10
  go_wp2_with fail
  refine (hC _).mono ?_
  rintro e w12 ⟨rfl, hb12⟩
  have B12 : Below w.heap.size w w12 := by (focus (repeat' (first | assumption | exact Below.refl _ _ | refine Below.alloc ?_ ?_ _ | refine Below.setCell ?_ ?_ _ | refine Below.drew ?_ | refine below_drewN ?_ _ | refine Below.trans ?_ (Below.mono (by assumption) ?_) | refine Below.trans ?_ (Below.mono (BW.below _) ?_) | (simp; done) | (simp; omega) | omega)))
  have n12 : w.heap.size ≤ w12.heap.size := B12.size
  clear hb12 B11
  go_wp2_with fail
  go_ret
  exact ⟨rfl, by (focus (repeat' (first | assumption | exact Below.refl _ _ | refine Below.alloc ?_ ?_ _ | refine Below.setCell ?_ ?_ _ | refine Below.drew ?_ | refine below_drewN ?_ _ | refine Below.trans ?_ (Below.mono (by assumption) ?_) | refine Below.trans ?_ (Below.mono (BW.below _) ?_) | (simp; done) | (simp; omega) | omega)))⟩
theorem TopWeeks_walk (y m wk : Int) (ky : I64 y) (w : World) : Calls Try.prog 12 #[.int .i64 y, .int .i64 m, .int .i64 wk] w fun e w' => e = .returned (.bool true) ∧ Below w.heap.size w w' := by
  by_cases h : 0 ≤ wk ∧ wk ≤ 6 ∧ 1 ≤ m ∧ m ≤ 12 ∧ -39000 ≤ y ∧ y ≤ 39000
  · obtain ⟨k0, k1, m0, m1, y0, y1⟩ := h
    obtain ⟨N, F, a, b, c, d, e | e, f, g, h, p, q, r, s0, s1, t0, t1⟩ := weeks_of (w := wk) ⟨k0, k1⟩ ⟨m0, m1⟩ ⟨y0, y1⟩
    · exact TopWeeks_a y m wk ky ⟨k0, k1⟩ ⟨m0, m1⟩ ⟨y0, y1⟩ N F a b c d e f g h p q r s0 s1 t0 t1 w
    · exact TopWeeks_b y m wk ky ⟨k0, k1⟩ ⟨m0, m1⟩ ⟨y0, y1⟩ N F a b c d e f g h p q r s0 s1 t0 t1 w
  · exact TopWeeks_n y m wk h w
end Go.Proofs.Ytblmlglkjmilkaa
