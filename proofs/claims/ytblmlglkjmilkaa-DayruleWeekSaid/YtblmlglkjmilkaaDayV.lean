/-
  noontidelaw05: lives.
-/
import Derived.Test.YtblmlglkjmilkaaDayB
namespace Go.Proofs.Ytblmlglkjmilkaa
open Go.RowKit Cal
attribute [local go_sem] BW.cell BW.frozen

set_option maxRecDepth 100000 in
set_option maxHeartbeats 4000000 in
theorem day_lives (w : World) : Calls Try.prog 43 #[] w fun e w' => e = .returned (.bool true) ∧ Below w.heap.size w w' := by
  have q0 : ruleV 2 0 8 2024 3 = 19792 := by decide
  have q1 : ruleE 2 0 8 2024 3 = 0 := by decide
  have q2 : ruleV 1 0 0 2024 10 = 20023 := by decide
  have q3 : ruleE 1 0 0 2024 10 = 0 := by decide
  have q4 : ruleV 3 0 2 2024 3 = 19778 := by decide
  have q5 : ruleE 3 0 2 2024 3 = 0 := by decide
  have q6 : ruleV 0 0 5 1970 1 = 4 := by decide
  have q7 : ruleE 0 0 5 1970 1 = 0 := by decide
  have q8 : ruleV 0 0 29 2024 2 = 0 := by decide
  have q9 : ruleE 0 0 29 2024 2 = 4 := by decide
  have q10 : ruleV 0 0 28 40000 2 = 0 := by decide
  have q11 : ruleE 0 0 28 40000 2 = 1 := by decide
  have q12 : winL 1 3 0 2 = 22 := by decide
  have q13 : winH 1 3 0 2 = 29 := by decide
  have q14 : winE 1 3 0 2 = 0 := by decide
  have q15 : winL 0 0 0 2 = 0 := by decide
  have q16 : winH 0 0 0 2 = 0 := by decide
  have q17 : winE 0 0 0 2 = 4 := by decide
  have q18 : onOk 1 6 0 = true := by decide
  have q19 : onOk 1 0 1 = false := by decide
  have q20 : onOk 4 0 1 = false := by decide
  have q21 : onOk 0 1 1 = false := by decide
  have q22 : onFits 0 0 30 4 = true := by decide
  have q23 : onFits 0 0 31 4 = false := by decide
  have q24 : onFits 0 0 1 13 = false := by decide
  go_enter Try.func43, Try.ntmps43
  go_wp2_with fail
  refine (dayrule_Days _ _ _ _ _ (I64.sm (by omega)) _).mono ?_
  rintro e w1 ⟨rfl, hb1⟩
  have B1 : Below w.heap.size w w1 := by (focus (repeat' (first | assumption | exact Below.refl _ _ | refine Below.alloc ?_ ?_ _ | refine Below.setCell ?_ ?_ _ | refine Below.drew ?_ | refine below_drewN ?_ _ | refine Below.trans ?_ (Below.mono (by assumption) ?_) | refine Below.trans ?_ (Below.mono (BW.below _) ?_) | (simp; done) | (simp; omega) | omega)))
  have n1 : w.heap.size ≤ w1.heap.size := B1.size
  clear hb1
  go_wp2_with fail
  refine (dayrule_Days _ _ _ _ _ (I64.sm (by omega)) _).mono ?_
  rintro e w2 ⟨rfl, hb2⟩
  have B2 : Below w.heap.size w w2 := by (focus (repeat' (first | assumption | exact Below.refl _ _ | refine Below.alloc ?_ ?_ _ | refine Below.setCell ?_ ?_ _ | refine Below.drew ?_ | refine below_drewN ?_ _ | refine Below.trans ?_ (Below.mono (by assumption) ?_) | refine Below.trans ?_ (Below.mono (BW.below _) ?_) | (simp; done) | (simp; omega) | omega)))
  have n2 : w.heap.size ≤ w2.heap.size := B2.size
  clear hb2 B1 n1
  go_wp2_with fail
  refine (dayrule_Days _ _ _ _ _ (I64.sm (by omega)) _).mono ?_
  rintro e w3 ⟨rfl, hb3⟩
  have B3 : Below w.heap.size w w3 := by (focus (repeat' (first | assumption | exact Below.refl _ _ | refine Below.alloc ?_ ?_ _ | refine Below.setCell ?_ ?_ _ | refine Below.drew ?_ | refine below_drewN ?_ _ | refine Below.trans ?_ (Below.mono (by assumption) ?_) | refine Below.trans ?_ (Below.mono (BW.below _) ?_) | (simp; done) | (simp; omega) | omega)))
  have n3 : w.heap.size ≤ w3.heap.size := B3.size
  clear hb3 B2 n2
  go_wp2_with fail
  refine (dayrule_Days _ _ _ _ _ (I64.sm (by omega)) _).mono ?_
  rintro e w4 ⟨rfl, hb4⟩
  have B4 : Below w.heap.size w w4 := by (focus (repeat' (first | assumption | exact Below.refl _ _ | refine Below.alloc ?_ ?_ _ | refine Below.setCell ?_ ?_ _ | refine Below.drew ?_ | refine below_drewN ?_ _ | refine Below.trans ?_ (Below.mono (by assumption) ?_) | refine Below.trans ?_ (Below.mono (BW.below _) ?_) | (simp; done) | (simp; omega) | omega)))
  have n4 : w.heap.size ≤ w4.heap.size := B4.size
  clear hb4 B3 n3
  go_wp2_with fail
  refine (dayrule_Days _ _ _ _ _ (I64.sm (by omega)) _).mono ?_
  rintro e w5 ⟨rfl, hb5⟩
  have B5 : Below w.heap.size w w5 := by (focus (repeat' (first | assumption | exact Below.refl _ _ | refine Below.alloc ?_ ?_ _ | refine Below.setCell ?_ ?_ _ | refine Below.drew ?_ | refine below_drewN ?_ _ | refine Below.trans ?_ (Below.mono (by assumption) ?_) | refine Below.trans ?_ (Below.mono (BW.below _) ?_) | (simp; done) | (simp; omega) | omega)))
  have n5 : w.heap.size ≤ w5.heap.size := B5.size
  clear hb5 B4 n4
  go_wp2_with fail
  refine (dayrule_Days _ _ _ _ _ (I64.sm (by omega)) _).mono ?_
  rintro e w6 ⟨rfl, hb6⟩
  have B6 : Below w.heap.size w w6 := by (focus (repeat' (first | assumption | exact Below.refl _ _ | refine Below.alloc ?_ ?_ _ | refine Below.setCell ?_ ?_ _ | refine Below.drew ?_ | refine below_drewN ?_ _ | refine Below.trans ?_ (Below.mono (by assumption) ?_) | refine Below.trans ?_ (Below.mono (BW.below _) ?_) | (simp; done) | (simp; omega) | omega)))
  have n6 : w.heap.size ≤ w6.heap.size := B6.size
  clear hb6 B5 n5
  go_wp2_with fail
  refine (dayrule_Window _ _ _ _ _).mono ?_
  rintro e w7 ⟨rfl, hb7⟩
  have B7 : Below w.heap.size w w7 := by (focus (repeat' (first | assumption | exact Below.refl _ _ | refine Below.alloc ?_ ?_ _ | refine Below.setCell ?_ ?_ _ | refine Below.drew ?_ | refine below_drewN ?_ _ | refine Below.trans ?_ (Below.mono (by assumption) ?_) | refine Below.trans ?_ (Below.mono (BW.below _) ?_) | (simp; done) | (simp; omega) | omega)))
  have n7 : w.heap.size ≤ w7.heap.size := B7.size
  clear hb7 B6 n6
  go_wp2_with fail
  refine (dayrule_Window _ _ _ _ _).mono ?_
  rintro e w8 ⟨rfl, hb8⟩
  have B8 : Below w.heap.size w w8 := by (focus (repeat' (first | assumption | exact Below.refl _ _ | refine Below.alloc ?_ ?_ _ | refine Below.setCell ?_ ?_ _ | refine Below.drew ?_ | refine below_drewN ?_ _ | refine Below.trans ?_ (Below.mono (by assumption) ?_) | refine Below.trans ?_ (Below.mono (BW.below _) ?_) | (simp; done) | (simp; omega) | omega)))
  have n8 : w.heap.size ≤ w8.heap.size := B8.size
  clear hb8 B7 n7
  go_wp2_with (first
    | (go_at_call 39; refine (dayrule_Right _ _ _ _).mono ?_; rintro e wr ⟨rfl, hbr⟩; have zr := hbr.size)
    | (go_at_call 41; refine (dayrule_Fits _ _ _ _ _).mono ?_; rintro e wr ⟨rfl, hbr⟩; have zr := hbr.size))
  go_ret
  exact ⟨rfl, by (focus (repeat' (first | assumption | exact Below.refl _ _ | refine Below.alloc ?_ ?_ _ | refine Below.setCell ?_ ?_ _ | refine Below.drew ?_ | refine below_drewN ?_ _ | refine Below.trans ?_ (Below.mono (by assumption) ?_) | refine Below.trans ?_ (Below.mono (BW.below _) ?_) | (simp; done) | (simp; omega) | omega)))⟩
end Go.Proofs.Ytblmlglkjmilkaa
