/-
  noontidelaw07: WeekSteps: the walk.
-/
import Derived.Test.YtblmlglkjmilkacDoorWeeT
import Derived.Test.YtblmlglkjmilkacDoorMonB
namespace Go.Proofs.YtblmlglkjmilkacDoor
open Go.RowKit Go.Lib Cal
attribute [local go_sem] BW.cell BW.frozen
set_option maxRecDepth 100000 in
set_option maxHeartbeats 4000000 in
theorem WeekSteps_1 (y m d x1 x2 x3 a1 a2 a3 b1 b2 b3 e2 e3 : Int) (w : World) (K : Kept w) (hM : ∀ w : World, Calls Tryd.prog 24 #[dat y m d, .int .i64 7] w fun e w' => e = .returned (.tuple #[dat x1 x2 x3, .int .i64 1]) ∧ Below w.heap.size w w') (hA : ∀ w : World, Calls Tryd.prog 11 #[dat y m d] w fun e w' => e = .returned (.tuple #[dat (a1) (a2) (a3), .int .i64 e2]) ∧ Below w.heap.size w w') (hB : ∀ w : World, Calls Tryd.prog 11 #[dat x1 x2 x3] w fun e w' => e = .returned (.tuple #[dat (b1) (b2) (b3), .int .i64 e3]) ∧ Below w.heap.size w w') : Calls Tryd.prog 5 #[dat y m d] w fun e w' => e = .returned (.bool true) ∧ Below w.heap.size w w' := by
  go_enter Tryd.func5, Tryd.ntmps5
  go_wp2_with fail
  refine (wk_lives _ (K.below (by (focus (repeat' (first | assumption | exact Below.refl _ _ | refine Below.alloc ?_ ?_ _ | refine Below.setCell ?_ ?_ _ | refine Below.drew ?_ | refine below_drewN ?_ _ | refine Below.trans ?_ (Below.mono (by assumption) ?_) | refine Below.trans ?_ (Below.mono (BW.below _) ?_) | (simp; done) | (simp; omega) | omega)))))).mono ?_
  rintro e w1 ⟨rfl, hb1⟩
  have B1 : Below w.heap.size w w1 := by (focus (repeat' (first | assumption | exact Below.refl _ _ | refine Below.alloc ?_ ?_ _ | refine Below.setCell ?_ ?_ _ | refine Below.drew ?_ | refine below_drewN ?_ _ | refine Below.trans ?_ (Below.mono (by assumption) ?_) | refine Below.trans ?_ (Below.mono (BW.below _) ?_) | (simp; done) | (simp; omega) | omega)))
  have n1 : w.heap.size ≤ w1.heap.size := B1.size
  have s1_0 : w.heap.size < w1.heap.size := Nat.lt_of_lt_of_le (by first | (simp; done) | (simp; omega) | omega) hb1.size
  have c1_0_0 : w1.cell? ⟨w.heap.size, 0, none⟩ = some (.int .i64 (y)) := (hb1.cell (p := ⟨w.heap.size, 0, none⟩) (by first | (simp; done) | (simp; omega) | omega)).trans (by go_simp)
  have c1_0_1 : w1.cell? ⟨w.heap.size, 1, none⟩ = some (.int .i64 (m)) := (hb1.cell (p := ⟨w.heap.size, 1, none⟩) (by first | (simp; done) | (simp; omega) | omega)).trans (by go_simp)
  have c1_0_2 : w1.cell? ⟨w.heap.size, 2, none⟩ = some (.int .i64 (d)) := (hb1.cell (p := ⟨w.heap.size, 2, none⟩) (by first | (simp; done) | (simp; omega) | omega)).trans (by go_simp)
  clear hb1
  go_wp2_with fail
  refine (hM _).mono ?_
  rintro e w2 ⟨rfl, hb2⟩
  have B2 : Below w.heap.size w w2 := by (focus (repeat' (first | assumption | exact Below.refl _ _ | refine Below.alloc ?_ ?_ _ | refine Below.setCell ?_ ?_ _ | refine Below.drew ?_ | refine below_drewN ?_ _ | refine Below.trans ?_ (Below.mono (by assumption) ?_) | refine Below.trans ?_ (Below.mono (BW.below _) ?_) | (simp; done) | (simp; omega) | omega)))
  have n2 : w.heap.size ≤ w2.heap.size := B2.size
  have s2_0 : w.heap.size < w2.heap.size := Nat.lt_of_lt_of_le (by first | (simp; done) | (simp; omega) | omega) hb2.size
  have c2_0_0 : w2.cell? ⟨w.heap.size, 0, none⟩ = some (.int .i64 (y)) := (hb2.cell (p := ⟨w.heap.size, 0, none⟩) (by first | (simp; done) | (simp; omega) | omega)).trans (by go_simp)
  have c2_0_1 : w2.cell? ⟨w.heap.size, 1, none⟩ = some (.int .i64 (m)) := (hb2.cell (p := ⟨w.heap.size, 1, none⟩) (by first | (simp; done) | (simp; omega) | omega)).trans (by go_simp)
  have c2_0_2 : w2.cell? ⟨w.heap.size, 2, none⟩ = some (.int .i64 (d)) := (hb2.cell (p := ⟨w.heap.size, 2, none⟩) (by first | (simp; done) | (simp; omega) | omega)).trans (by go_simp)
  clear hb2 B1 c1_0_0 c1_0_1 c1_0_2
  go_wp2_with fail
  refine (hA _).mono ?_
  rintro e w3 ⟨rfl, hb3⟩
  have B3 : Below w.heap.size w w3 := by (focus (repeat' (first | assumption | exact Below.refl _ _ | refine Below.alloc ?_ ?_ _ | refine Below.setCell ?_ ?_ _ | refine Below.drew ?_ | refine below_drewN ?_ _ | refine Below.trans ?_ (Below.mono (by assumption) ?_) | refine Below.trans ?_ (Below.mono (BW.below _) ?_) | (simp; done) | (simp; omega) | omega)))
  have n3 : w.heap.size ≤ w3.heap.size := B3.size
  have s3_0 : w2.heap.size < w3.heap.size := Nat.lt_of_lt_of_le (by first | (simp; done) | (simp; omega) | omega) hb3.size
  have c3_0_0 : w3.cell? ⟨w2.heap.size, 0, none⟩ = some (.int .i64 (x1)) := (hb3.cell (p := ⟨w2.heap.size, 0, none⟩) (by first | (simp; done) | (simp; omega) | omega)).trans (by go_simp)
  have c3_0_1 : w3.cell? ⟨w2.heap.size, 1, none⟩ = some (.int .i64 (x2)) := (hb3.cell (p := ⟨w2.heap.size, 1, none⟩) (by first | (simp; done) | (simp; omega) | omega)).trans (by go_simp)
  have c3_0_2 : w3.cell? ⟨w2.heap.size, 2, none⟩ = some (.int .i64 (x3)) := (hb3.cell (p := ⟨w2.heap.size, 2, none⟩) (by first | (simp; done) | (simp; omega) | omega)).trans (by go_simp)
  clear hb3 B2 c2_0_0 c2_0_1 c2_0_2
  go_wp2_with fail
  refine (hB _).mono ?_
  rintro e w4 ⟨rfl, hb4⟩
  have B4 : Below w.heap.size w w4 := by (focus (repeat' (first | assumption | exact Below.refl _ _ | refine Below.alloc ?_ ?_ _ | refine Below.setCell ?_ ?_ _ | refine Below.drew ?_ | refine below_drewN ?_ _ | refine Below.trans ?_ (Below.mono (by assumption) ?_) | refine Below.trans ?_ (Below.mono (BW.below _) ?_) | (simp; done) | (simp; omega) | omega)))
  have n4 : w.heap.size ≤ w4.heap.size := B4.size
  clear hb4 B3 c3_0_0 c3_0_1 c3_0_2
  go_wp2_with fail
  go_ret
  exact ⟨rfl, by (focus (repeat' (first | assumption | exact Below.refl _ _ | refine Below.alloc ?_ ?_ _ | refine Below.setCell ?_ ?_ _ | refine Below.drew ?_ | refine below_drewN ?_ _ | refine Below.trans ?_ (Below.mono (by assumption) ?_) | refine Below.trans ?_ (Below.mono (BW.below _) ?_) | (simp; done) | (simp; omega) | omega)))⟩
set_option maxRecDepth 100000 in
set_option maxHeartbeats 4000000 in
theorem WeekSteps_2 (y m d x1 x2 x3 a1 a2 a3 b1 b2 b3 e3 : Int) (w : World) (K : Kept w) (hM : ∀ w : World, Calls Tryd.prog 24 #[dat y m d, .int .i64 7] w fun e w' => e = .returned (.tuple #[dat x1 x2 x3, .int .i64 0]) ∧ Below w.heap.size w w') (hA : ∀ w : World, Calls Tryd.prog 11 #[dat y m d] w fun e w' => e = .returned (.tuple #[dat (a1) (a2) (a3), .int .i64 1]) ∧ Below w.heap.size w w') (hB : ∀ w : World, Calls Tryd.prog 11 #[dat x1 x2 x3] w fun e w' => e = .returned (.tuple #[dat (b1) (b2) (b3), .int .i64 e3]) ∧ Below w.heap.size w w') : Calls Tryd.prog 5 #[dat y m d] w fun e w' => e = .returned (.bool true) ∧ Below w.heap.size w w' := by
  go_enter Tryd.func5, Tryd.ntmps5
  go_wp2_with fail
  refine (wk_lives _ (K.below (by (focus (repeat' (first | assumption | exact Below.refl _ _ | refine Below.alloc ?_ ?_ _ | refine Below.setCell ?_ ?_ _ | refine Below.drew ?_ | refine below_drewN ?_ _ | refine Below.trans ?_ (Below.mono (by assumption) ?_) | refine Below.trans ?_ (Below.mono (BW.below _) ?_) | (simp; done) | (simp; omega) | omega)))))).mono ?_
  rintro e w1 ⟨rfl, hb1⟩
  have B1 : Below w.heap.size w w1 := by (focus (repeat' (first | assumption | exact Below.refl _ _ | refine Below.alloc ?_ ?_ _ | refine Below.setCell ?_ ?_ _ | refine Below.drew ?_ | refine below_drewN ?_ _ | refine Below.trans ?_ (Below.mono (by assumption) ?_) | refine Below.trans ?_ (Below.mono (BW.below _) ?_) | (simp; done) | (simp; omega) | omega)))
  have n1 : w.heap.size ≤ w1.heap.size := B1.size
  have s1_0 : w.heap.size < w1.heap.size := Nat.lt_of_lt_of_le (by first | (simp; done) | (simp; omega) | omega) hb1.size
  have c1_0_0 : w1.cell? ⟨w.heap.size, 0, none⟩ = some (.int .i64 (y)) := (hb1.cell (p := ⟨w.heap.size, 0, none⟩) (by first | (simp; done) | (simp; omega) | omega)).trans (by go_simp)
  have c1_0_1 : w1.cell? ⟨w.heap.size, 1, none⟩ = some (.int .i64 (m)) := (hb1.cell (p := ⟨w.heap.size, 1, none⟩) (by first | (simp; done) | (simp; omega) | omega)).trans (by go_simp)
  have c1_0_2 : w1.cell? ⟨w.heap.size, 2, none⟩ = some (.int .i64 (d)) := (hb1.cell (p := ⟨w.heap.size, 2, none⟩) (by first | (simp; done) | (simp; omega) | omega)).trans (by go_simp)
  clear hb1
  go_wp2_with fail
  refine (hM _).mono ?_
  rintro e w2 ⟨rfl, hb2⟩
  have B2 : Below w.heap.size w w2 := by (focus (repeat' (first | assumption | exact Below.refl _ _ | refine Below.alloc ?_ ?_ _ | refine Below.setCell ?_ ?_ _ | refine Below.drew ?_ | refine below_drewN ?_ _ | refine Below.trans ?_ (Below.mono (by assumption) ?_) | refine Below.trans ?_ (Below.mono (BW.below _) ?_) | (simp; done) | (simp; omega) | omega)))
  have n2 : w.heap.size ≤ w2.heap.size := B2.size
  have s2_0 : w.heap.size < w2.heap.size := Nat.lt_of_lt_of_le (by first | (simp; done) | (simp; omega) | omega) hb2.size
  have c2_0_0 : w2.cell? ⟨w.heap.size, 0, none⟩ = some (.int .i64 (y)) := (hb2.cell (p := ⟨w.heap.size, 0, none⟩) (by first | (simp; done) | (simp; omega) | omega)).trans (by go_simp)
  have c2_0_1 : w2.cell? ⟨w.heap.size, 1, none⟩ = some (.int .i64 (m)) := (hb2.cell (p := ⟨w.heap.size, 1, none⟩) (by first | (simp; done) | (simp; omega) | omega)).trans (by go_simp)
  have c2_0_2 : w2.cell? ⟨w.heap.size, 2, none⟩ = some (.int .i64 (d)) := (hb2.cell (p := ⟨w.heap.size, 2, none⟩) (by first | (simp; done) | (simp; omega) | omega)).trans (by go_simp)
  clear hb2 B1 c1_0_0 c1_0_1 c1_0_2
  go_wp2_with fail
  refine (hA _).mono ?_
  rintro e w3 ⟨rfl, hb3⟩
  have B3 : Below w.heap.size w w3 := by (focus (repeat' (first | assumption | exact Below.refl _ _ | refine Below.alloc ?_ ?_ _ | refine Below.setCell ?_ ?_ _ | refine Below.drew ?_ | refine below_drewN ?_ _ | refine Below.trans ?_ (Below.mono (by assumption) ?_) | refine Below.trans ?_ (Below.mono (BW.below _) ?_) | (simp; done) | (simp; omega) | omega)))
  have n3 : w.heap.size ≤ w3.heap.size := B3.size
  have s3_0 : w2.heap.size < w3.heap.size := Nat.lt_of_lt_of_le (by first | (simp; done) | (simp; omega) | omega) hb3.size
  have c3_0_0 : w3.cell? ⟨w2.heap.size, 0, none⟩ = some (.int .i64 (x1)) := (hb3.cell (p := ⟨w2.heap.size, 0, none⟩) (by first | (simp; done) | (simp; omega) | omega)).trans (by go_simp)
  have c3_0_1 : w3.cell? ⟨w2.heap.size, 1, none⟩ = some (.int .i64 (x2)) := (hb3.cell (p := ⟨w2.heap.size, 1, none⟩) (by first | (simp; done) | (simp; omega) | omega)).trans (by go_simp)
  have c3_0_2 : w3.cell? ⟨w2.heap.size, 2, none⟩ = some (.int .i64 (x3)) := (hb3.cell (p := ⟨w2.heap.size, 2, none⟩) (by first | (simp; done) | (simp; omega) | omega)).trans (by go_simp)
  clear hb3 B2 c2_0_0 c2_0_1 c2_0_2
  go_wp2_with fail
  refine (hB _).mono ?_
  rintro e w4 ⟨rfl, hb4⟩
  have B4 : Below w.heap.size w w4 := by (focus (repeat' (first | assumption | exact Below.refl _ _ | refine Below.alloc ?_ ?_ _ | refine Below.setCell ?_ ?_ _ | refine Below.drew ?_ | refine below_drewN ?_ _ | refine Below.trans ?_ (Below.mono (by assumption) ?_) | refine Below.trans ?_ (Below.mono (BW.below _) ?_) | (simp; done) | (simp; omega) | omega)))
  have n4 : w.heap.size ≤ w4.heap.size := B4.size
  clear hb4 B3 c3_0_0 c3_0_1 c3_0_2
  go_wp2_with fail
  go_ret
  exact ⟨rfl, by (focus (repeat' (first | assumption | exact Below.refl _ _ | refine Below.alloc ?_ ?_ _ | refine Below.setCell ?_ ?_ _ | refine Below.drew ?_ | refine below_drewN ?_ _ | refine Below.trans ?_ (Below.mono (by assumption) ?_) | refine Below.trans ?_ (Below.mono (BW.below _) ?_) | (simp; done) | (simp; omega) | omega)))⟩
set_option maxRecDepth 100000 in
set_option maxHeartbeats 4000000 in
theorem WeekSteps_3 (y m d x1 x2 x3 a1 a2 a3 b1 b2 b3 : Int) (w : World) (K : Kept w) (hM : ∀ w : World, Calls Tryd.prog 24 #[dat y m d, .int .i64 7] w fun e w' => e = .returned (.tuple #[dat x1 x2 x3, .int .i64 0]) ∧ Below w.heap.size w w') (hA : ∀ w : World, Calls Tryd.prog 11 #[dat y m d] w fun e w' => e = .returned (.tuple #[dat (a1) (a2) (a3), .int .i64 0]) ∧ Below w.heap.size w w') (hB : ∀ w : World, Calls Tryd.prog 11 #[dat x1 x2 x3] w fun e w' => e = .returned (.tuple #[dat (b1) (b2) (b3), .int .i64 1]) ∧ Below w.heap.size w w') : Calls Tryd.prog 5 #[dat y m d] w fun e w' => e = .returned (.bool true) ∧ Below w.heap.size w w' := by
  go_enter Tryd.func5, Tryd.ntmps5
  go_wp2_with fail
  refine (wk_lives _ (K.below (by (focus (repeat' (first | assumption | exact Below.refl _ _ | refine Below.alloc ?_ ?_ _ | refine Below.setCell ?_ ?_ _ | refine Below.drew ?_ | refine below_drewN ?_ _ | refine Below.trans ?_ (Below.mono (by assumption) ?_) | refine Below.trans ?_ (Below.mono (BW.below _) ?_) | (simp; done) | (simp; omega) | omega)))))).mono ?_
  rintro e w1 ⟨rfl, hb1⟩
  have B1 : Below w.heap.size w w1 := by (focus (repeat' (first | assumption | exact Below.refl _ _ | refine Below.alloc ?_ ?_ _ | refine Below.setCell ?_ ?_ _ | refine Below.drew ?_ | refine below_drewN ?_ _ | refine Below.trans ?_ (Below.mono (by assumption) ?_) | refine Below.trans ?_ (Below.mono (BW.below _) ?_) | (simp; done) | (simp; omega) | omega)))
  have n1 : w.heap.size ≤ w1.heap.size := B1.size
  have s1_0 : w.heap.size < w1.heap.size := Nat.lt_of_lt_of_le (by first | (simp; done) | (simp; omega) | omega) hb1.size
  have c1_0_0 : w1.cell? ⟨w.heap.size, 0, none⟩ = some (.int .i64 (y)) := (hb1.cell (p := ⟨w.heap.size, 0, none⟩) (by first | (simp; done) | (simp; omega) | omega)).trans (by go_simp)
  have c1_0_1 : w1.cell? ⟨w.heap.size, 1, none⟩ = some (.int .i64 (m)) := (hb1.cell (p := ⟨w.heap.size, 1, none⟩) (by first | (simp; done) | (simp; omega) | omega)).trans (by go_simp)
  have c1_0_2 : w1.cell? ⟨w.heap.size, 2, none⟩ = some (.int .i64 (d)) := (hb1.cell (p := ⟨w.heap.size, 2, none⟩) (by first | (simp; done) | (simp; omega) | omega)).trans (by go_simp)
  clear hb1
  go_wp2_with fail
  refine (hM _).mono ?_
  rintro e w2 ⟨rfl, hb2⟩
  have B2 : Below w.heap.size w w2 := by (focus (repeat' (first | assumption | exact Below.refl _ _ | refine Below.alloc ?_ ?_ _ | refine Below.setCell ?_ ?_ _ | refine Below.drew ?_ | refine below_drewN ?_ _ | refine Below.trans ?_ (Below.mono (by assumption) ?_) | refine Below.trans ?_ (Below.mono (BW.below _) ?_) | (simp; done) | (simp; omega) | omega)))
  have n2 : w.heap.size ≤ w2.heap.size := B2.size
  have s2_0 : w.heap.size < w2.heap.size := Nat.lt_of_lt_of_le (by first | (simp; done) | (simp; omega) | omega) hb2.size
  have c2_0_0 : w2.cell? ⟨w.heap.size, 0, none⟩ = some (.int .i64 (y)) := (hb2.cell (p := ⟨w.heap.size, 0, none⟩) (by first | (simp; done) | (simp; omega) | omega)).trans (by go_simp)
  have c2_0_1 : w2.cell? ⟨w.heap.size, 1, none⟩ = some (.int .i64 (m)) := (hb2.cell (p := ⟨w.heap.size, 1, none⟩) (by first | (simp; done) | (simp; omega) | omega)).trans (by go_simp)
  have c2_0_2 : w2.cell? ⟨w.heap.size, 2, none⟩ = some (.int .i64 (d)) := (hb2.cell (p := ⟨w.heap.size, 2, none⟩) (by first | (simp; done) | (simp; omega) | omega)).trans (by go_simp)
  clear hb2 B1 c1_0_0 c1_0_1 c1_0_2
  go_wp2_with fail
  refine (hA _).mono ?_
  rintro e w3 ⟨rfl, hb3⟩
  have B3 : Below w.heap.size w w3 := by (focus (repeat' (first | assumption | exact Below.refl _ _ | refine Below.alloc ?_ ?_ _ | refine Below.setCell ?_ ?_ _ | refine Below.drew ?_ | refine below_drewN ?_ _ | refine Below.trans ?_ (Below.mono (by assumption) ?_) | refine Below.trans ?_ (Below.mono (BW.below _) ?_) | (simp; done) | (simp; omega) | omega)))
  have n3 : w.heap.size ≤ w3.heap.size := B3.size
  have s3_0 : w2.heap.size < w3.heap.size := Nat.lt_of_lt_of_le (by first | (simp; done) | (simp; omega) | omega) hb3.size
  have c3_0_0 : w3.cell? ⟨w2.heap.size, 0, none⟩ = some (.int .i64 (x1)) := (hb3.cell (p := ⟨w2.heap.size, 0, none⟩) (by first | (simp; done) | (simp; omega) | omega)).trans (by go_simp)
  have c3_0_1 : w3.cell? ⟨w2.heap.size, 1, none⟩ = some (.int .i64 (x2)) := (hb3.cell (p := ⟨w2.heap.size, 1, none⟩) (by first | (simp; done) | (simp; omega) | omega)).trans (by go_simp)
  have c3_0_2 : w3.cell? ⟨w2.heap.size, 2, none⟩ = some (.int .i64 (x3)) := (hb3.cell (p := ⟨w2.heap.size, 2, none⟩) (by first | (simp; done) | (simp; omega) | omega)).trans (by go_simp)
  clear hb3 B2 c2_0_0 c2_0_1 c2_0_2
  go_wp2_with fail
  refine (hB _).mono ?_
  rintro e w4 ⟨rfl, hb4⟩
  have B4 : Below w.heap.size w w4 := by (focus (repeat' (first | assumption | exact Below.refl _ _ | refine Below.alloc ?_ ?_ _ | refine Below.setCell ?_ ?_ _ | refine Below.drew ?_ | refine below_drewN ?_ _ | refine Below.trans ?_ (Below.mono (by assumption) ?_) | refine Below.trans ?_ (Below.mono (BW.below _) ?_) | (simp; done) | (simp; omega) | omega)))
  have n4 : w.heap.size ≤ w4.heap.size := B4.size
  clear hb4 B3 c3_0_0 c3_0_1 c3_0_2
  go_wp2_with fail
  go_ret
  exact ⟨rfl, by (focus (repeat' (first | assumption | exact Below.refl _ _ | refine Below.alloc ?_ ?_ _ | refine Below.setCell ?_ ?_ _ | refine Below.drew ?_ | refine below_drewN ?_ _ | refine Below.trans ?_ (Below.mono (by assumption) ?_) | refine Below.trans ?_ (Below.mono (BW.below _) ?_) | (simp; done) | (simp; omega) | omega)))⟩
set_option maxRecDepth 100000 in
set_option maxHeartbeats 4000000 in
theorem WeekSteps_4 (y m d x1 x2 x3 Y V D : Int) (w : World) (K : Kept w) (hM : ∀ w : World, Calls Tryd.prog 24 #[dat y m d, .int .i64 7] w fun e w' => e = .returned (.tuple #[dat x1 x2 x3, .int .i64 0]) ∧ Below w.heap.size w w') (hA : ∀ w : World, Calls Tryd.prog 11 #[dat y m d] w fun e w' => e = .returned (.tuple #[dat (Y) (V) (D), .int .i64 0]) ∧ Below w.heap.size w w') (hB : ∀ w : World, Calls Tryd.prog 11 #[dat x1 x2 x3] w fun e w' => e = .returned (.tuple #[dat (Y) (V + 1) (D), .int .i64 0]) ∧ Below w.heap.size w w') (Y0 : -40000 ≤ Y) (Y1 : Y ≤ 40000) (V0 : 1 ≤ V) (V1 : V ≤ 53) : Calls Tryd.prog 5 #[dat y m d] w fun e w' => e = .returned (.bool true) ∧ Below w.heap.size w w' := by
  go_enter Tryd.func5, Tryd.ntmps5
  go_wp2_with fail
  refine (wk_lives _ (K.below (by (focus (repeat' (first | assumption | exact Below.refl _ _ | refine Below.alloc ?_ ?_ _ | refine Below.setCell ?_ ?_ _ | refine Below.drew ?_ | refine below_drewN ?_ _ | refine Below.trans ?_ (Below.mono (by assumption) ?_) | refine Below.trans ?_ (Below.mono (BW.below _) ?_) | (simp; done) | (simp; omega) | omega)))))).mono ?_
  rintro e w1 ⟨rfl, hb1⟩
  have B1 : Below w.heap.size w w1 := by (focus (repeat' (first | assumption | exact Below.refl _ _ | refine Below.alloc ?_ ?_ _ | refine Below.setCell ?_ ?_ _ | refine Below.drew ?_ | refine below_drewN ?_ _ | refine Below.trans ?_ (Below.mono (by assumption) ?_) | refine Below.trans ?_ (Below.mono (BW.below _) ?_) | (simp; done) | (simp; omega) | omega)))
  have n1 : w.heap.size ≤ w1.heap.size := B1.size
  have s1_0 : w.heap.size < w1.heap.size := Nat.lt_of_lt_of_le (by first | (simp; done) | (simp; omega) | omega) hb1.size
  have c1_0_0 : w1.cell? ⟨w.heap.size, 0, none⟩ = some (.int .i64 (y)) := (hb1.cell (p := ⟨w.heap.size, 0, none⟩) (by first | (simp; done) | (simp; omega) | omega)).trans (by go_simp)
  have c1_0_1 : w1.cell? ⟨w.heap.size, 1, none⟩ = some (.int .i64 (m)) := (hb1.cell (p := ⟨w.heap.size, 1, none⟩) (by first | (simp; done) | (simp; omega) | omega)).trans (by go_simp)
  have c1_0_2 : w1.cell? ⟨w.heap.size, 2, none⟩ = some (.int .i64 (d)) := (hb1.cell (p := ⟨w.heap.size, 2, none⟩) (by first | (simp; done) | (simp; omega) | omega)).trans (by go_simp)
  clear hb1
  go_wp2_with fail
  refine (hM _).mono ?_
  rintro e w2 ⟨rfl, hb2⟩
  have B2 : Below w.heap.size w w2 := by (focus (repeat' (first | assumption | exact Below.refl _ _ | refine Below.alloc ?_ ?_ _ | refine Below.setCell ?_ ?_ _ | refine Below.drew ?_ | refine below_drewN ?_ _ | refine Below.trans ?_ (Below.mono (by assumption) ?_) | refine Below.trans ?_ (Below.mono (BW.below _) ?_) | (simp; done) | (simp; omega) | omega)))
  have n2 : w.heap.size ≤ w2.heap.size := B2.size
  have s2_0 : w.heap.size < w2.heap.size := Nat.lt_of_lt_of_le (by first | (simp; done) | (simp; omega) | omega) hb2.size
  have c2_0_0 : w2.cell? ⟨w.heap.size, 0, none⟩ = some (.int .i64 (y)) := (hb2.cell (p := ⟨w.heap.size, 0, none⟩) (by first | (simp; done) | (simp; omega) | omega)).trans (by go_simp)
  have c2_0_1 : w2.cell? ⟨w.heap.size, 1, none⟩ = some (.int .i64 (m)) := (hb2.cell (p := ⟨w.heap.size, 1, none⟩) (by first | (simp; done) | (simp; omega) | omega)).trans (by go_simp)
  have c2_0_2 : w2.cell? ⟨w.heap.size, 2, none⟩ = some (.int .i64 (d)) := (hb2.cell (p := ⟨w.heap.size, 2, none⟩) (by first | (simp; done) | (simp; omega) | omega)).trans (by go_simp)
  clear hb2 B1 c1_0_0 c1_0_1 c1_0_2
  go_wp2_with fail
  refine (hA _).mono ?_
  rintro e w3 ⟨rfl, hb3⟩
  have B3 : Below w.heap.size w w3 := by (focus (repeat' (first | assumption | exact Below.refl _ _ | refine Below.alloc ?_ ?_ _ | refine Below.setCell ?_ ?_ _ | refine Below.drew ?_ | refine below_drewN ?_ _ | refine Below.trans ?_ (Below.mono (by assumption) ?_) | refine Below.trans ?_ (Below.mono (BW.below _) ?_) | (simp; done) | (simp; omega) | omega)))
  have n3 : w.heap.size ≤ w3.heap.size := B3.size
  have s3_0 : w2.heap.size < w3.heap.size := Nat.lt_of_lt_of_le (by first | (simp; done) | (simp; omega) | omega) hb3.size
  have c3_0_0 : w3.cell? ⟨w2.heap.size, 0, none⟩ = some (.int .i64 (x1)) := (hb3.cell (p := ⟨w2.heap.size, 0, none⟩) (by first | (simp; done) | (simp; omega) | omega)).trans (by go_simp)
  have c3_0_1 : w3.cell? ⟨w2.heap.size, 1, none⟩ = some (.int .i64 (x2)) := (hb3.cell (p := ⟨w2.heap.size, 1, none⟩) (by first | (simp; done) | (simp; omega) | omega)).trans (by go_simp)
  have c3_0_2 : w3.cell? ⟨w2.heap.size, 2, none⟩ = some (.int .i64 (x3)) := (hb3.cell (p := ⟨w2.heap.size, 2, none⟩) (by first | (simp; done) | (simp; omega) | omega)).trans (by go_simp)
  clear hb3 B2 c2_0_0 c2_0_1 c2_0_2
  go_wp2_with fail
  refine (hB _).mono ?_
  rintro e w4 ⟨rfl, hb4⟩
  have B4 : Below w.heap.size w w4 := by (focus (repeat' (first | assumption | exact Below.refl _ _ | refine Below.alloc ?_ ?_ _ | refine Below.setCell ?_ ?_ _ | refine Below.drew ?_ | refine below_drewN ?_ _ | refine Below.trans ?_ (Below.mono (by assumption) ?_) | refine Below.trans ?_ (Below.mono (BW.below _) ?_) | (simp; done) | (simp; omega) | omega)))
  have n4 : w.heap.size ≤ w4.heap.size := B4.size
  have s4_0 : w3.heap.size < w4.heap.size := Nat.lt_of_lt_of_le (by first | (simp; done) | (simp; omega) | omega) hb4.size
  have c4_0_0 : w4.cell? ⟨w3.heap.size, 0, none⟩ = some (.int .i64 (Y)) := (hb4.cell (p := ⟨w3.heap.size, 0, none⟩) (by first | (simp; done) | (simp; omega) | omega)).trans (by go_simp)
  have c4_0_1 : w4.cell? ⟨w3.heap.size, 1, none⟩ = some (.int .i64 (V)) := (hb4.cell (p := ⟨w3.heap.size, 1, none⟩) (by first | (simp; done) | (simp; omega) | omega)).trans (by go_simp)
  have c4_0_2 : w4.cell? ⟨w3.heap.size, 2, none⟩ = some (.int .i64 (D)) := (hb4.cell (p := ⟨w3.heap.size, 2, none⟩) (by first | (simp; done) | (simp; omega) | omega)).trans (by go_simp)
  clear hb4 B3 c3_0_0 c3_0_1 c3_0_2
  go_wp2_with fail
  have Bx1 : Below w.heap.size w (w4.alloc (.cells #[.int .i64 (Y), .int .i64 (V + 1), .int .i64 (D)] 25)) := by (focus (repeat' (first | assumption | exact Below.refl _ _ | refine Below.alloc ?_ ?_ _ | refine Below.setCell ?_ ?_ _ | refine Below.drew ?_ | refine below_drewN ?_ _ | refine Below.trans ?_ (Below.mono (by assumption) ?_) | refine Below.trans ?_ (Below.mono (BW.below _) ?_) | (simp; done) | (simp; omega) | omega)))
  have nx1 : w.heap.size ≤ (w4.alloc (.cells #[.int .i64 (Y), .int .i64 (V + 1), .int .i64 (D)] 25)).heap.size := Bx1.size
  have sx1_0 : w3.heap.size < (w4.alloc (.cells #[.int .i64 (Y), .int .i64 (V + 1), .int .i64 (D)] 25)).heap.size := (by first | (simp; done) | (simp; omega) | omega)
  have cx1_0_0 : (w4.alloc (.cells #[.int .i64 (Y), .int .i64 (V + 1), .int .i64 (D)] 25)).cell? ⟨w3.heap.size, 0, none⟩ = some (.int .i64 (Y)) := by go_simp
  have cx1_0_1 : (w4.alloc (.cells #[.int .i64 (Y), .int .i64 (V + 1), .int .i64 (D)] 25)).cell? ⟨w3.heap.size, 1, none⟩ = some (.int .i64 (V)) := by go_simp
  have cx1_0_2 : (w4.alloc (.cells #[.int .i64 (Y), .int .i64 (V + 1), .int .i64 (D)] 25)).cell? ⟨w3.heap.size, 2, none⟩ = some (.int .i64 (D)) := by go_simp
  have sx1_1 : w4.heap.size < (w4.alloc (.cells #[.int .i64 (Y), .int .i64 (V + 1), .int .i64 (D)] 25)).heap.size := (by first | (simp; done) | (simp; omega) | omega)
  have cx1_1_0 : (w4.alloc (.cells #[.int .i64 (Y), .int .i64 (V + 1), .int .i64 (D)] 25)).cell? ⟨w4.heap.size, 0, none⟩ = some (.int .i64 (Y)) := by go_simp
  have cx1_1_1 : (w4.alloc (.cells #[.int .i64 (Y), .int .i64 (V + 1), .int .i64 (D)] 25)).cell? ⟨w4.heap.size, 1, none⟩ = some (.int .i64 (V + 1)) := by go_simp
  have cx1_1_2 : (w4.alloc (.cells #[.int .i64 (Y), .int .i64 (V + 1), .int .i64 (D)] 25)).cell? ⟨w4.heap.size, 2, none⟩ = some (.int .i64 (D)) := by go_simp
  clear B4 c4_0_0 c4_0_1 c4_0_2
  generalize (w4.alloc (.cells #[.int .i64 (Y), .int .i64 (V + 1), .int .i64 (D)] 25)) = x1 at *
  try dsimp only [List.append]
  refine wp_region_bw (by kernel_rfl) (by kernel_rfl) ?_; (repeat (go_big_quiet_step ((go_at_call 15; with_reducible exact bw_call (hK _))))); refine wpQuiet_nil ?_; intro _ hw'; obtain ⟨xq, hw''⟩ := hw'; subst hw''
  have Bx2 : Below w.heap.size w xq.val := Bx1.trans (xq.below.mono nx1)
  have nx2 : w.heap.size ≤ xq.val.heap.size := Bx2.size
  clear Bx1 cx1_0_0 cx1_0_1 cx1_0_2 cx1_1_0 cx1_1_1 cx1_1_2
  generalize xq.val = x2 at *
  go_wp2_with fail
  go_ret
  exact ⟨rfl, by (focus (repeat' (first | assumption | exact Below.refl _ _ | refine Below.alloc ?_ ?_ _ | refine Below.setCell ?_ ?_ _ | refine Below.drew ?_ | refine below_drewN ?_ _ | refine Below.trans ?_ (Below.mono (by assumption) ?_) | refine Below.trans ?_ (Below.mono (BW.below _) ?_) | (simp; done) | (simp; omega) | omega)))⟩
set_option maxRecDepth 100000 in
set_option maxHeartbeats 4000000 in
theorem WeekSteps_5 (y m d x1 x2 x3 Y V D : Int) (w : World) (K : Kept w) (hM : ∀ w : World, Calls Tryd.prog 24 #[dat y m d, .int .i64 7] w fun e w' => e = .returned (.tuple #[dat x1 x2 x3, .int .i64 0]) ∧ Below w.heap.size w w') (hA : ∀ w : World, Calls Tryd.prog 11 #[dat y m d] w fun e w' => e = .returned (.tuple #[dat (Y) (V) (D), .int .i64 0]) ∧ Below w.heap.size w w') (hB : ∀ w : World, Calls Tryd.prog 11 #[dat x1 x2 x3] w fun e w' => e = .returned (.tuple #[dat (Y + 1) (1) (D), .int .i64 0]) ∧ Below w.heap.size w w') (Y0 : -40000 ≤ Y) (Y1 : Y ≤ 40000) (V0 : 1 ≤ V) (V1 : V ≤ 53) (hne : (Y + 1 == Y) = false) (hK : ∀ w : World, Calls Tryd.prog 15 #[.int .i64 Y] w fun e w' => e = .returned (.int .i64 V) ∧ Below w.heap.size w w') : Calls Tryd.prog 5 #[dat y m d] w fun e w' => e = .returned (.bool true) ∧ Below w.heap.size w w' := by
  go_enter Tryd.func5, Tryd.ntmps5
  go_wp2_with fail
  refine (wk_lives _ (K.below (by (focus (repeat' (first | assumption | exact Below.refl _ _ | refine Below.alloc ?_ ?_ _ | refine Below.setCell ?_ ?_ _ | refine Below.drew ?_ | refine below_drewN ?_ _ | refine Below.trans ?_ (Below.mono (by assumption) ?_) | refine Below.trans ?_ (Below.mono (BW.below _) ?_) | (simp; done) | (simp; omega) | omega)))))).mono ?_
  rintro e w1 ⟨rfl, hb1⟩
  have B1 : Below w.heap.size w w1 := by (focus (repeat' (first | assumption | exact Below.refl _ _ | refine Below.alloc ?_ ?_ _ | refine Below.setCell ?_ ?_ _ | refine Below.drew ?_ | refine below_drewN ?_ _ | refine Below.trans ?_ (Below.mono (by assumption) ?_) | refine Below.trans ?_ (Below.mono (BW.below _) ?_) | (simp; done) | (simp; omega) | omega)))
  have n1 : w.heap.size ≤ w1.heap.size := B1.size
  have s1_0 : w.heap.size < w1.heap.size := Nat.lt_of_lt_of_le (by first | (simp; done) | (simp; omega) | omega) hb1.size
  have c1_0_0 : w1.cell? ⟨w.heap.size, 0, none⟩ = some (.int .i64 (y)) := (hb1.cell (p := ⟨w.heap.size, 0, none⟩) (by first | (simp; done) | (simp; omega) | omega)).trans (by go_simp)
  have c1_0_1 : w1.cell? ⟨w.heap.size, 1, none⟩ = some (.int .i64 (m)) := (hb1.cell (p := ⟨w.heap.size, 1, none⟩) (by first | (simp; done) | (simp; omega) | omega)).trans (by go_simp)
  have c1_0_2 : w1.cell? ⟨w.heap.size, 2, none⟩ = some (.int .i64 (d)) := (hb1.cell (p := ⟨w.heap.size, 2, none⟩) (by first | (simp; done) | (simp; omega) | omega)).trans (by go_simp)
  clear hb1
  go_wp2_with fail
  refine (hM _).mono ?_
  rintro e w2 ⟨rfl, hb2⟩
  have B2 : Below w.heap.size w w2 := by (focus (repeat' (first | assumption | exact Below.refl _ _ | refine Below.alloc ?_ ?_ _ | refine Below.setCell ?_ ?_ _ | refine Below.drew ?_ | refine below_drewN ?_ _ | refine Below.trans ?_ (Below.mono (by assumption) ?_) | refine Below.trans ?_ (Below.mono (BW.below _) ?_) | (simp; done) | (simp; omega) | omega)))
  have n2 : w.heap.size ≤ w2.heap.size := B2.size
  have s2_0 : w.heap.size < w2.heap.size := Nat.lt_of_lt_of_le (by first | (simp; done) | (simp; omega) | omega) hb2.size
  have c2_0_0 : w2.cell? ⟨w.heap.size, 0, none⟩ = some (.int .i64 (y)) := (hb2.cell (p := ⟨w.heap.size, 0, none⟩) (by first | (simp; done) | (simp; omega) | omega)).trans (by go_simp)
  have c2_0_1 : w2.cell? ⟨w.heap.size, 1, none⟩ = some (.int .i64 (m)) := (hb2.cell (p := ⟨w.heap.size, 1, none⟩) (by first | (simp; done) | (simp; omega) | omega)).trans (by go_simp)
  have c2_0_2 : w2.cell? ⟨w.heap.size, 2, none⟩ = some (.int .i64 (d)) := (hb2.cell (p := ⟨w.heap.size, 2, none⟩) (by first | (simp; done) | (simp; omega) | omega)).trans (by go_simp)
  clear hb2 B1 c1_0_0 c1_0_1 c1_0_2
  go_wp2_with fail
  refine (hA _).mono ?_
  rintro e w3 ⟨rfl, hb3⟩
  have B3 : Below w.heap.size w w3 := by (focus (repeat' (first | assumption | exact Below.refl _ _ | refine Below.alloc ?_ ?_ _ | refine Below.setCell ?_ ?_ _ | refine Below.drew ?_ | refine below_drewN ?_ _ | refine Below.trans ?_ (Below.mono (by assumption) ?_) | refine Below.trans ?_ (Below.mono (BW.below _) ?_) | (simp; done) | (simp; omega) | omega)))
  have n3 : w.heap.size ≤ w3.heap.size := B3.size
  have s3_0 : w2.heap.size < w3.heap.size := Nat.lt_of_lt_of_le (by first | (simp; done) | (simp; omega) | omega) hb3.size
  have c3_0_0 : w3.cell? ⟨w2.heap.size, 0, none⟩ = some (.int .i64 (x1)) := (hb3.cell (p := ⟨w2.heap.size, 0, none⟩) (by first | (simp; done) | (simp; omega) | omega)).trans (by go_simp)
  have c3_0_1 : w3.cell? ⟨w2.heap.size, 1, none⟩ = some (.int .i64 (x2)) := (hb3.cell (p := ⟨w2.heap.size, 1, none⟩) (by first | (simp; done) | (simp; omega) | omega)).trans (by go_simp)
  have c3_0_2 : w3.cell? ⟨w2.heap.size, 2, none⟩ = some (.int .i64 (x3)) := (hb3.cell (p := ⟨w2.heap.size, 2, none⟩) (by first | (simp; done) | (simp; omega) | omega)).trans (by go_simp)
  clear hb3 B2 c2_0_0 c2_0_1 c2_0_2
  go_wp2_with fail
  refine (hB _).mono ?_
  rintro e w4 ⟨rfl, hb4⟩
  have B4 : Below w.heap.size w w4 := by (focus (repeat' (first | assumption | exact Below.refl _ _ | refine Below.alloc ?_ ?_ _ | refine Below.setCell ?_ ?_ _ | refine Below.drew ?_ | refine below_drewN ?_ _ | refine Below.trans ?_ (Below.mono (by assumption) ?_) | refine Below.trans ?_ (Below.mono (BW.below _) ?_) | (simp; done) | (simp; omega) | omega)))
  have n4 : w.heap.size ≤ w4.heap.size := B4.size
  have s4_0 : w3.heap.size < w4.heap.size := Nat.lt_of_lt_of_le (by first | (simp; done) | (simp; omega) | omega) hb4.size
  have c4_0_0 : w4.cell? ⟨w3.heap.size, 0, none⟩ = some (.int .i64 (Y)) := (hb4.cell (p := ⟨w3.heap.size, 0, none⟩) (by first | (simp; done) | (simp; omega) | omega)).trans (by go_simp)
  have c4_0_1 : w4.cell? ⟨w3.heap.size, 1, none⟩ = some (.int .i64 (V)) := (hb4.cell (p := ⟨w3.heap.size, 1, none⟩) (by first | (simp; done) | (simp; omega) | omega)).trans (by go_simp)
  have c4_0_2 : w4.cell? ⟨w3.heap.size, 2, none⟩ = some (.int .i64 (D)) := (hb4.cell (p := ⟨w3.heap.size, 2, none⟩) (by first | (simp; done) | (simp; omega) | omega)).trans (by go_simp)
  clear hb4 B3 c3_0_0 c3_0_1 c3_0_2
  go_wp2_with fail
  have Bx1 : Below w.heap.size w (w4.alloc (.cells #[.int .i64 (Y + 1), .int .i64 (1), .int .i64 (D)] 25)) := by (focus (repeat' (first | assumption | exact Below.refl _ _ | refine Below.alloc ?_ ?_ _ | refine Below.setCell ?_ ?_ _ | refine Below.drew ?_ | refine below_drewN ?_ _ | refine Below.trans ?_ (Below.mono (by assumption) ?_) | refine Below.trans ?_ (Below.mono (BW.below _) ?_) | (simp; done) | (simp; omega) | omega)))
  have nx1 : w.heap.size ≤ (w4.alloc (.cells #[.int .i64 (Y + 1), .int .i64 (1), .int .i64 (D)] 25)).heap.size := Bx1.size
  have sx1_0 : w3.heap.size < (w4.alloc (.cells #[.int .i64 (Y + 1), .int .i64 (1), .int .i64 (D)] 25)).heap.size := (by first | (simp; done) | (simp; omega) | omega)
  have cx1_0_0 : (w4.alloc (.cells #[.int .i64 (Y + 1), .int .i64 (1), .int .i64 (D)] 25)).cell? ⟨w3.heap.size, 0, none⟩ = some (.int .i64 (Y)) := by go_simp
  have cx1_0_1 : (w4.alloc (.cells #[.int .i64 (Y + 1), .int .i64 (1), .int .i64 (D)] 25)).cell? ⟨w3.heap.size, 1, none⟩ = some (.int .i64 (V)) := by go_simp
  have cx1_0_2 : (w4.alloc (.cells #[.int .i64 (Y + 1), .int .i64 (1), .int .i64 (D)] 25)).cell? ⟨w3.heap.size, 2, none⟩ = some (.int .i64 (D)) := by go_simp
  have sx1_1 : w4.heap.size < (w4.alloc (.cells #[.int .i64 (Y + 1), .int .i64 (1), .int .i64 (D)] 25)).heap.size := (by first | (simp; done) | (simp; omega) | omega)
  have cx1_1_0 : (w4.alloc (.cells #[.int .i64 (Y + 1), .int .i64 (1), .int .i64 (D)] 25)).cell? ⟨w4.heap.size, 0, none⟩ = some (.int .i64 (Y + 1)) := by go_simp
  have cx1_1_1 : (w4.alloc (.cells #[.int .i64 (Y + 1), .int .i64 (1), .int .i64 (D)] 25)).cell? ⟨w4.heap.size, 1, none⟩ = some (.int .i64 (1)) := by go_simp
  have cx1_1_2 : (w4.alloc (.cells #[.int .i64 (Y + 1), .int .i64 (1), .int .i64 (D)] 25)).cell? ⟨w4.heap.size, 2, none⟩ = some (.int .i64 (D)) := by go_simp
  clear B4 c4_0_0 c4_0_1 c4_0_2
  generalize (w4.alloc (.cells #[.int .i64 (Y + 1), .int .i64 (1), .int .i64 (D)] 25)) = x1 at *
  try dsimp only [List.append]
  refine wp_region_bw (by kernel_rfl) (by kernel_rfl) ?_; (repeat (go_big_quiet_step ((go_at_call 15; with_reducible exact bw_call (hK _))))); refine wpQuiet_nil ?_; intro _ hw'; obtain ⟨xq, hw''⟩ := hw'; subst hw''
  have Bx2 : Below w.heap.size w xq.val := Bx1.trans (xq.below.mono nx1)
  have nx2 : w.heap.size ≤ xq.val.heap.size := Bx2.size
  clear Bx1 cx1_0_0 cx1_0_1 cx1_0_2 cx1_1_0 cx1_1_1 cx1_1_2
  generalize xq.val = x2 at *
  go_wp2_with fail
  go_ret
  exact ⟨rfl, by (focus (repeat' (first | assumption | exact Below.refl _ _ | refine Below.alloc ?_ ?_ _ | refine Below.setCell ?_ ?_ _ | refine Below.drew ?_ | refine below_drewN ?_ _ | refine Below.trans ?_ (Below.mono (by assumption) ?_) | refine Below.trans ?_ (Below.mono (BW.below _) ?_) | (simp; done) | (simp; omega) | omega)))⟩
theorem mon_7 (n : Int) : mon (n + 7) = mon n + 7 := by rw [mon_eq, mon_eq]; omega
/-- Seven days later: the next week, or the next year's first. -/
theorem wk_next (n : Int) : wkD (n + 7) = wkD n ∧ ((wkY (n + 7) = wkY n ∧ wkW (n + 7) = wkW n + 1) ∨ (wkY (n + 7) = wkY n + 1 ∧ wkW (n + 7) = 1 ∧ wkW n = wksOf (wkY n))) := by
  have m7 := mon_7 n
  refine ⟨by unfold wkD; omega, ?_⟩
  obtain ⟨a1, a2, a3, a4, a5, a6⟩ := wk_week n
  have s := wfst_succ (wkY n)
  have h0 := mon_bd (n + 7)
  by_cases h : wkW n < wksOf (wkY n)
  · have e : wkY n = wkY (n + 7) := wk_uniq (y := wkY n) (by omega) (by omega)
    refine Or.inl ⟨e.symm, ?_⟩
    obtain ⟨b1, b2, b3, b4, b5, b6⟩ := wk_week (n + 7)
    rw [← e] at b6
    omega
  · have e0 : wkW n = wksOf (wkY n) := by omega
    have s2 := wfst_succ (wkY n + 1)
    have k := wksOf_cases (wkY n + 1)
    have e : wkY n + 1 = wkY (n + 7) := wk_uniq (y := wkY n + 1) (by rw [s]; omega) (by rw [s2, s]; omega)
    refine Or.inr ⟨e.symm, ?_, e0⟩
    obtain ⟨b1, b2, b3, b4, b5, b6⟩ := wk_week (n + 7)
    rw [← e, s] at b6
    omega
theorem WeekSteps_walk (y m d : Int) (ky : I64 y) (w : World) (K : Kept w) : Calls Tryd.prog 5 #[dat y m d] w fun e w' => e = .returned (.bool true) ∧ Below w.heap.size w w' := by
  have hM := fun w => monthly_Days y m d 7 ky (by unfold I64; omega) w
  have hA := fun w => week_Of y m d ky w
  have kx : I64 (mdY y m d 7) := by
    unfold mdY
    split
    · rename_i h
      have o : dtOk (numb y m d + 7) = true := by simp [mdB] at h; exact h.2
      rw [(dt_y o).1]
      exact I64.sm (by have := (dtOk_year _).1 o; omega)
    · exact I64.sm (by omega)
  have hB := fun w => week_Of (mdY y m d 7) (mdM y m d 7) (mdD y m d 7) kx w
  cases hm : mdB y m d 7
  · rw [show mdE y m d 7 = 1 by simp [mdE, hm]] at hM
    exact WeekSteps_1 _ _ _ _ _ _ _ _ _ _ _ _ _ _ w K hM hA hB
  rw [show mdE y m d 7 = 0 by simp [mdE, hm]] at hM
  cases ha : woOk y m d
  · rw [(wo_n ha).2.2.2] at hA
    exact WeekSteps_2 _ _ _ _ _ _ _ _ _ _ _ _ _ w K hM hA hB
  cases hb : woOk (mdY y m d 7) (mdM y m d 7) (mdD y m d 7)
  · rw [(wo_n hb).2.2.2] at hB
    rw [(wo_y ha).2.2.2] at hA
    exact WeekSteps_3 _ _ _ _ _ _ _ _ _ _ _ _ w K hM hA hB
  have o : dtOk (numb y m d + 7) = true := by simp [mdB] at hm; exact hm.2
  obtain ⟨i1, i2⟩ := wk_date o
  have ex : mdY y m d 7 = dateY (numb y m d + 7) ∧ mdM y m d 7 = dateM (numb y m d + 7) ∧ mdD y m d 7 = dateD (numb y m d + 7) := by
    obtain ⟨f1, f2, f3, f4⟩ := dt_y o
    simp [mdY, mdM, mdD, hm, f1, f2, f3]
  have nx : numb (mdY y m d 7) (mdM y m d 7) (mdD y m d 7) = numb y m d + 7 := by rw [ex.1, ex.2.1, ex.2.2]; exact i2
  obtain ⟨e1, e2, e3, e4⟩ := wo_y ha
  rw [e1, e2, e3, e4] at hA
  clear e1 e2 e3 e4
  obtain ⟨e1, e2, e3, e4⟩ := wo_y hb
  rw [e1, e2, e3, e4, nx] at hB
  clear e1 e2 e3 e4
  obtain ⟨hr, y0, y1⟩ := wo_right ha
  obtain ⟨z1, z2, z3, z4, z5, z6⟩ := wk_week (numb y m d)
  have k := wksOf_cases (wkY (numb y m d))
  obtain ⟨q0, q⟩ := wk_next (numb y m d)
  rcases q with ⟨q1, q2⟩ | ⟨q1, q2, q3⟩
  · rw [q0, q1, q2] at hB
    exact WeekSteps_4 _ _ _ _ _ _ _ _ _ w K hM hA hB (by omega) (by omega) (by omega) (by omega)
  · rw [q0, q1, q2] at hB
    have hK := fun w => week_Weeks (wkY (numb y m d)) w
    rw [weeks_y y0 y1, ← q3] at hK
    exact WeekSteps_5 _ _ _ _ _ _ _ _ _ w K hM hA hB (by omega) (by omega) (by omega) (by omega) (by simp; omega) hK
end Go.Proofs.YtblmlglkjmilkacDoor
