/-
  noontidelaw07: WeekTells: the walk.
-/
import Derived.Test.YtblmlglkjmilkacDoorWeeT
import Derived.Test.YtblmlglkjmilkacDoorWeeI
import Derived.Test.YtblmlglkjmilkacDoorTxtC
namespace Go.Proofs.YtblmlglkjmilkacDoor
open Go.RowKit Go.Lib Cal
attribute [local go_sem] BW.cell BW.frozen
set_option maxRecDepth 100000 in
set_option maxHeartbeats 4000000 in
theorem WeekTells_leaf (y m d p q r yr a1 a2 a3 a4 e1 e2 e3 e4 n : Int) (o : Bool) (T : ByteArray) (w : World) (K : Kept w) (hO : ∀ w : World, Calls Tryd.prog 11 #[dat y m d] w fun e w' => e = .returned (.tuple #[dat a1 a2 a3, .int .i64 a4]) ∧ Below w.heap.size w w') (hO2 : ∀ w : World, Calls Tryd.prog 12 #[dat y m d] w fun e w' => e = .returned (.tuple #[dat a1 a2 a3, .int .i64 a4]) ∧ Below w.heap.size w w') (hD : ∀ w : World, Calls Tryd.prog 13 #[dat p q r] w fun e w' => e = .returned (.tuple #[dat e1 e2 e3, .int .i64 e4]) ∧ Below w.heap.size w w') (hD2 : ∀ w : World, Calls Tryd.prog 14 #[dat p q r] w fun e w' => e = .returned (.tuple #[dat e1 e2 e3, .int .i64 e4]) ∧ Below w.heap.size w w') (hW : ∀ w : World, Calls Tryd.prog 15 #[.int .i64 yr] w fun e w' => e = .returned (.int .i64 n) ∧ Below w.heap.size w w') (hW2 : ∀ w : World, Calls Tryd.prog 16 #[.int .i64 yr] w fun e w' => e = .returned (.int .i64 n) ∧ Below w.heap.size w w') (hR : ∀ w : World, Calls Tryd.prog 17 #[dat p q r] w fun e w' => e = .returned (.bool o) ∧ Below w.heap.size w w') (hR2 : ∀ w : World, Calls Tryd.prog 18 #[dat p q r] w fun e w' => e = .returned (.bool o) ∧ Below w.heap.size w w') (hT : ∀ w : World, Kept w → Calls Tryd.prog 19 #[dat p q r] w fun e w' => e = .returned (.string T) ∧ Below w.heap.size w w') (hT2 : ∀ w : World, Kept w → Calls Tryd.prog 20 #[dat p q r] w fun e w' => e = .returned (.string T) ∧ Below w.heap.size w w') : Calls Tryd.prog 3 #[dat y m d, dat p q r, .int .i64 yr] w fun e w' => e = .returned (.bool true) ∧ Below w.heap.size w w' := by
  go_enter Tryd.func3, Tryd.ntmps3
  go_wp2_with fail
  refine (hO _).mono ?_
  rintro e w1 ⟨rfl, hb1⟩
  have B1 : Below w.heap.size w w1 := by (focus (repeat' (first | assumption | exact Below.refl _ _ | refine Below.alloc ?_ ?_ _ | refine Below.setCell ?_ ?_ _ | refine Below.drew ?_ | refine below_drewN ?_ _ | refine Below.trans ?_ (Below.mono (by assumption) ?_) | refine Below.trans ?_ (Below.mono (BW.below _) ?_) | (simp; done) | (simp; omega) | omega)))
  have n1 : w.heap.size ≤ w1.heap.size := B1.size
  have s1_0 : w.heap.size < w1.heap.size := Nat.lt_of_lt_of_le (by first | (simp; done) | (simp; omega) | omega) hb1.size
  have c1_0_0 : w1.cell? ⟨w.heap.size, 0, none⟩ = some (.int .i64 (y)) := (hb1.cell (p := ⟨w.heap.size, 0, none⟩) (by first | (simp; done) | (simp; omega) | omega)).trans (by go_simp)
  have c1_0_1 : w1.cell? ⟨w.heap.size, 1, none⟩ = some (.int .i64 (m)) := (hb1.cell (p := ⟨w.heap.size, 1, none⟩) (by first | (simp; done) | (simp; omega) | omega)).trans (by go_simp)
  have c1_0_2 : w1.cell? ⟨w.heap.size, 2, none⟩ = some (.int .i64 (d)) := (hb1.cell (p := ⟨w.heap.size, 2, none⟩) (by first | (simp; done) | (simp; omega) | omega)).trans (by go_simp)
  have s1_1 : w.heap.size + 1 < w1.heap.size := Nat.lt_of_lt_of_le (by first | (simp; done) | (simp; omega) | omega) hb1.size
  have c1_1_0 : w1.cell? ⟨w.heap.size + 1, 0, none⟩ = some (.int .i64 (p)) := (hb1.cell (p := ⟨w.heap.size + 1, 0, none⟩) (by first | (simp; done) | (simp; omega) | omega)).trans (by go_simp)
  have c1_1_1 : w1.cell? ⟨w.heap.size + 1, 1, none⟩ = some (.int .i64 (q)) := (hb1.cell (p := ⟨w.heap.size + 1, 1, none⟩) (by first | (simp; done) | (simp; omega) | omega)).trans (by go_simp)
  have c1_1_2 : w1.cell? ⟨w.heap.size + 1, 2, none⟩ = some (.int .i64 (r)) := (hb1.cell (p := ⟨w.heap.size + 1, 2, none⟩) (by first | (simp; done) | (simp; omega) | omega)).trans (by go_simp)
  clear hb1
  go_wp2_with fail
  refine (hO2 _).mono ?_
  rintro e w2 ⟨rfl, hb2⟩
  have B2 : Below w.heap.size w w2 := by (focus (repeat' (first | assumption | exact Below.refl _ _ | refine Below.alloc ?_ ?_ _ | refine Below.setCell ?_ ?_ _ | refine Below.drew ?_ | refine below_drewN ?_ _ | refine Below.trans ?_ (Below.mono (by assumption) ?_) | refine Below.trans ?_ (Below.mono (BW.below _) ?_) | (simp; done) | (simp; omega) | omega)))
  have n2 : w.heap.size ≤ w2.heap.size := B2.size
  have s2_0 : w.heap.size + 1 < w2.heap.size := Nat.lt_of_lt_of_le (by first | (simp; done) | (simp; omega) | omega) hb2.size
  have c2_0_0 : w2.cell? ⟨w.heap.size + 1, 0, none⟩ = some (.int .i64 (p)) := (hb2.cell (p := ⟨w.heap.size + 1, 0, none⟩) (by first | (simp; done) | (simp; omega) | omega)).trans (by go_simp)
  have c2_0_1 : w2.cell? ⟨w.heap.size + 1, 1, none⟩ = some (.int .i64 (q)) := (hb2.cell (p := ⟨w.heap.size + 1, 1, none⟩) (by first | (simp; done) | (simp; omega) | omega)).trans (by go_simp)
  have c2_0_2 : w2.cell? ⟨w.heap.size + 1, 2, none⟩ = some (.int .i64 (r)) := (hb2.cell (p := ⟨w.heap.size + 1, 2, none⟩) (by first | (simp; done) | (simp; omega) | omega)).trans (by go_simp)
  have s2_1 : w1.heap.size < w2.heap.size := Nat.lt_of_lt_of_le (by first | (simp; done) | (simp; omega) | omega) hb2.size
  have c2_1_0 : w2.cell? ⟨w1.heap.size, 0, none⟩ = some (.int .i64 (a1)) := (hb2.cell (p := ⟨w1.heap.size, 0, none⟩) (by first | (simp; done) | (simp; omega) | omega)).trans (by go_simp)
  have c2_1_1 : w2.cell? ⟨w1.heap.size, 1, none⟩ = some (.int .i64 (a2)) := (hb2.cell (p := ⟨w1.heap.size, 1, none⟩) (by first | (simp; done) | (simp; omega) | omega)).trans (by go_simp)
  have c2_1_2 : w2.cell? ⟨w1.heap.size, 2, none⟩ = some (.int .i64 (a3)) := (hb2.cell (p := ⟨w1.heap.size, 2, none⟩) (by first | (simp; done) | (simp; omega) | omega)).trans (by go_simp)
  clear hb2 B1 c1_0_0 c1_0_1 c1_0_2 c1_1_0 c1_1_1 c1_1_2
  go_wp2_with fail
  refine (hD _).mono ?_
  rintro e w3 ⟨rfl, hb3⟩
  have B3 : Below w.heap.size w w3 := by (focus (repeat' (first | assumption | exact Below.refl _ _ | refine Below.alloc ?_ ?_ _ | refine Below.setCell ?_ ?_ _ | refine Below.drew ?_ | refine below_drewN ?_ _ | refine Below.trans ?_ (Below.mono (by assumption) ?_) | refine Below.trans ?_ (Below.mono (BW.below _) ?_) | (simp; done) | (simp; omega) | omega)))
  have n3 : w.heap.size ≤ w3.heap.size := B3.size
  have s3_0 : w.heap.size + 1 < w3.heap.size := Nat.lt_of_lt_of_le (by first | (simp; done) | (simp; omega) | omega) hb3.size
  have c3_0_0 : w3.cell? ⟨w.heap.size + 1, 0, none⟩ = some (.int .i64 (p)) := (hb3.cell (p := ⟨w.heap.size + 1, 0, none⟩) (by first | (simp; done) | (simp; omega) | omega)).trans (by go_simp)
  have c3_0_1 : w3.cell? ⟨w.heap.size + 1, 1, none⟩ = some (.int .i64 (q)) := (hb3.cell (p := ⟨w.heap.size + 1, 1, none⟩) (by first | (simp; done) | (simp; omega) | omega)).trans (by go_simp)
  have c3_0_2 : w3.cell? ⟨w.heap.size + 1, 2, none⟩ = some (.int .i64 (r)) := (hb3.cell (p := ⟨w.heap.size + 1, 2, none⟩) (by first | (simp; done) | (simp; omega) | omega)).trans (by go_simp)
  have s3_1 : w1.heap.size < w3.heap.size := Nat.lt_of_lt_of_le (by first | (simp; done) | (simp; omega) | omega) hb3.size
  have c3_1_0 : w3.cell? ⟨w1.heap.size, 0, none⟩ = some (.int .i64 (a1)) := (hb3.cell (p := ⟨w1.heap.size, 0, none⟩) (by first | (simp; done) | (simp; omega) | omega)).trans (by go_simp)
  have c3_1_1 : w3.cell? ⟨w1.heap.size, 1, none⟩ = some (.int .i64 (a2)) := (hb3.cell (p := ⟨w1.heap.size, 1, none⟩) (by first | (simp; done) | (simp; omega) | omega)).trans (by go_simp)
  have c3_1_2 : w3.cell? ⟨w1.heap.size, 2, none⟩ = some (.int .i64 (a3)) := (hb3.cell (p := ⟨w1.heap.size, 2, none⟩) (by first | (simp; done) | (simp; omega) | omega)).trans (by go_simp)
  have s3_2 : w2.heap.size < w3.heap.size := Nat.lt_of_lt_of_le (by first | (simp; done) | (simp; omega) | omega) hb3.size
  have c3_2_0 : w3.cell? ⟨w2.heap.size, 0, none⟩ = some (.int .i64 (a1)) := (hb3.cell (p := ⟨w2.heap.size, 0, none⟩) (by first | (simp; done) | (simp; omega) | omega)).trans (by go_simp)
  have c3_2_1 : w3.cell? ⟨w2.heap.size, 1, none⟩ = some (.int .i64 (a2)) := (hb3.cell (p := ⟨w2.heap.size, 1, none⟩) (by first | (simp; done) | (simp; omega) | omega)).trans (by go_simp)
  have c3_2_2 : w3.cell? ⟨w2.heap.size, 2, none⟩ = some (.int .i64 (a3)) := (hb3.cell (p := ⟨w2.heap.size, 2, none⟩) (by first | (simp; done) | (simp; omega) | omega)).trans (by go_simp)
  clear hb3 B2 c2_0_0 c2_0_1 c2_0_2 c2_1_0 c2_1_1 c2_1_2
  go_wp2_with fail
  refine (hD2 _).mono ?_
  rintro e w4 ⟨rfl, hb4⟩
  have B4 : Below w.heap.size w w4 := by (focus (repeat' (first | assumption | exact Below.refl _ _ | refine Below.alloc ?_ ?_ _ | refine Below.setCell ?_ ?_ _ | refine Below.drew ?_ | refine below_drewN ?_ _ | refine Below.trans ?_ (Below.mono (by assumption) ?_) | refine Below.trans ?_ (Below.mono (BW.below _) ?_) | (simp; done) | (simp; omega) | omega)))
  have n4 : w.heap.size ≤ w4.heap.size := B4.size
  have s4_0 : w.heap.size + 1 < w4.heap.size := Nat.lt_of_lt_of_le (by first | (simp; done) | (simp; omega) | omega) hb4.size
  have c4_0_0 : w4.cell? ⟨w.heap.size + 1, 0, none⟩ = some (.int .i64 (p)) := (hb4.cell (p := ⟨w.heap.size + 1, 0, none⟩) (by first | (simp; done) | (simp; omega) | omega)).trans (by go_simp)
  have c4_0_1 : w4.cell? ⟨w.heap.size + 1, 1, none⟩ = some (.int .i64 (q)) := (hb4.cell (p := ⟨w.heap.size + 1, 1, none⟩) (by first | (simp; done) | (simp; omega) | omega)).trans (by go_simp)
  have c4_0_2 : w4.cell? ⟨w.heap.size + 1, 2, none⟩ = some (.int .i64 (r)) := (hb4.cell (p := ⟨w.heap.size + 1, 2, none⟩) (by first | (simp; done) | (simp; omega) | omega)).trans (by go_simp)
  have s4_1 : w1.heap.size < w4.heap.size := Nat.lt_of_lt_of_le (by first | (simp; done) | (simp; omega) | omega) hb4.size
  have c4_1_0 : w4.cell? ⟨w1.heap.size, 0, none⟩ = some (.int .i64 (a1)) := (hb4.cell (p := ⟨w1.heap.size, 0, none⟩) (by first | (simp; done) | (simp; omega) | omega)).trans (by go_simp)
  have c4_1_1 : w4.cell? ⟨w1.heap.size, 1, none⟩ = some (.int .i64 (a2)) := (hb4.cell (p := ⟨w1.heap.size, 1, none⟩) (by first | (simp; done) | (simp; omega) | omega)).trans (by go_simp)
  have c4_1_2 : w4.cell? ⟨w1.heap.size, 2, none⟩ = some (.int .i64 (a3)) := (hb4.cell (p := ⟨w1.heap.size, 2, none⟩) (by first | (simp; done) | (simp; omega) | omega)).trans (by go_simp)
  have s4_2 : w2.heap.size < w4.heap.size := Nat.lt_of_lt_of_le (by first | (simp; done) | (simp; omega) | omega) hb4.size
  have c4_2_0 : w4.cell? ⟨w2.heap.size, 0, none⟩ = some (.int .i64 (a1)) := (hb4.cell (p := ⟨w2.heap.size, 0, none⟩) (by first | (simp; done) | (simp; omega) | omega)).trans (by go_simp)
  have c4_2_1 : w4.cell? ⟨w2.heap.size, 1, none⟩ = some (.int .i64 (a2)) := (hb4.cell (p := ⟨w2.heap.size, 1, none⟩) (by first | (simp; done) | (simp; omega) | omega)).trans (by go_simp)
  have c4_2_2 : w4.cell? ⟨w2.heap.size, 2, none⟩ = some (.int .i64 (a3)) := (hb4.cell (p := ⟨w2.heap.size, 2, none⟩) (by first | (simp; done) | (simp; omega) | omega)).trans (by go_simp)
  have s4_3 : w3.heap.size < w4.heap.size := Nat.lt_of_lt_of_le (by first | (simp; done) | (simp; omega) | omega) hb4.size
  have c4_3_0 : w4.cell? ⟨w3.heap.size, 0, none⟩ = some (.int .i64 (e1)) := (hb4.cell (p := ⟨w3.heap.size, 0, none⟩) (by first | (simp; done) | (simp; omega) | omega)).trans (by go_simp)
  have c4_3_1 : w4.cell? ⟨w3.heap.size, 1, none⟩ = some (.int .i64 (e2)) := (hb4.cell (p := ⟨w3.heap.size, 1, none⟩) (by first | (simp; done) | (simp; omega) | omega)).trans (by go_simp)
  have c4_3_2 : w4.cell? ⟨w3.heap.size, 2, none⟩ = some (.int .i64 (e3)) := (hb4.cell (p := ⟨w3.heap.size, 2, none⟩) (by first | (simp; done) | (simp; omega) | omega)).trans (by go_simp)
  clear hb4 B3 c3_0_0 c3_0_1 c3_0_2 c3_1_0 c3_1_1 c3_1_2 c3_2_0 c3_2_1 c3_2_2
  go_wp2_with fail
  have Bx1 : Below w.heap.size w (w4.alloc (.cells #[.int .i64 (e1), .int .i64 (e2), .int .i64 (e3)] 23)) := by (focus (repeat' (first | assumption | exact Below.refl _ _ | refine Below.alloc ?_ ?_ _ | refine Below.setCell ?_ ?_ _ | refine Below.drew ?_ | refine below_drewN ?_ _ | refine Below.trans ?_ (Below.mono (by assumption) ?_) | refine Below.trans ?_ (Below.mono (BW.below _) ?_) | (simp; done) | (simp; omega) | omega)))
  have nx1 : w.heap.size ≤ (w4.alloc (.cells #[.int .i64 (e1), .int .i64 (e2), .int .i64 (e3)] 23)).heap.size := Bx1.size
  have sx1_0 : w.heap.size + 1 < (w4.alloc (.cells #[.int .i64 (e1), .int .i64 (e2), .int .i64 (e3)] 23)).heap.size := (by first | (simp; done) | (simp; omega) | omega)
  have cx1_0_0 : (w4.alloc (.cells #[.int .i64 (e1), .int .i64 (e2), .int .i64 (e3)] 23)).cell? ⟨w.heap.size + 1, 0, none⟩ = some (.int .i64 (p)) := by go_simp
  have cx1_0_1 : (w4.alloc (.cells #[.int .i64 (e1), .int .i64 (e2), .int .i64 (e3)] 23)).cell? ⟨w.heap.size + 1, 1, none⟩ = some (.int .i64 (q)) := by go_simp
  have cx1_0_2 : (w4.alloc (.cells #[.int .i64 (e1), .int .i64 (e2), .int .i64 (e3)] 23)).cell? ⟨w.heap.size + 1, 2, none⟩ = some (.int .i64 (r)) := by go_simp
  have sx1_1 : w1.heap.size < (w4.alloc (.cells #[.int .i64 (e1), .int .i64 (e2), .int .i64 (e3)] 23)).heap.size := (by first | (simp; done) | (simp; omega) | omega)
  have cx1_1_0 : (w4.alloc (.cells #[.int .i64 (e1), .int .i64 (e2), .int .i64 (e3)] 23)).cell? ⟨w1.heap.size, 0, none⟩ = some (.int .i64 (a1)) := by go_simp
  have cx1_1_1 : (w4.alloc (.cells #[.int .i64 (e1), .int .i64 (e2), .int .i64 (e3)] 23)).cell? ⟨w1.heap.size, 1, none⟩ = some (.int .i64 (a2)) := by go_simp
  have cx1_1_2 : (w4.alloc (.cells #[.int .i64 (e1), .int .i64 (e2), .int .i64 (e3)] 23)).cell? ⟨w1.heap.size, 2, none⟩ = some (.int .i64 (a3)) := by go_simp
  have sx1_2 : w2.heap.size < (w4.alloc (.cells #[.int .i64 (e1), .int .i64 (e2), .int .i64 (e3)] 23)).heap.size := (by first | (simp; done) | (simp; omega) | omega)
  have cx1_2_0 : (w4.alloc (.cells #[.int .i64 (e1), .int .i64 (e2), .int .i64 (e3)] 23)).cell? ⟨w2.heap.size, 0, none⟩ = some (.int .i64 (a1)) := by go_simp
  have cx1_2_1 : (w4.alloc (.cells #[.int .i64 (e1), .int .i64 (e2), .int .i64 (e3)] 23)).cell? ⟨w2.heap.size, 1, none⟩ = some (.int .i64 (a2)) := by go_simp
  have cx1_2_2 : (w4.alloc (.cells #[.int .i64 (e1), .int .i64 (e2), .int .i64 (e3)] 23)).cell? ⟨w2.heap.size, 2, none⟩ = some (.int .i64 (a3)) := by go_simp
  have sx1_3 : w3.heap.size < (w4.alloc (.cells #[.int .i64 (e1), .int .i64 (e2), .int .i64 (e3)] 23)).heap.size := (by first | (simp; done) | (simp; omega) | omega)
  have cx1_3_0 : (w4.alloc (.cells #[.int .i64 (e1), .int .i64 (e2), .int .i64 (e3)] 23)).cell? ⟨w3.heap.size, 0, none⟩ = some (.int .i64 (e1)) := by go_simp
  have cx1_3_1 : (w4.alloc (.cells #[.int .i64 (e1), .int .i64 (e2), .int .i64 (e3)] 23)).cell? ⟨w3.heap.size, 1, none⟩ = some (.int .i64 (e2)) := by go_simp
  have cx1_3_2 : (w4.alloc (.cells #[.int .i64 (e1), .int .i64 (e2), .int .i64 (e3)] 23)).cell? ⟨w3.heap.size, 2, none⟩ = some (.int .i64 (e3)) := by go_simp
  have sx1_4 : w4.heap.size < (w4.alloc (.cells #[.int .i64 (e1), .int .i64 (e2), .int .i64 (e3)] 23)).heap.size := (by first | (simp; done) | (simp; omega) | omega)
  have cx1_4_0 : (w4.alloc (.cells #[.int .i64 (e1), .int .i64 (e2), .int .i64 (e3)] 23)).cell? ⟨w4.heap.size, 0, none⟩ = some (.int .i64 (e1)) := by go_simp
  have cx1_4_1 : (w4.alloc (.cells #[.int .i64 (e1), .int .i64 (e2), .int .i64 (e3)] 23)).cell? ⟨w4.heap.size, 1, none⟩ = some (.int .i64 (e2)) := by go_simp
  have cx1_4_2 : (w4.alloc (.cells #[.int .i64 (e1), .int .i64 (e2), .int .i64 (e3)] 23)).cell? ⟨w4.heap.size, 2, none⟩ = some (.int .i64 (e3)) := by go_simp
  clear B4 c4_0_0 c4_0_1 c4_0_2 c4_1_0 c4_1_1 c4_1_2 c4_2_0 c4_2_1 c4_2_2 c4_3_0 c4_3_1 c4_3_2
  generalize (w4.alloc (.cells #[.int .i64 (e1), .int .i64 (e2), .int .i64 (e3)] 23)) = x1 at *
  try dsimp only [List.append]
  have Kx : Kept x1 := K.below Bx1
  refine wp_region_bw (by kernel_rfl) (by kernel_rfl) ?_; (repeat (go_big_quiet_step ((first | (go_at_call 15; with_reducible exact bw_call (hW _)) | (go_at_call 16; with_reducible exact bw_call (hW2 _)) | (go_at_call 17; with_reducible exact bw_call (hR _)) | (go_at_call 18; with_reducible exact bw_call (hR2 _)) | (go_at_call 19; exact bw_call (hT _ (Kx.below (BW.below _)))) | (go_at_call 20; exact bw_call (hT2 _ (Kx.below (BW.below _)))) | (go_at_call 21; exact bw_call (wk_lives _ (Kx.below (BW.below _)))))))); refine wpQuiet_nil ?_; intro _ hw'; obtain ⟨xq, hw''⟩ := hw'; subst hw''
  have Bx2 : Below w.heap.size w xq.val := Bx1.trans (xq.below.mono nx1)
  have nx2 : w.heap.size ≤ xq.val.heap.size := Bx2.size
  clear Bx1 cx1_0_0 cx1_0_1 cx1_0_2 cx1_1_0 cx1_1_1 cx1_1_2 cx1_2_0 cx1_2_1 cx1_2_2 cx1_3_0 cx1_3_1 cx1_3_2 cx1_4_0 cx1_4_1 cx1_4_2
  generalize xq.val = x2 at *
  go_wp2_with fail
  go_ret
  exact ⟨rfl, by (focus (repeat' (first | assumption | exact Below.refl _ _ | refine Below.alloc ?_ ?_ _ | refine Below.setCell ?_ ?_ _ | refine Below.drew ?_ | refine below_drewN ?_ _ | refine Below.trans ?_ (Below.mono (by assumption) ?_) | refine Below.trans ?_ (Below.mono (BW.below _) ?_) | (simp; done) | (simp; omega) | omega)))⟩
theorem yr_T (y : Int) : ∀ b ∈ yrText y, b ≠ 84 := by
  intro b hb
  unfold yrText pads at hb
  rcases List.mem_append.1 hb with h | h
  · split at h <;> simp at h
    rw [h]
    decide
  · rcases List.mem_append.1 h with h | h
    · rw [(List.mem_replicate.1 h).2]
      decide
    · have := dec_digs _ b h
      rintro rfl
      revert this
      unfold isDig
      decide
theorem WeekTells_walk (y m d p q r yr : Int) (ky : I64 y) (w : World) (K : Kept w) : Calls Tryd.prog 3 #[dat y m d, dat p q r, .int .i64 yr] w fun e w' => e = .returned (.bool true) ∧ Below w.heap.size w w' := by
  cases h : wkB p q r
  · exact WeekTells_leaf y m d p q r yr _ _ _ _ _ _ _ _ _ _ _ w K (fun w => week_Of y m d ky w) (fun w => ref07_Of y m d ky w) (fun w => week_Date p q r w) (fun w => ref07_Date p q r w) (fun w => week_Weeks yr w) (fun w => ref07_Weeks yr w) (fun w => week_Right p q r w) (fun w => ref07_Right p q r w)
      (fun w _ => week_Text_n p q r h w) (fun w _ => ref07_Text_n p q r h w)
  · obtain ⟨f0, f1, k0, k1, d0, d1, y0, y1⟩ := wk_small h
    have hc : Lib.cut (stText p 1 1 0 0 0) [45, 48, 49, 45, 48, 49, 84] = (yrText p, [48, 48, 58, 48, 48, 58, 48, 48], true) := by
      rw [st_11]
      exact cut_T (yrText p) [48, 48, 58, 48, 48, 58, 48, 48] (yr_T p)
    have hl := yr_len y0 y1
    exact WeekTells_leaf y m d p q r yr _ _ _ _ _ _ _ _ _ _ _ w K (fun w => week_Of y m d ky w) (fun w => ref07_Of y m d ky w) (fun w => week_Date p q r w) (fun w => ref07_Date p q r w) (fun w => week_Weeks yr w) (fun w => ref07_Weeks yr w) (fun w => week_Right p q r w) (fun w => ref07_Right p q r w)
      (fun w K => week_Text p q r h (yrText p) _ hc (by rw [st_11, List.length_append]; show _ + 15 ≤ 1000; omega) (by omega) w K) (fun w _ => ref07_Text p q r h w)
end Go.Proofs.YtblmlglkjmilkacDoor
