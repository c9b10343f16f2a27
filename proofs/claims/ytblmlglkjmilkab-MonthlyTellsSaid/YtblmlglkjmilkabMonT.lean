/-
  noontidelaw06: MonthlyTells and MonthlyBetween: the walks.
-/
import Derived.Test.YtblmlglkjmilkabMonV
namespace Go.Proofs.Ytblmlglkjmilkab
open Go.RowKit Cal
attribute [local go_sem] BW.cell BW.frozen
set_option maxRecDepth 100000 in
set_option maxHeartbeats 4000000 in
theorem MonthlyTells_leaf (y m d y' m' d' n a1 a2 a3 a4 y1 y2 y3 y4 d1 d2 d3 d4 N E : Int) (hpAdd : ∀ w : World, Calls Try.prog 20 #[dat y m d, .int .i64 n] w fun e w' => e = .returned (.tuple #[dat a1 a2 a3, .int .i64 a4]) ∧ Below w.heap.size w w') (hrAdd : ∀ w : World, Calls Try.prog 21 #[dat y m d, .int .i64 n] w fun e w' => e = .returned (.tuple #[dat a1 a2 a3, .int .i64 a4]) ∧ Below w.heap.size w w') (hpYears : ∀ w : World, Calls Try.prog 22 #[dat y m d, .int .i64 n] w fun e w' => e = .returned (.tuple #[dat y1 y2 y3, .int .i64 y4]) ∧ Below w.heap.size w w') (hrYears : ∀ w : World, Calls Try.prog 23 #[dat y m d, .int .i64 n] w fun e w' => e = .returned (.tuple #[dat y1 y2 y3, .int .i64 y4]) ∧ Below w.heap.size w w') (hpDays : ∀ w : World, Calls Try.prog 24 #[dat y m d, .int .i64 n] w fun e w' => e = .returned (.tuple #[dat d1 d2 d3, .int .i64 d4]) ∧ Below w.heap.size w w') (hrDays : ∀ w : World, Calls Try.prog 25 #[dat y m d, .int .i64 n] w fun e w' => e = .returned (.tuple #[dat d1 d2 d3, .int .i64 d4]) ∧ Below w.heap.size w w') (hpB : ∀ w : World, Calls Try.prog 26 #[dat y m d, dat y' m' d'] w fun e w' => e = .returned (.tuple #[.int .i64 N, .int .i64 E]) ∧ Below w.heap.size w w') (hrB : ∀ w : World, Calls Try.prog 27 #[dat y m d, dat y' m' d'] w fun e w' => e = .returned (.tuple #[.int .i64 N, .int .i64 E]) ∧ Below w.heap.size w w') (w : World) : Calls Try.prog 4 #[dat y m d, dat y' m' d', .int .i64 n] w fun e w' => e = .returned (.bool true) ∧ Below w.heap.size w w' := by
  go_enter Try.func4, Try.ntmps4
  go_wp2_with fail
  refine (hpAdd _).mono ?_
  rintro e w1 ⟨rfl, hb1⟩
  have B1 : Below w.heap.size w w1 := by (focus (repeat' (first | assumption | exact Below.refl _ _ | refine Below.alloc ?_ ?_ _ | refine Below.setCell ?_ ?_ _ | refine Below.drew ?_ | refine below_drewN ?_ _ | refine Below.trans ?_ (Below.mono (by assumption) ?_) | refine Below.trans ?_ (Below.mono (BW.below _) ?_) | (simp; done) | (simp; omega) | omega)))
  have n1 : w.heap.size ≤ w1.heap.size := B1.size
  have s1_0 : w.heap.size < w1.heap.size := Nat.lt_of_lt_of_le (by first | (simp; done) | (simp; omega) | omega) hb1.size
  have c1_0_0 : w1.cell? ⟨w.heap.size, 0, none⟩ = some (.int .i64 (y)) := (hb1.cell (p := ⟨w.heap.size, 0, none⟩) (by first | (simp; done) | (simp; omega) | omega)).trans (by go_simp)
  have c1_0_1 : w1.cell? ⟨w.heap.size, 1, none⟩ = some (.int .i64 (m)) := (hb1.cell (p := ⟨w.heap.size, 1, none⟩) (by first | (simp; done) | (simp; omega) | omega)).trans (by go_simp)
  have c1_0_2 : w1.cell? ⟨w.heap.size, 2, none⟩ = some (.int .i64 (d)) := (hb1.cell (p := ⟨w.heap.size, 2, none⟩) (by first | (simp; done) | (simp; omega) | omega)).trans (by go_simp)
  have s1_1 : w.heap.size + 1 < w1.heap.size := Nat.lt_of_lt_of_le (by first | (simp; done) | (simp; omega) | omega) hb1.size
  have c1_1_0 : w1.cell? ⟨w.heap.size + 1, 0, none⟩ = some (.int .i64 (y')) := (hb1.cell (p := ⟨w.heap.size + 1, 0, none⟩) (by first | (simp; done) | (simp; omega) | omega)).trans (by go_simp)
  have c1_1_1 : w1.cell? ⟨w.heap.size + 1, 1, none⟩ = some (.int .i64 (m')) := (hb1.cell (p := ⟨w.heap.size + 1, 1, none⟩) (by first | (simp; done) | (simp; omega) | omega)).trans (by go_simp)
  have c1_1_2 : w1.cell? ⟨w.heap.size + 1, 2, none⟩ = some (.int .i64 (d')) := (hb1.cell (p := ⟨w.heap.size + 1, 2, none⟩) (by first | (simp; done) | (simp; omega) | omega)).trans (by go_simp)
  clear hb1
  go_wp2_with fail
  refine (hrAdd _).mono ?_
  rintro e w2 ⟨rfl, hb2⟩
  have B2 : Below w.heap.size w w2 := by (focus (repeat' (first | assumption | exact Below.refl _ _ | refine Below.alloc ?_ ?_ _ | refine Below.setCell ?_ ?_ _ | refine Below.drew ?_ | refine below_drewN ?_ _ | refine Below.trans ?_ (Below.mono (by assumption) ?_) | refine Below.trans ?_ (Below.mono (BW.below _) ?_) | (simp; done) | (simp; omega) | omega)))
  have n2 : w.heap.size ≤ w2.heap.size := B2.size
  have s2_0 : w.heap.size < w2.heap.size := Nat.lt_of_lt_of_le (by first | (simp; done) | (simp; omega) | omega) hb2.size
  have c2_0_0 : w2.cell? ⟨w.heap.size, 0, none⟩ = some (.int .i64 (y)) := (hb2.cell (p := ⟨w.heap.size, 0, none⟩) (by first | (simp; done) | (simp; omega) | omega)).trans (by go_simp)
  have c2_0_1 : w2.cell? ⟨w.heap.size, 1, none⟩ = some (.int .i64 (m)) := (hb2.cell (p := ⟨w.heap.size, 1, none⟩) (by first | (simp; done) | (simp; omega) | omega)).trans (by go_simp)
  have c2_0_2 : w2.cell? ⟨w.heap.size, 2, none⟩ = some (.int .i64 (d)) := (hb2.cell (p := ⟨w.heap.size, 2, none⟩) (by first | (simp; done) | (simp; omega) | omega)).trans (by go_simp)
  have s2_1 : w.heap.size + 1 < w2.heap.size := Nat.lt_of_lt_of_le (by first | (simp; done) | (simp; omega) | omega) hb2.size
  have c2_1_0 : w2.cell? ⟨w.heap.size + 1, 0, none⟩ = some (.int .i64 (y')) := (hb2.cell (p := ⟨w.heap.size + 1, 0, none⟩) (by first | (simp; done) | (simp; omega) | omega)).trans (by go_simp)
  have c2_1_1 : w2.cell? ⟨w.heap.size + 1, 1, none⟩ = some (.int .i64 (m')) := (hb2.cell (p := ⟨w.heap.size + 1, 1, none⟩) (by first | (simp; done) | (simp; omega) | omega)).trans (by go_simp)
  have c2_1_2 : w2.cell? ⟨w.heap.size + 1, 2, none⟩ = some (.int .i64 (d')) := (hb2.cell (p := ⟨w.heap.size + 1, 2, none⟩) (by first | (simp; done) | (simp; omega) | omega)).trans (by go_simp)
  have s2_2 : w1.heap.size < w2.heap.size := Nat.lt_of_lt_of_le (by first | (simp; done) | (simp; omega) | omega) hb2.size
  have c2_2_0 : w2.cell? ⟨w1.heap.size, 0, none⟩ = some (.int .i64 (a1)) := (hb2.cell (p := ⟨w1.heap.size, 0, none⟩) (by first | (simp; done) | (simp; omega) | omega)).trans (by go_simp)
  have c2_2_1 : w2.cell? ⟨w1.heap.size, 1, none⟩ = some (.int .i64 (a2)) := (hb2.cell (p := ⟨w1.heap.size, 1, none⟩) (by first | (simp; done) | (simp; omega) | omega)).trans (by go_simp)
  have c2_2_2 : w2.cell? ⟨w1.heap.size, 2, none⟩ = some (.int .i64 (a3)) := (hb2.cell (p := ⟨w1.heap.size, 2, none⟩) (by first | (simp; done) | (simp; omega) | omega)).trans (by go_simp)
  clear hb2 B1 c1_0_0 c1_0_1 c1_0_2 c1_1_0 c1_1_1 c1_1_2
  go_wp2_with fail
  refine (hpYears _).mono ?_
  rintro e w3 ⟨rfl, hb3⟩
  have B3 : Below w.heap.size w w3 := by (focus (repeat' (first | assumption | exact Below.refl _ _ | refine Below.alloc ?_ ?_ _ | refine Below.setCell ?_ ?_ _ | refine Below.drew ?_ | refine below_drewN ?_ _ | refine Below.trans ?_ (Below.mono (by assumption) ?_) | refine Below.trans ?_ (Below.mono (BW.below _) ?_) | (simp; done) | (simp; omega) | omega)))
  have n3 : w.heap.size ≤ w3.heap.size := B3.size
  have s3_0 : w.heap.size < w3.heap.size := Nat.lt_of_lt_of_le (by first | (simp; done) | (simp; omega) | omega) hb3.size
  have c3_0_0 : w3.cell? ⟨w.heap.size, 0, none⟩ = some (.int .i64 (y)) := (hb3.cell (p := ⟨w.heap.size, 0, none⟩) (by first | (simp; done) | (simp; omega) | omega)).trans (by go_simp)
  have c3_0_1 : w3.cell? ⟨w.heap.size, 1, none⟩ = some (.int .i64 (m)) := (hb3.cell (p := ⟨w.heap.size, 1, none⟩) (by first | (simp; done) | (simp; omega) | omega)).trans (by go_simp)
  have c3_0_2 : w3.cell? ⟨w.heap.size, 2, none⟩ = some (.int .i64 (d)) := (hb3.cell (p := ⟨w.heap.size, 2, none⟩) (by first | (simp; done) | (simp; omega) | omega)).trans (by go_simp)
  have s3_1 : w.heap.size + 1 < w3.heap.size := Nat.lt_of_lt_of_le (by first | (simp; done) | (simp; omega) | omega) hb3.size
  have c3_1_0 : w3.cell? ⟨w.heap.size + 1, 0, none⟩ = some (.int .i64 (y')) := (hb3.cell (p := ⟨w.heap.size + 1, 0, none⟩) (by first | (simp; done) | (simp; omega) | omega)).trans (by go_simp)
  have c3_1_1 : w3.cell? ⟨w.heap.size + 1, 1, none⟩ = some (.int .i64 (m')) := (hb3.cell (p := ⟨w.heap.size + 1, 1, none⟩) (by first | (simp; done) | (simp; omega) | omega)).trans (by go_simp)
  have c3_1_2 : w3.cell? ⟨w.heap.size + 1, 2, none⟩ = some (.int .i64 (d')) := (hb3.cell (p := ⟨w.heap.size + 1, 2, none⟩) (by first | (simp; done) | (simp; omega) | omega)).trans (by go_simp)
  have s3_2 : w1.heap.size < w3.heap.size := Nat.lt_of_lt_of_le (by first | (simp; done) | (simp; omega) | omega) hb3.size
  have c3_2_0 : w3.cell? ⟨w1.heap.size, 0, none⟩ = some (.int .i64 (a1)) := (hb3.cell (p := ⟨w1.heap.size, 0, none⟩) (by first | (simp; done) | (simp; omega) | omega)).trans (by go_simp)
  have c3_2_1 : w3.cell? ⟨w1.heap.size, 1, none⟩ = some (.int .i64 (a2)) := (hb3.cell (p := ⟨w1.heap.size, 1, none⟩) (by first | (simp; done) | (simp; omega) | omega)).trans (by go_simp)
  have c3_2_2 : w3.cell? ⟨w1.heap.size, 2, none⟩ = some (.int .i64 (a3)) := (hb3.cell (p := ⟨w1.heap.size, 2, none⟩) (by first | (simp; done) | (simp; omega) | omega)).trans (by go_simp)
  have s3_3 : w2.heap.size < w3.heap.size := Nat.lt_of_lt_of_le (by first | (simp; done) | (simp; omega) | omega) hb3.size
  have c3_3_0 : w3.cell? ⟨w2.heap.size, 0, none⟩ = some (.int .i64 (a1)) := (hb3.cell (p := ⟨w2.heap.size, 0, none⟩) (by first | (simp; done) | (simp; omega) | omega)).trans (by go_simp)
  have c3_3_1 : w3.cell? ⟨w2.heap.size, 1, none⟩ = some (.int .i64 (a2)) := (hb3.cell (p := ⟨w2.heap.size, 1, none⟩) (by first | (simp; done) | (simp; omega) | omega)).trans (by go_simp)
  have c3_3_2 : w3.cell? ⟨w2.heap.size, 2, none⟩ = some (.int .i64 (a3)) := (hb3.cell (p := ⟨w2.heap.size, 2, none⟩) (by first | (simp; done) | (simp; omega) | omega)).trans (by go_simp)
  clear hb3 B2 c2_0_0 c2_0_1 c2_0_2 c2_1_0 c2_1_1 c2_1_2 c2_2_0 c2_2_1 c2_2_2
  go_wp2_with fail
  refine (hrYears _).mono ?_
  rintro e w4 ⟨rfl, hb4⟩
  have B4 : Below w.heap.size w w4 := by (focus (repeat' (first | assumption | exact Below.refl _ _ | refine Below.alloc ?_ ?_ _ | refine Below.setCell ?_ ?_ _ | refine Below.drew ?_ | refine below_drewN ?_ _ | refine Below.trans ?_ (Below.mono (by assumption) ?_) | refine Below.trans ?_ (Below.mono (BW.below _) ?_) | (simp; done) | (simp; omega) | omega)))
  have n4 : w.heap.size ≤ w4.heap.size := B4.size
  have s4_0 : w.heap.size < w4.heap.size := Nat.lt_of_lt_of_le (by first | (simp; done) | (simp; omega) | omega) hb4.size
  have c4_0_0 : w4.cell? ⟨w.heap.size, 0, none⟩ = some (.int .i64 (y)) := (hb4.cell (p := ⟨w.heap.size, 0, none⟩) (by first | (simp; done) | (simp; omega) | omega)).trans (by go_simp)
  have c4_0_1 : w4.cell? ⟨w.heap.size, 1, none⟩ = some (.int .i64 (m)) := (hb4.cell (p := ⟨w.heap.size, 1, none⟩) (by first | (simp; done) | (simp; omega) | omega)).trans (by go_simp)
  have c4_0_2 : w4.cell? ⟨w.heap.size, 2, none⟩ = some (.int .i64 (d)) := (hb4.cell (p := ⟨w.heap.size, 2, none⟩) (by first | (simp; done) | (simp; omega) | omega)).trans (by go_simp)
  have s4_1 : w.heap.size + 1 < w4.heap.size := Nat.lt_of_lt_of_le (by first | (simp; done) | (simp; omega) | omega) hb4.size
  have c4_1_0 : w4.cell? ⟨w.heap.size + 1, 0, none⟩ = some (.int .i64 (y')) := (hb4.cell (p := ⟨w.heap.size + 1, 0, none⟩) (by first | (simp; done) | (simp; omega) | omega)).trans (by go_simp)
  have c4_1_1 : w4.cell? ⟨w.heap.size + 1, 1, none⟩ = some (.int .i64 (m')) := (hb4.cell (p := ⟨w.heap.size + 1, 1, none⟩) (by first | (simp; done) | (simp; omega) | omega)).trans (by go_simp)
  have c4_1_2 : w4.cell? ⟨w.heap.size + 1, 2, none⟩ = some (.int .i64 (d')) := (hb4.cell (p := ⟨w.heap.size + 1, 2, none⟩) (by first | (simp; done) | (simp; omega) | omega)).trans (by go_simp)
  have s4_2 : w1.heap.size < w4.heap.size := Nat.lt_of_lt_of_le (by first | (simp; done) | (simp; omega) | omega) hb4.size
  have c4_2_0 : w4.cell? ⟨w1.heap.size, 0, none⟩ = some (.int .i64 (a1)) := (hb4.cell (p := ⟨w1.heap.size, 0, none⟩) (by first | (simp; done) | (simp; omega) | omega)).trans (by go_simp)
  have c4_2_1 : w4.cell? ⟨w1.heap.size, 1, none⟩ = some (.int .i64 (a2)) := (hb4.cell (p := ⟨w1.heap.size, 1, none⟩) (by first | (simp; done) | (simp; omega) | omega)).trans (by go_simp)
  have c4_2_2 : w4.cell? ⟨w1.heap.size, 2, none⟩ = some (.int .i64 (a3)) := (hb4.cell (p := ⟨w1.heap.size, 2, none⟩) (by first | (simp; done) | (simp; omega) | omega)).trans (by go_simp)
  have s4_3 : w2.heap.size < w4.heap.size := Nat.lt_of_lt_of_le (by first | (simp; done) | (simp; omega) | omega) hb4.size
  have c4_3_0 : w4.cell? ⟨w2.heap.size, 0, none⟩ = some (.int .i64 (a1)) := (hb4.cell (p := ⟨w2.heap.size, 0, none⟩) (by first | (simp; done) | (simp; omega) | omega)).trans (by go_simp)
  have c4_3_1 : w4.cell? ⟨w2.heap.size, 1, none⟩ = some (.int .i64 (a2)) := (hb4.cell (p := ⟨w2.heap.size, 1, none⟩) (by first | (simp; done) | (simp; omega) | omega)).trans (by go_simp)
  have c4_3_2 : w4.cell? ⟨w2.heap.size, 2, none⟩ = some (.int .i64 (a3)) := (hb4.cell (p := ⟨w2.heap.size, 2, none⟩) (by first | (simp; done) | (simp; omega) | omega)).trans (by go_simp)
  have s4_4 : w3.heap.size < w4.heap.size := Nat.lt_of_lt_of_le (by first | (simp; done) | (simp; omega) | omega) hb4.size
  have c4_4_0 : w4.cell? ⟨w3.heap.size, 0, none⟩ = some (.int .i64 (y1)) := (hb4.cell (p := ⟨w3.heap.size, 0, none⟩) (by first | (simp; done) | (simp; omega) | omega)).trans (by go_simp)
  have c4_4_1 : w4.cell? ⟨w3.heap.size, 1, none⟩ = some (.int .i64 (y2)) := (hb4.cell (p := ⟨w3.heap.size, 1, none⟩) (by first | (simp; done) | (simp; omega) | omega)).trans (by go_simp)
  have c4_4_2 : w4.cell? ⟨w3.heap.size, 2, none⟩ = some (.int .i64 (y3)) := (hb4.cell (p := ⟨w3.heap.size, 2, none⟩) (by first | (simp; done) | (simp; omega) | omega)).trans (by go_simp)
  clear hb4 B3 c3_0_0 c3_0_1 c3_0_2 c3_1_0 c3_1_1 c3_1_2 c3_2_0 c3_2_1 c3_2_2 c3_3_0 c3_3_1 c3_3_2
  go_wp2_with fail
  refine (hpDays _).mono ?_
  rintro e w5 ⟨rfl, hb5⟩
  have B5 : Below w.heap.size w w5 := by (focus (repeat' (first | assumption | exact Below.refl _ _ | refine Below.alloc ?_ ?_ _ | refine Below.setCell ?_ ?_ _ | refine Below.drew ?_ | refine below_drewN ?_ _ | refine Below.trans ?_ (Below.mono (by assumption) ?_) | refine Below.trans ?_ (Below.mono (BW.below _) ?_) | (simp; done) | (simp; omega) | omega)))
  have n5 : w.heap.size ≤ w5.heap.size := B5.size
  have s5_0 : w.heap.size < w5.heap.size := Nat.lt_of_lt_of_le (by first | (simp; done) | (simp; omega) | omega) hb5.size
  have c5_0_0 : w5.cell? ⟨w.heap.size, 0, none⟩ = some (.int .i64 (y)) := (hb5.cell (p := ⟨w.heap.size, 0, none⟩) (by first | (simp; done) | (simp; omega) | omega)).trans (by go_simp)
  have c5_0_1 : w5.cell? ⟨w.heap.size, 1, none⟩ = some (.int .i64 (m)) := (hb5.cell (p := ⟨w.heap.size, 1, none⟩) (by first | (simp; done) | (simp; omega) | omega)).trans (by go_simp)
  have c5_0_2 : w5.cell? ⟨w.heap.size, 2, none⟩ = some (.int .i64 (d)) := (hb5.cell (p := ⟨w.heap.size, 2, none⟩) (by first | (simp; done) | (simp; omega) | omega)).trans (by go_simp)
  have s5_1 : w.heap.size + 1 < w5.heap.size := Nat.lt_of_lt_of_le (by first | (simp; done) | (simp; omega) | omega) hb5.size
  have c5_1_0 : w5.cell? ⟨w.heap.size + 1, 0, none⟩ = some (.int .i64 (y')) := (hb5.cell (p := ⟨w.heap.size + 1, 0, none⟩) (by first | (simp; done) | (simp; omega) | omega)).trans (by go_simp)
  have c5_1_1 : w5.cell? ⟨w.heap.size + 1, 1, none⟩ = some (.int .i64 (m')) := (hb5.cell (p := ⟨w.heap.size + 1, 1, none⟩) (by first | (simp; done) | (simp; omega) | omega)).trans (by go_simp)
  have c5_1_2 : w5.cell? ⟨w.heap.size + 1, 2, none⟩ = some (.int .i64 (d')) := (hb5.cell (p := ⟨w.heap.size + 1, 2, none⟩) (by first | (simp; done) | (simp; omega) | omega)).trans (by go_simp)
  have s5_2 : w1.heap.size < w5.heap.size := Nat.lt_of_lt_of_le (by first | (simp; done) | (simp; omega) | omega) hb5.size
  have c5_2_0 : w5.cell? ⟨w1.heap.size, 0, none⟩ = some (.int .i64 (a1)) := (hb5.cell (p := ⟨w1.heap.size, 0, none⟩) (by first | (simp; done) | (simp; omega) | omega)).trans (by go_simp)
  have c5_2_1 : w5.cell? ⟨w1.heap.size, 1, none⟩ = some (.int .i64 (a2)) := (hb5.cell (p := ⟨w1.heap.size, 1, none⟩) (by first | (simp; done) | (simp; omega) | omega)).trans (by go_simp)
  have c5_2_2 : w5.cell? ⟨w1.heap.size, 2, none⟩ = some (.int .i64 (a3)) := (hb5.cell (p := ⟨w1.heap.size, 2, none⟩) (by first | (simp; done) | (simp; omega) | omega)).trans (by go_simp)
  have s5_3 : w2.heap.size < w5.heap.size := Nat.lt_of_lt_of_le (by first | (simp; done) | (simp; omega) | omega) hb5.size
  have c5_3_0 : w5.cell? ⟨w2.heap.size, 0, none⟩ = some (.int .i64 (a1)) := (hb5.cell (p := ⟨w2.heap.size, 0, none⟩) (by first | (simp; done) | (simp; omega) | omega)).trans (by go_simp)
  have c5_3_1 : w5.cell? ⟨w2.heap.size, 1, none⟩ = some (.int .i64 (a2)) := (hb5.cell (p := ⟨w2.heap.size, 1, none⟩) (by first | (simp; done) | (simp; omega) | omega)).trans (by go_simp)
  have c5_3_2 : w5.cell? ⟨w2.heap.size, 2, none⟩ = some (.int .i64 (a3)) := (hb5.cell (p := ⟨w2.heap.size, 2, none⟩) (by first | (simp; done) | (simp; omega) | omega)).trans (by go_simp)
  have s5_4 : w3.heap.size < w5.heap.size := Nat.lt_of_lt_of_le (by first | (simp; done) | (simp; omega) | omega) hb5.size
  have c5_4_0 : w5.cell? ⟨w3.heap.size, 0, none⟩ = some (.int .i64 (y1)) := (hb5.cell (p := ⟨w3.heap.size, 0, none⟩) (by first | (simp; done) | (simp; omega) | omega)).trans (by go_simp)
  have c5_4_1 : w5.cell? ⟨w3.heap.size, 1, none⟩ = some (.int .i64 (y2)) := (hb5.cell (p := ⟨w3.heap.size, 1, none⟩) (by first | (simp; done) | (simp; omega) | omega)).trans (by go_simp)
  have c5_4_2 : w5.cell? ⟨w3.heap.size, 2, none⟩ = some (.int .i64 (y3)) := (hb5.cell (p := ⟨w3.heap.size, 2, none⟩) (by first | (simp; done) | (simp; omega) | omega)).trans (by go_simp)
  have s5_5 : w4.heap.size < w5.heap.size := Nat.lt_of_lt_of_le (by first | (simp; done) | (simp; omega) | omega) hb5.size
  have c5_5_0 : w5.cell? ⟨w4.heap.size, 0, none⟩ = some (.int .i64 (y1)) := (hb5.cell (p := ⟨w4.heap.size, 0, none⟩) (by first | (simp; done) | (simp; omega) | omega)).trans (by go_simp)
  have c5_5_1 : w5.cell? ⟨w4.heap.size, 1, none⟩ = some (.int .i64 (y2)) := (hb5.cell (p := ⟨w4.heap.size, 1, none⟩) (by first | (simp; done) | (simp; omega) | omega)).trans (by go_simp)
  have c5_5_2 : w5.cell? ⟨w4.heap.size, 2, none⟩ = some (.int .i64 (y3)) := (hb5.cell (p := ⟨w4.heap.size, 2, none⟩) (by first | (simp; done) | (simp; omega) | omega)).trans (by go_simp)
  clear hb5 B4 c4_0_0 c4_0_1 c4_0_2 c4_1_0 c4_1_1 c4_1_2 c4_2_0 c4_2_1 c4_2_2 c4_3_0 c4_3_1 c4_3_2 c4_4_0 c4_4_1 c4_4_2
  go_wp2_with fail
  refine (hrDays _).mono ?_
  rintro e w6 ⟨rfl, hb6⟩
  have B6 : Below w.heap.size w w6 := by (focus (repeat' (first | assumption | exact Below.refl _ _ | refine Below.alloc ?_ ?_ _ | refine Below.setCell ?_ ?_ _ | refine Below.drew ?_ | refine below_drewN ?_ _ | refine Below.trans ?_ (Below.mono (by assumption) ?_) | refine Below.trans ?_ (Below.mono (BW.below _) ?_) | (simp; done) | (simp; omega) | omega)))
  have n6 : w.heap.size ≤ w6.heap.size := B6.size
  have s6_0 : w.heap.size < w6.heap.size := Nat.lt_of_lt_of_le (by first | (simp; done) | (simp; omega) | omega) hb6.size
  have c6_0_0 : w6.cell? ⟨w.heap.size, 0, none⟩ = some (.int .i64 (y)) := (hb6.cell (p := ⟨w.heap.size, 0, none⟩) (by first | (simp; done) | (simp; omega) | omega)).trans (by go_simp)
  have c6_0_1 : w6.cell? ⟨w.heap.size, 1, none⟩ = some (.int .i64 (m)) := (hb6.cell (p := ⟨w.heap.size, 1, none⟩) (by first | (simp; done) | (simp; omega) | omega)).trans (by go_simp)
  have c6_0_2 : w6.cell? ⟨w.heap.size, 2, none⟩ = some (.int .i64 (d)) := (hb6.cell (p := ⟨w.heap.size, 2, none⟩) (by first | (simp; done) | (simp; omega) | omega)).trans (by go_simp)
  have s6_1 : w.heap.size + 1 < w6.heap.size := Nat.lt_of_lt_of_le (by first | (simp; done) | (simp; omega) | omega) hb6.size
  have c6_1_0 : w6.cell? ⟨w.heap.size + 1, 0, none⟩ = some (.int .i64 (y')) := (hb6.cell (p := ⟨w.heap.size + 1, 0, none⟩) (by first | (simp; done) | (simp; omega) | omega)).trans (by go_simp)
  have c6_1_1 : w6.cell? ⟨w.heap.size + 1, 1, none⟩ = some (.int .i64 (m')) := (hb6.cell (p := ⟨w.heap.size + 1, 1, none⟩) (by first | (simp; done) | (simp; omega) | omega)).trans (by go_simp)
  have c6_1_2 : w6.cell? ⟨w.heap.size + 1, 2, none⟩ = some (.int .i64 (d')) := (hb6.cell (p := ⟨w.heap.size + 1, 2, none⟩) (by first | (simp; done) | (simp; omega) | omega)).trans (by go_simp)
  have s6_2 : w1.heap.size < w6.heap.size := Nat.lt_of_lt_of_le (by first | (simp; done) | (simp; omega) | omega) hb6.size
  have c6_2_0 : w6.cell? ⟨w1.heap.size, 0, none⟩ = some (.int .i64 (a1)) := (hb6.cell (p := ⟨w1.heap.size, 0, none⟩) (by first | (simp; done) | (simp; omega) | omega)).trans (by go_simp)
  have c6_2_1 : w6.cell? ⟨w1.heap.size, 1, none⟩ = some (.int .i64 (a2)) := (hb6.cell (p := ⟨w1.heap.size, 1, none⟩) (by first | (simp; done) | (simp; omega) | omega)).trans (by go_simp)
  have c6_2_2 : w6.cell? ⟨w1.heap.size, 2, none⟩ = some (.int .i64 (a3)) := (hb6.cell (p := ⟨w1.heap.size, 2, none⟩) (by first | (simp; done) | (simp; omega) | omega)).trans (by go_simp)
  have s6_3 : w2.heap.size < w6.heap.size := Nat.lt_of_lt_of_le (by first | (simp; done) | (simp; omega) | omega) hb6.size
  have c6_3_0 : w6.cell? ⟨w2.heap.size, 0, none⟩ = some (.int .i64 (a1)) := (hb6.cell (p := ⟨w2.heap.size, 0, none⟩) (by first | (simp; done) | (simp; omega) | omega)).trans (by go_simp)
  have c6_3_1 : w6.cell? ⟨w2.heap.size, 1, none⟩ = some (.int .i64 (a2)) := (hb6.cell (p := ⟨w2.heap.size, 1, none⟩) (by first | (simp; done) | (simp; omega) | omega)).trans (by go_simp)
  have c6_3_2 : w6.cell? ⟨w2.heap.size, 2, none⟩ = some (.int .i64 (a3)) := (hb6.cell (p := ⟨w2.heap.size, 2, none⟩) (by first | (simp; done) | (simp; omega) | omega)).trans (by go_simp)
  have s6_4 : w3.heap.size < w6.heap.size := Nat.lt_of_lt_of_le (by first | (simp; done) | (simp; omega) | omega) hb6.size
  have c6_4_0 : w6.cell? ⟨w3.heap.size, 0, none⟩ = some (.int .i64 (y1)) := (hb6.cell (p := ⟨w3.heap.size, 0, none⟩) (by first | (simp; done) | (simp; omega) | omega)).trans (by go_simp)
  have c6_4_1 : w6.cell? ⟨w3.heap.size, 1, none⟩ = some (.int .i64 (y2)) := (hb6.cell (p := ⟨w3.heap.size, 1, none⟩) (by first | (simp; done) | (simp; omega) | omega)).trans (by go_simp)
  have c6_4_2 : w6.cell? ⟨w3.heap.size, 2, none⟩ = some (.int .i64 (y3)) := (hb6.cell (p := ⟨w3.heap.size, 2, none⟩) (by first | (simp; done) | (simp; omega) | omega)).trans (by go_simp)
  have s6_5 : w4.heap.size < w6.heap.size := Nat.lt_of_lt_of_le (by first | (simp; done) | (simp; omega) | omega) hb6.size
  have c6_5_0 : w6.cell? ⟨w4.heap.size, 0, none⟩ = some (.int .i64 (y1)) := (hb6.cell (p := ⟨w4.heap.size, 0, none⟩) (by first | (simp; done) | (simp; omega) | omega)).trans (by go_simp)
  have c6_5_1 : w6.cell? ⟨w4.heap.size, 1, none⟩ = some (.int .i64 (y2)) := (hb6.cell (p := ⟨w4.heap.size, 1, none⟩) (by first | (simp; done) | (simp; omega) | omega)).trans (by go_simp)
  have c6_5_2 : w6.cell? ⟨w4.heap.size, 2, none⟩ = some (.int .i64 (y3)) := (hb6.cell (p := ⟨w4.heap.size, 2, none⟩) (by first | (simp; done) | (simp; omega) | omega)).trans (by go_simp)
  have s6_6 : w5.heap.size < w6.heap.size := Nat.lt_of_lt_of_le (by first | (simp; done) | (simp; omega) | omega) hb6.size
  have c6_6_0 : w6.cell? ⟨w5.heap.size, 0, none⟩ = some (.int .i64 (d1)) := (hb6.cell (p := ⟨w5.heap.size, 0, none⟩) (by first | (simp; done) | (simp; omega) | omega)).trans (by go_simp)
  have c6_6_1 : w6.cell? ⟨w5.heap.size, 1, none⟩ = some (.int .i64 (d2)) := (hb6.cell (p := ⟨w5.heap.size, 1, none⟩) (by first | (simp; done) | (simp; omega) | omega)).trans (by go_simp)
  have c6_6_2 : w6.cell? ⟨w5.heap.size, 2, none⟩ = some (.int .i64 (d3)) := (hb6.cell (p := ⟨w5.heap.size, 2, none⟩) (by first | (simp; done) | (simp; omega) | omega)).trans (by go_simp)
  clear hb6 B5 c5_0_0 c5_0_1 c5_0_2 c5_1_0 c5_1_1 c5_1_2 c5_2_0 c5_2_1 c5_2_2 c5_3_0 c5_3_1 c5_3_2 c5_4_0 c5_4_1 c5_4_2 c5_5_0 c5_5_1 c5_5_2
  go_wp2_with fail
  refine (hpB _).mono ?_
  rintro e w7 ⟨rfl, hb7⟩
  have B7 : Below w.heap.size w w7 := by (focus (repeat' (first | assumption | exact Below.refl _ _ | refine Below.alloc ?_ ?_ _ | refine Below.setCell ?_ ?_ _ | refine Below.drew ?_ | refine below_drewN ?_ _ | refine Below.trans ?_ (Below.mono (by assumption) ?_) | refine Below.trans ?_ (Below.mono (BW.below _) ?_) | (simp; done) | (simp; omega) | omega)))
  have n7 : w.heap.size ≤ w7.heap.size := B7.size
  have s7_0 : w.heap.size < w7.heap.size := Nat.lt_of_lt_of_le (by first | (simp; done) | (simp; omega) | omega) hb7.size
  have c7_0_0 : w7.cell? ⟨w.heap.size, 0, none⟩ = some (.int .i64 (y)) := (hb7.cell (p := ⟨w.heap.size, 0, none⟩) (by first | (simp; done) | (simp; omega) | omega)).trans (by go_simp)
  have c7_0_1 : w7.cell? ⟨w.heap.size, 1, none⟩ = some (.int .i64 (m)) := (hb7.cell (p := ⟨w.heap.size, 1, none⟩) (by first | (simp; done) | (simp; omega) | omega)).trans (by go_simp)
  have c7_0_2 : w7.cell? ⟨w.heap.size, 2, none⟩ = some (.int .i64 (d)) := (hb7.cell (p := ⟨w.heap.size, 2, none⟩) (by first | (simp; done) | (simp; omega) | omega)).trans (by go_simp)
  have s7_1 : w.heap.size + 1 < w7.heap.size := Nat.lt_of_lt_of_le (by first | (simp; done) | (simp; omega) | omega) hb7.size
  have c7_1_0 : w7.cell? ⟨w.heap.size + 1, 0, none⟩ = some (.int .i64 (y')) := (hb7.cell (p := ⟨w.heap.size + 1, 0, none⟩) (by first | (simp; done) | (simp; omega) | omega)).trans (by go_simp)
  have c7_1_1 : w7.cell? ⟨w.heap.size + 1, 1, none⟩ = some (.int .i64 (m')) := (hb7.cell (p := ⟨w.heap.size + 1, 1, none⟩) (by first | (simp; done) | (simp; omega) | omega)).trans (by go_simp)
  have c7_1_2 : w7.cell? ⟨w.heap.size + 1, 2, none⟩ = some (.int .i64 (d')) := (hb7.cell (p := ⟨w.heap.size + 1, 2, none⟩) (by first | (simp; done) | (simp; omega) | omega)).trans (by go_simp)
  have s7_2 : w1.heap.size < w7.heap.size := Nat.lt_of_lt_of_le (by first | (simp; done) | (simp; omega) | omega) hb7.size
  have c7_2_0 : w7.cell? ⟨w1.heap.size, 0, none⟩ = some (.int .i64 (a1)) := (hb7.cell (p := ⟨w1.heap.size, 0, none⟩) (by first | (simp; done) | (simp; omega) | omega)).trans (by go_simp)
  have c7_2_1 : w7.cell? ⟨w1.heap.size, 1, none⟩ = some (.int .i64 (a2)) := (hb7.cell (p := ⟨w1.heap.size, 1, none⟩) (by first | (simp; done) | (simp; omega) | omega)).trans (by go_simp)
  have c7_2_2 : w7.cell? ⟨w1.heap.size, 2, none⟩ = some (.int .i64 (a3)) := (hb7.cell (p := ⟨w1.heap.size, 2, none⟩) (by first | (simp; done) | (simp; omega) | omega)).trans (by go_simp)
  have s7_3 : w2.heap.size < w7.heap.size := Nat.lt_of_lt_of_le (by first | (simp; done) | (simp; omega) | omega) hb7.size
  have c7_3_0 : w7.cell? ⟨w2.heap.size, 0, none⟩ = some (.int .i64 (a1)) := (hb7.cell (p := ⟨w2.heap.size, 0, none⟩) (by first | (simp; done) | (simp; omega) | omega)).trans (by go_simp)
  have c7_3_1 : w7.cell? ⟨w2.heap.size, 1, none⟩ = some (.int .i64 (a2)) := (hb7.cell (p := ⟨w2.heap.size, 1, none⟩) (by first | (simp; done) | (simp; omega) | omega)).trans (by go_simp)
  have c7_3_2 : w7.cell? ⟨w2.heap.size, 2, none⟩ = some (.int .i64 (a3)) := (hb7.cell (p := ⟨w2.heap.size, 2, none⟩) (by first | (simp; done) | (simp; omega) | omega)).trans (by go_simp)
  have s7_4 : w3.heap.size < w7.heap.size := Nat.lt_of_lt_of_le (by first | (simp; done) | (simp; omega) | omega) hb7.size
  have c7_4_0 : w7.cell? ⟨w3.heap.size, 0, none⟩ = some (.int .i64 (y1)) := (hb7.cell (p := ⟨w3.heap.size, 0, none⟩) (by first | (simp; done) | (simp; omega) | omega)).trans (by go_simp)
  have c7_4_1 : w7.cell? ⟨w3.heap.size, 1, none⟩ = some (.int .i64 (y2)) := (hb7.cell (p := ⟨w3.heap.size, 1, none⟩) (by first | (simp; done) | (simp; omega) | omega)).trans (by go_simp)
  have c7_4_2 : w7.cell? ⟨w3.heap.size, 2, none⟩ = some (.int .i64 (y3)) := (hb7.cell (p := ⟨w3.heap.size, 2, none⟩) (by first | (simp; done) | (simp; omega) | omega)).trans (by go_simp)
  have s7_5 : w4.heap.size < w7.heap.size := Nat.lt_of_lt_of_le (by first | (simp; done) | (simp; omega) | omega) hb7.size
  have c7_5_0 : w7.cell? ⟨w4.heap.size, 0, none⟩ = some (.int .i64 (y1)) := (hb7.cell (p := ⟨w4.heap.size, 0, none⟩) (by first | (simp; done) | (simp; omega) | omega)).trans (by go_simp)
  have c7_5_1 : w7.cell? ⟨w4.heap.size, 1, none⟩ = some (.int .i64 (y2)) := (hb7.cell (p := ⟨w4.heap.size, 1, none⟩) (by first | (simp; done) | (simp; omega) | omega)).trans (by go_simp)
  have c7_5_2 : w7.cell? ⟨w4.heap.size, 2, none⟩ = some (.int .i64 (y3)) := (hb7.cell (p := ⟨w4.heap.size, 2, none⟩) (by first | (simp; done) | (simp; omega) | omega)).trans (by go_simp)
  have s7_6 : w5.heap.size < w7.heap.size := Nat.lt_of_lt_of_le (by first | (simp; done) | (simp; omega) | omega) hb7.size
  have c7_6_0 : w7.cell? ⟨w5.heap.size, 0, none⟩ = some (.int .i64 (d1)) := (hb7.cell (p := ⟨w5.heap.size, 0, none⟩) (by first | (simp; done) | (simp; omega) | omega)).trans (by go_simp)
  have c7_6_1 : w7.cell? ⟨w5.heap.size, 1, none⟩ = some (.int .i64 (d2)) := (hb7.cell (p := ⟨w5.heap.size, 1, none⟩) (by first | (simp; done) | (simp; omega) | omega)).trans (by go_simp)
  have c7_6_2 : w7.cell? ⟨w5.heap.size, 2, none⟩ = some (.int .i64 (d3)) := (hb7.cell (p := ⟨w5.heap.size, 2, none⟩) (by first | (simp; done) | (simp; omega) | omega)).trans (by go_simp)
  have s7_7 : w6.heap.size < w7.heap.size := Nat.lt_of_lt_of_le (by first | (simp; done) | (simp; omega) | omega) hb7.size
  have c7_7_0 : w7.cell? ⟨w6.heap.size, 0, none⟩ = some (.int .i64 (d1)) := (hb7.cell (p := ⟨w6.heap.size, 0, none⟩) (by first | (simp; done) | (simp; omega) | omega)).trans (by go_simp)
  have c7_7_1 : w7.cell? ⟨w6.heap.size, 1, none⟩ = some (.int .i64 (d2)) := (hb7.cell (p := ⟨w6.heap.size, 1, none⟩) (by first | (simp; done) | (simp; omega) | omega)).trans (by go_simp)
  have c7_7_2 : w7.cell? ⟨w6.heap.size, 2, none⟩ = some (.int .i64 (d3)) := (hb7.cell (p := ⟨w6.heap.size, 2, none⟩) (by first | (simp; done) | (simp; omega) | omega)).trans (by go_simp)
  clear hb7 B6 c6_0_0 c6_0_1 c6_0_2 c6_1_0 c6_1_1 c6_1_2 c6_2_0 c6_2_1 c6_2_2 c6_3_0 c6_3_1 c6_3_2 c6_4_0 c6_4_1 c6_4_2 c6_5_0 c6_5_1 c6_5_2 c6_6_0 c6_6_1 c6_6_2
  go_wp2_with fail
  refine (hrB _).mono ?_
  rintro e w8 ⟨rfl, hb8⟩
  have B8 : Below w.heap.size w w8 := by (focus (repeat' (first | assumption | exact Below.refl _ _ | refine Below.alloc ?_ ?_ _ | refine Below.setCell ?_ ?_ _ | refine Below.drew ?_ | refine below_drewN ?_ _ | refine Below.trans ?_ (Below.mono (by assumption) ?_) | refine Below.trans ?_ (Below.mono (BW.below _) ?_) | (simp; done) | (simp; omega) | omega)))
  have n8 : w.heap.size ≤ w8.heap.size := B8.size
  have s8_0 : w1.heap.size < w8.heap.size := Nat.lt_of_lt_of_le (by first | (simp; done) | (simp; omega) | omega) hb8.size
  have c8_0_0 : w8.cell? ⟨w1.heap.size, 0, none⟩ = some (.int .i64 (a1)) := (hb8.cell (p := ⟨w1.heap.size, 0, none⟩) (by first | (simp; done) | (simp; omega) | omega)).trans (by go_simp)
  have c8_0_1 : w8.cell? ⟨w1.heap.size, 1, none⟩ = some (.int .i64 (a2)) := (hb8.cell (p := ⟨w1.heap.size, 1, none⟩) (by first | (simp; done) | (simp; omega) | omega)).trans (by go_simp)
  have c8_0_2 : w8.cell? ⟨w1.heap.size, 2, none⟩ = some (.int .i64 (a3)) := (hb8.cell (p := ⟨w1.heap.size, 2, none⟩) (by first | (simp; done) | (simp; omega) | omega)).trans (by go_simp)
  have s8_1 : w2.heap.size < w8.heap.size := Nat.lt_of_lt_of_le (by first | (simp; done) | (simp; omega) | omega) hb8.size
  have c8_1_0 : w8.cell? ⟨w2.heap.size, 0, none⟩ = some (.int .i64 (a1)) := (hb8.cell (p := ⟨w2.heap.size, 0, none⟩) (by first | (simp; done) | (simp; omega) | omega)).trans (by go_simp)
  have c8_1_1 : w8.cell? ⟨w2.heap.size, 1, none⟩ = some (.int .i64 (a2)) := (hb8.cell (p := ⟨w2.heap.size, 1, none⟩) (by first | (simp; done) | (simp; omega) | omega)).trans (by go_simp)
  have c8_1_2 : w8.cell? ⟨w2.heap.size, 2, none⟩ = some (.int .i64 (a3)) := (hb8.cell (p := ⟨w2.heap.size, 2, none⟩) (by first | (simp; done) | (simp; omega) | omega)).trans (by go_simp)
  have s8_2 : w3.heap.size < w8.heap.size := Nat.lt_of_lt_of_le (by first | (simp; done) | (simp; omega) | omega) hb8.size
  have c8_2_0 : w8.cell? ⟨w3.heap.size, 0, none⟩ = some (.int .i64 (y1)) := (hb8.cell (p := ⟨w3.heap.size, 0, none⟩) (by first | (simp; done) | (simp; omega) | omega)).trans (by go_simp)
  have c8_2_1 : w8.cell? ⟨w3.heap.size, 1, none⟩ = some (.int .i64 (y2)) := (hb8.cell (p := ⟨w3.heap.size, 1, none⟩) (by first | (simp; done) | (simp; omega) | omega)).trans (by go_simp)
  have c8_2_2 : w8.cell? ⟨w3.heap.size, 2, none⟩ = some (.int .i64 (y3)) := (hb8.cell (p := ⟨w3.heap.size, 2, none⟩) (by first | (simp; done) | (simp; omega) | omega)).trans (by go_simp)
  have s8_3 : w4.heap.size < w8.heap.size := Nat.lt_of_lt_of_le (by first | (simp; done) | (simp; omega) | omega) hb8.size
  have c8_3_0 : w8.cell? ⟨w4.heap.size, 0, none⟩ = some (.int .i64 (y1)) := (hb8.cell (p := ⟨w4.heap.size, 0, none⟩) (by first | (simp; done) | (simp; omega) | omega)).trans (by go_simp)
  have c8_3_1 : w8.cell? ⟨w4.heap.size, 1, none⟩ = some (.int .i64 (y2)) := (hb8.cell (p := ⟨w4.heap.size, 1, none⟩) (by first | (simp; done) | (simp; omega) | omega)).trans (by go_simp)
  have c8_3_2 : w8.cell? ⟨w4.heap.size, 2, none⟩ = some (.int .i64 (y3)) := (hb8.cell (p := ⟨w4.heap.size, 2, none⟩) (by first | (simp; done) | (simp; omega) | omega)).trans (by go_simp)
  have s8_4 : w5.heap.size < w8.heap.size := Nat.lt_of_lt_of_le (by first | (simp; done) | (simp; omega) | omega) hb8.size
  have c8_4_0 : w8.cell? ⟨w5.heap.size, 0, none⟩ = some (.int .i64 (d1)) := (hb8.cell (p := ⟨w5.heap.size, 0, none⟩) (by first | (simp; done) | (simp; omega) | omega)).trans (by go_simp)
  have c8_4_1 : w8.cell? ⟨w5.heap.size, 1, none⟩ = some (.int .i64 (d2)) := (hb8.cell (p := ⟨w5.heap.size, 1, none⟩) (by first | (simp; done) | (simp; omega) | omega)).trans (by go_simp)
  have c8_4_2 : w8.cell? ⟨w5.heap.size, 2, none⟩ = some (.int .i64 (d3)) := (hb8.cell (p := ⟨w5.heap.size, 2, none⟩) (by first | (simp; done) | (simp; omega) | omega)).trans (by go_simp)
  have s8_5 : w6.heap.size < w8.heap.size := Nat.lt_of_lt_of_le (by first | (simp; done) | (simp; omega) | omega) hb8.size
  have c8_5_0 : w8.cell? ⟨w6.heap.size, 0, none⟩ = some (.int .i64 (d1)) := (hb8.cell (p := ⟨w6.heap.size, 0, none⟩) (by first | (simp; done) | (simp; omega) | omega)).trans (by go_simp)
  have c8_5_1 : w8.cell? ⟨w6.heap.size, 1, none⟩ = some (.int .i64 (d2)) := (hb8.cell (p := ⟨w6.heap.size, 1, none⟩) (by first | (simp; done) | (simp; omega) | omega)).trans (by go_simp)
  have c8_5_2 : w8.cell? ⟨w6.heap.size, 2, none⟩ = some (.int .i64 (d3)) := (hb8.cell (p := ⟨w6.heap.size, 2, none⟩) (by first | (simp; done) | (simp; omega) | omega)).trans (by go_simp)
  clear hb8 B7 c7_0_0 c7_0_1 c7_0_2 c7_1_0 c7_1_1 c7_1_2 c7_2_0 c7_2_1 c7_2_2 c7_3_0 c7_3_1 c7_3_2 c7_4_0 c7_4_1 c7_4_2 c7_5_0 c7_5_1 c7_5_2 c7_6_0 c7_6_1 c7_6_2 c7_7_0 c7_7_1 c7_7_2
  go_wp2_with fail
  refine (mon_lives _).mono ?_
  rintro e w9 ⟨rfl, hb9⟩
  have B9 : Below w.heap.size w w9 := by (focus (repeat' (first | assumption | exact Below.refl _ _ | refine Below.alloc ?_ ?_ _ | refine Below.setCell ?_ ?_ _ | refine Below.drew ?_ | refine below_drewN ?_ _ | refine Below.trans ?_ (Below.mono (by assumption) ?_) | refine Below.trans ?_ (Below.mono (BW.below _) ?_) | (simp; done) | (simp; omega) | omega)))
  have n9 : w.heap.size ≤ w9.heap.size := B9.size
  clear hb9 B8 c8_0_0 c8_0_1 c8_0_2 c8_1_0 c8_1_1 c8_1_2 c8_2_0 c8_2_1 c8_2_2 c8_3_0 c8_3_1 c8_3_2 c8_4_0 c8_4_1 c8_4_2 c8_5_0 c8_5_1 c8_5_2
  go_wp2_with fail
  go_ret
  exact ⟨rfl, by (focus (repeat' (first | assumption | exact Below.refl _ _ | refine Below.alloc ?_ ?_ _ | refine Below.setCell ?_ ?_ _ | refine Below.drew ?_ | refine below_drewN ?_ _ | refine Below.trans ?_ (Below.mono (by assumption) ?_) | refine Below.trans ?_ (Below.mono (BW.below _) ?_) | (simp; done) | (simp; omega) | omega)))⟩
theorem MonthlyTells_walk (y m d y' m' d' n : Int) (ky : I64 y) (km : I64 m) (ky' : I64 y') (kn : I64 n) (w : World) : Calls Try.prog 4 #[dat y m d, dat y' m' d', .int .i64 n] w fun e w' => e = .returned (.bool true) ∧ Below w.heap.size w w' :=
  MonthlyTells_leaf y m d y' m' d' n _ _ _ _ _ _ _ _ _ _ _ _ _ _ (fun w => monthly_Add y m d n ky km kn w) (fun w => ref06_Add y m d n ky w) (fun w => monthly_Years y m d n ky km kn w) (fun w => ref06_Years y m d n ky w) (fun w => monthly_Days y m d n ky kn w) (fun w => ref06_Days y m d n ky kn w)
    (fun w => monthly_Between y m d y' m' d' ky ky' w) (fun w => ref06_Between y m d y' m' d' ky ky' w) w
set_option maxRecDepth 100000 in
set_option maxHeartbeats 4000000 in
theorem MonthlyBetween_n (y m d y' m' d' : Int) (hB : ∀ w : World, Calls Try.prog 26 #[dat y m d, dat y' m' d'] w fun e w' => e = .returned (.tuple #[.int .i64 0, .int .i64 1]) ∧ Below w.heap.size w w') (w : World) : Calls Try.prog 11 #[dat y m d, dat y' m' d'] w fun e w' => e = .returned (.bool true) ∧ Below w.heap.size w w' := by
  go_enter Try.func11, Try.ntmps11
  go_wp2_with fail
  refine (mon_lives _).mono ?_
  rintro e w1 ⟨rfl, hb1⟩
  have B1 : Below w.heap.size w w1 := by (focus (repeat' (first | assumption | exact Below.refl _ _ | refine Below.alloc ?_ ?_ _ | refine Below.setCell ?_ ?_ _ | refine Below.drew ?_ | refine below_drewN ?_ _ | refine Below.trans ?_ (Below.mono (by assumption) ?_) | refine Below.trans ?_ (Below.mono (BW.below _) ?_) | (simp; done) | (simp; omega) | omega)))
  have n1 : w.heap.size ≤ w1.heap.size := B1.size
  have s1_0 : w.heap.size < w1.heap.size := Nat.lt_of_lt_of_le (by first | (simp; done) | (simp; omega) | omega) hb1.size
  have c1_0_0 : w1.cell? ⟨w.heap.size, 0, none⟩ = some (.int .i64 (y)) := (hb1.cell (p := ⟨w.heap.size, 0, none⟩) (by first | (simp; done) | (simp; omega) | omega)).trans (by go_simp)
  have c1_0_1 : w1.cell? ⟨w.heap.size, 1, none⟩ = some (.int .i64 (m)) := (hb1.cell (p := ⟨w.heap.size, 1, none⟩) (by first | (simp; done) | (simp; omega) | omega)).trans (by go_simp)
  have c1_0_2 : w1.cell? ⟨w.heap.size, 2, none⟩ = some (.int .i64 (d)) := (hb1.cell (p := ⟨w.heap.size, 2, none⟩) (by first | (simp; done) | (simp; omega) | omega)).trans (by go_simp)
  have s1_1 : w.heap.size + 1 < w1.heap.size := Nat.lt_of_lt_of_le (by first | (simp; done) | (simp; omega) | omega) hb1.size
  have c1_1_0 : w1.cell? ⟨w.heap.size + 1, 0, none⟩ = some (.int .i64 (y')) := (hb1.cell (p := ⟨w.heap.size + 1, 0, none⟩) (by first | (simp; done) | (simp; omega) | omega)).trans (by go_simp)
  have c1_1_1 : w1.cell? ⟨w.heap.size + 1, 1, none⟩ = some (.int .i64 (m')) := (hb1.cell (p := ⟨w.heap.size + 1, 1, none⟩) (by first | (simp; done) | (simp; omega) | omega)).trans (by go_simp)
  have c1_1_2 : w1.cell? ⟨w.heap.size + 1, 2, none⟩ = some (.int .i64 (d')) := (hb1.cell (p := ⟨w.heap.size + 1, 2, none⟩) (by first | (simp; done) | (simp; omega) | omega)).trans (by go_simp)
  clear hb1
  go_wp2_with fail
  refine (hB _).mono ?_
  rintro e w2 ⟨rfl, hb2⟩
  have B2 : Below w.heap.size w w2 := by (focus (repeat' (first | assumption | exact Below.refl _ _ | refine Below.alloc ?_ ?_ _ | refine Below.setCell ?_ ?_ _ | refine Below.drew ?_ | refine below_drewN ?_ _ | refine Below.trans ?_ (Below.mono (by assumption) ?_) | refine Below.trans ?_ (Below.mono (BW.below _) ?_) | (simp; done) | (simp; omega) | omega)))
  have n2 : w.heap.size ≤ w2.heap.size := B2.size
  clear hb2 B1 c1_0_0 c1_0_1 c1_0_2 c1_1_0 c1_1_1 c1_1_2
  go_wp2_with fail
  go_ret
  exact ⟨rfl, by (focus (repeat' (first | assumption | exact Below.refl _ _ | refine Below.alloc ?_ ?_ _ | refine Below.setCell ?_ ?_ _ | refine Below.drew ?_ | refine below_drewN ?_ _ | refine Below.trans ?_ (Below.mono (by assumption) ?_) | refine Below.trans ?_ (Below.mono (BW.below _) ?_) | (simp; done) | (simp; omega) | omega)))⟩
set_option maxRecDepth 100000 in
set_option maxHeartbeats 4000000 in
theorem MonthlyBetween_y (y m d y' m' d' N x1 x2 x3 z1 z2 z3 p q : Int) (N0 : -2000000 ≤ N) (N1 : N ≤ 2000000) (hp : p ≤ 0) (hq : 0 < q) (hB : ∀ w : World, Calls Try.prog 26 #[dat y m d, dat y' m' d'] w fun e w' => e = .returned (.tuple #[.int .i64 N, .int .i64 0]) ∧ Below w.heap.size w w') (hX : ∀ w : World, Calls Try.prog 20 #[dat y m d, .int .i64 N] w fun e w' => e = .returned (.tuple #[dat x1 x2 x3, .int .i64 0]) ∧ Below w.heap.size w w') (hZ : ∀ w : World, Calls Try.prog 20 #[dat y m d, .int .i64 (N + 1)] w fun e w' => e = .returned (.tuple #[dat z1 z2 z3, .int .i64 0]) ∧ Below w.heap.size w w') (hP : ∀ w : World, Calls Try.prog 47 #[dat x1 x2 x3, dat y' m' d'] w fun e w' => e = .returned (.int .i64 p) ∧ Below w.heap.size w w') (hQ : ∀ w : World, Calls Try.prog 47 #[dat z1 z2 z3, dat y' m' d'] w fun e w' => e = .returned (.int .i64 q) ∧ Below w.heap.size w w') (w : World) : Calls Try.prog 11 #[dat y m d, dat y' m' d'] w fun e w' => e = .returned (.bool true) ∧ Below w.heap.size w w' := by
  go_enter Try.func11, Try.ntmps11
  go_wp2_with fail
  refine (mon_lives _).mono ?_
  rintro e w1 ⟨rfl, hb1⟩
  have B1 : Below w.heap.size w w1 := by (focus (repeat' (first | assumption | exact Below.refl _ _ | refine Below.alloc ?_ ?_ _ | refine Below.setCell ?_ ?_ _ | refine Below.drew ?_ | refine below_drewN ?_ _ | refine Below.trans ?_ (Below.mono (by assumption) ?_) | refine Below.trans ?_ (Below.mono (BW.below _) ?_) | (simp; done) | (simp; omega) | omega)))
  have n1 : w.heap.size ≤ w1.heap.size := B1.size
  have s1_0 : w.heap.size < w1.heap.size := Nat.lt_of_lt_of_le (by first | (simp; done) | (simp; omega) | omega) hb1.size
  have c1_0_0 : w1.cell? ⟨w.heap.size, 0, none⟩ = some (.int .i64 (y)) := (hb1.cell (p := ⟨w.heap.size, 0, none⟩) (by first | (simp; done) | (simp; omega) | omega)).trans (by go_simp)
  have c1_0_1 : w1.cell? ⟨w.heap.size, 1, none⟩ = some (.int .i64 (m)) := (hb1.cell (p := ⟨w.heap.size, 1, none⟩) (by first | (simp; done) | (simp; omega) | omega)).trans (by go_simp)
  have c1_0_2 : w1.cell? ⟨w.heap.size, 2, none⟩ = some (.int .i64 (d)) := (hb1.cell (p := ⟨w.heap.size, 2, none⟩) (by first | (simp; done) | (simp; omega) | omega)).trans (by go_simp)
  have s1_1 : w.heap.size + 1 < w1.heap.size := Nat.lt_of_lt_of_le (by first | (simp; done) | (simp; omega) | omega) hb1.size
  have c1_1_0 : w1.cell? ⟨w.heap.size + 1, 0, none⟩ = some (.int .i64 (y')) := (hb1.cell (p := ⟨w.heap.size + 1, 0, none⟩) (by first | (simp; done) | (simp; omega) | omega)).trans (by go_simp)
  have c1_1_1 : w1.cell? ⟨w.heap.size + 1, 1, none⟩ = some (.int .i64 (m')) := (hb1.cell (p := ⟨w.heap.size + 1, 1, none⟩) (by first | (simp; done) | (simp; omega) | omega)).trans (by go_simp)
  have c1_1_2 : w1.cell? ⟨w.heap.size + 1, 2, none⟩ = some (.int .i64 (d')) := (hb1.cell (p := ⟨w.heap.size + 1, 2, none⟩) (by first | (simp; done) | (simp; omega) | omega)).trans (by go_simp)
  clear hb1
  go_wp2_with fail
  refine (hB _).mono ?_
  rintro e w2 ⟨rfl, hb2⟩
  have B2 : Below w.heap.size w w2 := by (focus (repeat' (first | assumption | exact Below.refl _ _ | refine Below.alloc ?_ ?_ _ | refine Below.setCell ?_ ?_ _ | refine Below.drew ?_ | refine below_drewN ?_ _ | refine Below.trans ?_ (Below.mono (by assumption) ?_) | refine Below.trans ?_ (Below.mono (BW.below _) ?_) | (simp; done) | (simp; omega) | omega)))
  have n2 : w.heap.size ≤ w2.heap.size := B2.size
  have s2_0 : w.heap.size < w2.heap.size := Nat.lt_of_lt_of_le (by first | (simp; done) | (simp; omega) | omega) hb2.size
  have c2_0_0 : w2.cell? ⟨w.heap.size, 0, none⟩ = some (.int .i64 (y)) := (hb2.cell (p := ⟨w.heap.size, 0, none⟩) (by first | (simp; done) | (simp; omega) | omega)).trans (by go_simp)
  have c2_0_1 : w2.cell? ⟨w.heap.size, 1, none⟩ = some (.int .i64 (m)) := (hb2.cell (p := ⟨w.heap.size, 1, none⟩) (by first | (simp; done) | (simp; omega) | omega)).trans (by go_simp)
  have c2_0_2 : w2.cell? ⟨w.heap.size, 2, none⟩ = some (.int .i64 (d)) := (hb2.cell (p := ⟨w.heap.size, 2, none⟩) (by first | (simp; done) | (simp; omega) | omega)).trans (by go_simp)
  have s2_1 : w.heap.size + 1 < w2.heap.size := Nat.lt_of_lt_of_le (by first | (simp; done) | (simp; omega) | omega) hb2.size
  have c2_1_0 : w2.cell? ⟨w.heap.size + 1, 0, none⟩ = some (.int .i64 (y')) := (hb2.cell (p := ⟨w.heap.size + 1, 0, none⟩) (by first | (simp; done) | (simp; omega) | omega)).trans (by go_simp)
  have c2_1_1 : w2.cell? ⟨w.heap.size + 1, 1, none⟩ = some (.int .i64 (m')) := (hb2.cell (p := ⟨w.heap.size + 1, 1, none⟩) (by first | (simp; done) | (simp; omega) | omega)).trans (by go_simp)
  have c2_1_2 : w2.cell? ⟨w.heap.size + 1, 2, none⟩ = some (.int .i64 (d')) := (hb2.cell (p := ⟨w.heap.size + 1, 2, none⟩) (by first | (simp; done) | (simp; omega) | omega)).trans (by go_simp)
  clear hb2 B1 c1_0_0 c1_0_1 c1_0_2 c1_1_0 c1_1_1 c1_1_2
  go_wp2_with fail
  refine (hX _).mono ?_
  rintro e w3 ⟨rfl, hb3⟩
  have B3 : Below w.heap.size w w3 := by (focus (repeat' (first | assumption | exact Below.refl _ _ | refine Below.alloc ?_ ?_ _ | refine Below.setCell ?_ ?_ _ | refine Below.drew ?_ | refine below_drewN ?_ _ | refine Below.trans ?_ (Below.mono (by assumption) ?_) | refine Below.trans ?_ (Below.mono (BW.below _) ?_) | (simp; done) | (simp; omega) | omega)))
  have n3 : w.heap.size ≤ w3.heap.size := B3.size
  have s3_0 : w.heap.size < w3.heap.size := Nat.lt_of_lt_of_le (by first | (simp; done) | (simp; omega) | omega) hb3.size
  have c3_0_0 : w3.cell? ⟨w.heap.size, 0, none⟩ = some (.int .i64 (y)) := (hb3.cell (p := ⟨w.heap.size, 0, none⟩) (by first | (simp; done) | (simp; omega) | omega)).trans (by go_simp)
  have c3_0_1 : w3.cell? ⟨w.heap.size, 1, none⟩ = some (.int .i64 (m)) := (hb3.cell (p := ⟨w.heap.size, 1, none⟩) (by first | (simp; done) | (simp; omega) | omega)).trans (by go_simp)
  have c3_0_2 : w3.cell? ⟨w.heap.size, 2, none⟩ = some (.int .i64 (d)) := (hb3.cell (p := ⟨w.heap.size, 2, none⟩) (by first | (simp; done) | (simp; omega) | omega)).trans (by go_simp)
  have s3_1 : w.heap.size + 1 < w3.heap.size := Nat.lt_of_lt_of_le (by first | (simp; done) | (simp; omega) | omega) hb3.size
  have c3_1_0 : w3.cell? ⟨w.heap.size + 1, 0, none⟩ = some (.int .i64 (y')) := (hb3.cell (p := ⟨w.heap.size + 1, 0, none⟩) (by first | (simp; done) | (simp; omega) | omega)).trans (by go_simp)
  have c3_1_1 : w3.cell? ⟨w.heap.size + 1, 1, none⟩ = some (.int .i64 (m')) := (hb3.cell (p := ⟨w.heap.size + 1, 1, none⟩) (by first | (simp; done) | (simp; omega) | omega)).trans (by go_simp)
  have c3_1_2 : w3.cell? ⟨w.heap.size + 1, 2, none⟩ = some (.int .i64 (d')) := (hb3.cell (p := ⟨w.heap.size + 1, 2, none⟩) (by first | (simp; done) | (simp; omega) | omega)).trans (by go_simp)
  clear hb3 B2 c2_0_0 c2_0_1 c2_0_2 c2_1_0 c2_1_1 c2_1_2
  go_wp2_with fail
  refine (hZ _).mono ?_
  rintro e w4 ⟨rfl, hb4⟩
  have B4 : Below w.heap.size w w4 := by (focus (repeat' (first | assumption | exact Below.refl _ _ | refine Below.alloc ?_ ?_ _ | refine Below.setCell ?_ ?_ _ | refine Below.drew ?_ | refine below_drewN ?_ _ | refine Below.trans ?_ (Below.mono (by assumption) ?_) | refine Below.trans ?_ (Below.mono (BW.below _) ?_) | (simp; done) | (simp; omega) | omega)))
  have n4 : w.heap.size ≤ w4.heap.size := B4.size
  have s4_0 : w.heap.size + 1 < w4.heap.size := Nat.lt_of_lt_of_le (by first | (simp; done) | (simp; omega) | omega) hb4.size
  have c4_0_0 : w4.cell? ⟨w.heap.size + 1, 0, none⟩ = some (.int .i64 (y')) := (hb4.cell (p := ⟨w.heap.size + 1, 0, none⟩) (by first | (simp; done) | (simp; omega) | omega)).trans (by go_simp)
  have c4_0_1 : w4.cell? ⟨w.heap.size + 1, 1, none⟩ = some (.int .i64 (m')) := (hb4.cell (p := ⟨w.heap.size + 1, 1, none⟩) (by first | (simp; done) | (simp; omega) | omega)).trans (by go_simp)
  have c4_0_2 : w4.cell? ⟨w.heap.size + 1, 2, none⟩ = some (.int .i64 (d')) := (hb4.cell (p := ⟨w.heap.size + 1, 2, none⟩) (by first | (simp; done) | (simp; omega) | omega)).trans (by go_simp)
  have s4_1 : w3.heap.size < w4.heap.size := Nat.lt_of_lt_of_le (by first | (simp; done) | (simp; omega) | omega) hb4.size
  have c4_1_0 : w4.cell? ⟨w3.heap.size, 0, none⟩ = some (.int .i64 (x1)) := (hb4.cell (p := ⟨w3.heap.size, 0, none⟩) (by first | (simp; done) | (simp; omega) | omega)).trans (by go_simp)
  have c4_1_1 : w4.cell? ⟨w3.heap.size, 1, none⟩ = some (.int .i64 (x2)) := (hb4.cell (p := ⟨w3.heap.size, 1, none⟩) (by first | (simp; done) | (simp; omega) | omega)).trans (by go_simp)
  have c4_1_2 : w4.cell? ⟨w3.heap.size, 2, none⟩ = some (.int .i64 (x3)) := (hb4.cell (p := ⟨w3.heap.size, 2, none⟩) (by first | (simp; done) | (simp; omega) | omega)).trans (by go_simp)
  clear hb4 B3 c3_0_0 c3_0_1 c3_0_2 c3_1_0 c3_1_1 c3_1_2
  go_wp2_with fail
  refine (hP _).mono ?_
  rintro e w5 ⟨rfl, hb5⟩
  have B5 : Below w.heap.size w w5 := by (focus (repeat' (first | assumption | exact Below.refl _ _ | refine Below.alloc ?_ ?_ _ | refine Below.setCell ?_ ?_ _ | refine Below.drew ?_ | refine below_drewN ?_ _ | refine Below.trans ?_ (Below.mono (by assumption) ?_) | refine Below.trans ?_ (Below.mono (BW.below _) ?_) | (simp; done) | (simp; omega) | omega)))
  have n5 : w.heap.size ≤ w5.heap.size := B5.size
  have s5_0 : w.heap.size + 1 < w5.heap.size := Nat.lt_of_lt_of_le (by first | (simp; done) | (simp; omega) | omega) hb5.size
  have c5_0_0 : w5.cell? ⟨w.heap.size + 1, 0, none⟩ = some (.int .i64 (y')) := (hb5.cell (p := ⟨w.heap.size + 1, 0, none⟩) (by first | (simp; done) | (simp; omega) | omega)).trans (by go_simp)
  have c5_0_1 : w5.cell? ⟨w.heap.size + 1, 1, none⟩ = some (.int .i64 (m')) := (hb5.cell (p := ⟨w.heap.size + 1, 1, none⟩) (by first | (simp; done) | (simp; omega) | omega)).trans (by go_simp)
  have c5_0_2 : w5.cell? ⟨w.heap.size + 1, 2, none⟩ = some (.int .i64 (d')) := (hb5.cell (p := ⟨w.heap.size + 1, 2, none⟩) (by first | (simp; done) | (simp; omega) | omega)).trans (by go_simp)
  have s5_1 : w4.heap.size < w5.heap.size := Nat.lt_of_lt_of_le (by first | (simp; done) | (simp; omega) | omega) hb5.size
  have c5_1_0 : w5.cell? ⟨w4.heap.size, 0, none⟩ = some (.int .i64 (z1)) := (hb5.cell (p := ⟨w4.heap.size, 0, none⟩) (by first | (simp; done) | (simp; omega) | omega)).trans (by go_simp)
  have c5_1_1 : w5.cell? ⟨w4.heap.size, 1, none⟩ = some (.int .i64 (z2)) := (hb5.cell (p := ⟨w4.heap.size, 1, none⟩) (by first | (simp; done) | (simp; omega) | omega)).trans (by go_simp)
  have c5_1_2 : w5.cell? ⟨w4.heap.size, 2, none⟩ = some (.int .i64 (z3)) := (hb5.cell (p := ⟨w4.heap.size, 2, none⟩) (by first | (simp; done) | (simp; omega) | omega)).trans (by go_simp)
  clear hb5 B4 c4_0_0 c4_0_1 c4_0_2 c4_1_0 c4_1_1 c4_1_2
  go_wp2_with fail
  refine (hQ _).mono ?_
  rintro e w6 ⟨rfl, hb6⟩
  have B6 : Below w.heap.size w w6 := by (focus (repeat' (first | assumption | exact Below.refl _ _ | refine Below.alloc ?_ ?_ _ | refine Below.setCell ?_ ?_ _ | refine Below.drew ?_ | refine below_drewN ?_ _ | refine Below.trans ?_ (Below.mono (by assumption) ?_) | refine Below.trans ?_ (Below.mono (BW.below _) ?_) | (simp; done) | (simp; omega) | omega)))
  have n6 : w.heap.size ≤ w6.heap.size := B6.size
  clear hb6 B5 c5_0_0 c5_0_1 c5_0_2 c5_1_0 c5_1_1 c5_1_2
  go_wp2_with fail
  go_ret
  exact ⟨rfl, by (focus (repeat' (first | assumption | exact Below.refl _ _ | refine Below.alloc ?_ ?_ _ | refine Below.setCell ?_ ?_ _ | refine Below.drew ?_ | refine below_drewN ?_ _ | refine Below.trans ?_ (Below.mono (by assumption) ?_) | refine Below.trans ?_ (Below.mono (BW.below _) ?_) | (simp; done) | (simp; omega) | omega)))⟩
theorem MonthlyBetween_walk (y m d y' m' d' : Int) (ky : I64 y) (km : I64 m) (ky' : I64 y') (w : World) : Calls Try.prog 11 #[dat y m d, dat y' m' d'] w fun e w' => e = .returned (.bool true) ∧ Below w.heap.size w w' := by
  have hB := fun w => monthly_Between y m d y' m' d' ky ky' w
  cases h : btB y m d y' m' d'
  · rw [(bt_n h).1, (bt_n h).2] at hB
    exact MonthlyBetween_n y m d y' m' d' hB w
  · obtain ⟨e1, e2, n0, n1, a1, a2, c1, c2⟩ := between_law h
    rw [e1, e2] at hB
    have hX := fun w => monthly_Add y m d (btN y m d y' m' d') ky km (I64.sm (by omega)) w
    have hZ := fun w => monthly_Add y m d (btN y m d y' m' d' + 1) ky km (I64.sm (by omega)) w
    rw [a1] at hX
    rw [a2] at hZ
    exact MonthlyBetween_y y m d y' m' d' _ _ _ _ _ _ _ _ _ n0 n1 c1 c2 hB hX hZ (fun w => civil_Compare _ _ _ _ _ _ w) (fun w => civil_Compare _ _ _ _ _ _ w) w
end Go.Proofs.Ytblmlglkjmilkab
