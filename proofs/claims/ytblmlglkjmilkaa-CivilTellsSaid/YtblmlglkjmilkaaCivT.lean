/-
  noontidelaw03: the walks of the laws.
-/
import Derived.Test.YtblmlglkjmilkaaCivV
namespace Go.Proofs.Ytblmlglkjmilkaa
open Go.RowKit Cal
attribute [local go_sem] BW.cell BW.frozen

set_option maxRecDepth 100000 in
set_option maxHeartbeats 4000000 in
theorem CivilTells_walk (y m d y' m' d' Y M n : Int) (ky : I64 y) (kY : I64 Y) (kn : I64 n) (w : World) : Calls Try.prog 7 #[dat y m d, dat y' m' d', .int .i64 Y, .int .i64 M, .int .i64 n] w fun e w' => e = .returned (.bool true) ∧ Below w.heap.size w w' := by
  go_enter Try.func7, Try.ntmps7
  go_wp2_with fail
  refine (civil_Days y m d ky _).mono ?_
  rintro e w1 ⟨rfl, hb1⟩
  have B1 : Below w.heap.size w w1 := by (focus (repeat' (first | assumption | exact Below.refl _ _ | refine Below.alloc ?_ ?_ _ | refine Below.setCell ?_ ?_ _ | refine Below.drew ?_ | refine below_drewN ?_ _ | refine Below.trans ?_ (Below.mono (by assumption) ?_) | refine Below.trans ?_ (Below.mono (BW.below _) ?_) | (simp; done) | (simp; omega) | omega)))
  have n1 : w.heap.size ≤ w1.heap.size := B1.size
  have s1_0 : w.heap.size < w1.heap.size := Nat.lt_of_lt_of_le (by first | (simp; done) | (simp; omega) | omega) hb1.size
  have c1_0_0 : w1.cell? ⟨w.heap.size, 0, none⟩ = some (.int .i64 (y)) := (hb1.cell (p := ⟨w.heap.size, 0, none⟩) (by first | (simp; done) | (simp; omega) | omega)).trans (by go_simp)
  have c1_0_1 : w1.cell? ⟨w.heap.size, 1, none⟩ = some (.int .i64 (m)) := (hb1.cell (p := ⟨w.heap.size, 1, none⟩) (by first | (simp; done) | (simp; omega) | omega)).trans (by go_simp)
  have c1_0_2 : w1.cell? ⟨w.heap.size, 2, none⟩ = some (.int .i64 (d)) := (hb1.cell (p := ⟨w.heap.size, 2, none⟩) (by first | (simp; done) | (simp; omega) | omega)).trans (by go_simp)
  have s1_1 : w.heap.size + 1 < w1.heap.size := Nat.lt_of_lt_of_le (by first | (simp; done) | (simp; omega) | omega) hb1.size
  have c1_1_0 : w1.cell? ⟨w.heap.size + 1, 0, none⟩ = some (.int .i64 (y')) := (hb1.cell (p := ⟨w.heap.size + 1, 0, none⟩) (by first | (simp; done) | (simp; omega) | omega)).trans (by go_simp)
  have c1_1_1 : w1.cell? ⟨w.heap.size + 1, 1, none⟩ = some (.int .i64 (m')) := (hb1.cell (p := ⟨w.heap.size + 1, 1, none⟩) (by first | (simp; done) | (simp; omega) | omega)).trans (by go_simp)
  have c1_1_2 : w1.cell? ⟨w.heap.size + 1, 2, none⟩ = some (.int .i64 (d')) := (hb1.cell (p := ⟨w.heap.size + 1, 2, none⟩) (by first | (simp; done) | (simp; omega) | omega)).trans (by go_simp)
  clear hb1
  go_wp2_with fail
  refine (ref03_Days y m d ky _).mono ?_
  rintro e w2 ⟨rfl, hb2⟩
  have B2 : Below w.heap.size w w2 := by (focus (repeat' (first | assumption | exact Below.refl _ _ | refine Below.alloc ?_ ?_ _ | refine Below.setCell ?_ ?_ _ | refine Below.drew ?_ | refine below_drewN ?_ _ | refine Below.trans ?_ (Below.mono (by assumption) ?_) | refine Below.trans ?_ (Below.mono (BW.below _) ?_) | (simp; done) | (simp; omega) | omega)))
  have n2 : w.heap.size ≤ w2.heap.size := B2.size
  have s2_0 : w.heap.size < w2.heap.size := Nat.lt_of_lt_of_le (by first | (simp; done) | (simp; omega) | omega) hb2.size
  have c2_0_0 : w2.cell? ⟨w.heap.size, 0, none⟩ = some (.int .i64 (y)) := (hb2.cell (p := ⟨w.heap.size, 0, none⟩) (by first | (simp; done) | (simp; omega) | omega)).trans (by go_simp)
  have c2_0_1 : w2.cell? ⟨w.heap.size, 1, none⟩ = some (.int .i64 (m)) := (hb2.cell (p := ⟨w.heap.size, 1, none⟩) (by first | (simp; done) | (simp; omega) | omega)).trans (by go_simp)
  have c2_0_2 : w2.cell? ⟨w.heap.size, 2, none⟩ = some (.int .i64 (d)) := (hb2.cell (p := ⟨w.heap.size, 2, none⟩) (by first | (simp; done) | (simp; omega) | omega)).trans (by go_simp)
  have s2_1 : w.heap.size + 1 < w2.heap.size := Nat.lt_of_lt_of_le (by first | (simp; done) | (simp; omega) | omega) hb2.size
  have c2_1_0 : w2.cell? ⟨w.heap.size + 1, 0, none⟩ = some (.int .i64 (y')) := (hb2.cell (p := ⟨w.heap.size + 1, 0, none⟩) (by first | (simp; done) | (simp; omega) | omega)).trans (by go_simp)
  have c2_1_1 : w2.cell? ⟨w.heap.size + 1, 1, none⟩ = some (.int .i64 (m')) := (hb2.cell (p := ⟨w.heap.size + 1, 1, none⟩) (by first | (simp; done) | (simp; omega) | omega)).trans (by go_simp)
  have c2_1_2 : w2.cell? ⟨w.heap.size + 1, 2, none⟩ = some (.int .i64 (d')) := (hb2.cell (p := ⟨w.heap.size + 1, 2, none⟩) (by first | (simp; done) | (simp; omega) | omega)).trans (by go_simp)
  clear hb2 B1 n1 s1_0 c1_0_0 c1_0_1 c1_0_2 s1_1 c1_1_0 c1_1_1 c1_1_2
  go_wp2_with fail
  refine (civil_Date n _).mono ?_
  rintro e w3 ⟨rfl, hb3⟩
  have B3 : Below w.heap.size w w3 := by (focus (repeat' (first | assumption | exact Below.refl _ _ | refine Below.alloc ?_ ?_ _ | refine Below.setCell ?_ ?_ _ | refine Below.drew ?_ | refine below_drewN ?_ _ | refine Below.trans ?_ (Below.mono (by assumption) ?_) | refine Below.trans ?_ (Below.mono (BW.below _) ?_) | (simp; done) | (simp; omega) | omega)))
  have n3 : w.heap.size ≤ w3.heap.size := B3.size
  have s3_0 : w.heap.size < w3.heap.size := Nat.lt_of_lt_of_le (by first | (simp; done) | (simp; omega) | omega) hb3.size
  have c3_0_0 : w3.cell? ⟨w.heap.size, 0, none⟩ = some (.int .i64 (y)) := (hb3.cell (p := ⟨w.heap.size, 0, none⟩) (by first | (simp; done) | (simp; omega) | omega)).trans (by go_simp)
  have c3_0_1 : w3.cell? ⟨w.heap.size, 1, none⟩ = some (.int .i64 (m)) := (hb3.cell (p := ⟨w.heap.size, 1, none⟩) (by first | (simp; done) | (simp; omega) | omega)).trans (by go_simp)
  have c3_0_2 : w3.cell? ⟨w.heap.size, 2, none⟩ = some (.int .i64 (d)) := (hb3.cell (p := ⟨w.heap.size, 2, none⟩) (by first | (simp; done) | (simp; omega) | omega)).trans (by go_simp)
  have s3_1 : w.heap.size + 1 < w3.heap.size := Nat.lt_of_lt_of_le (by first | (simp; done) | (simp; omega) | omega) hb3.size
  have c3_1_0 : w3.cell? ⟨w.heap.size + 1, 0, none⟩ = some (.int .i64 (y')) := (hb3.cell (p := ⟨w.heap.size + 1, 0, none⟩) (by first | (simp; done) | (simp; omega) | omega)).trans (by go_simp)
  have c3_1_1 : w3.cell? ⟨w.heap.size + 1, 1, none⟩ = some (.int .i64 (m')) := (hb3.cell (p := ⟨w.heap.size + 1, 1, none⟩) (by first | (simp; done) | (simp; omega) | omega)).trans (by go_simp)
  have c3_1_2 : w3.cell? ⟨w.heap.size + 1, 2, none⟩ = some (.int .i64 (d')) := (hb3.cell (p := ⟨w.heap.size + 1, 2, none⟩) (by first | (simp; done) | (simp; omega) | omega)).trans (by go_simp)
  clear hb3 B2 n2 s2_0 c2_0_0 c2_0_1 c2_0_2 s2_1 c2_1_0 c2_1_1 c2_1_2
  go_wp2_with fail
  refine (ref03_Date n _).mono ?_
  rintro e w4 ⟨rfl, hb4⟩
  have B4 : Below w.heap.size w w4 := by (focus (repeat' (first | assumption | exact Below.refl _ _ | refine Below.alloc ?_ ?_ _ | refine Below.setCell ?_ ?_ _ | refine Below.drew ?_ | refine below_drewN ?_ _ | refine Below.trans ?_ (Below.mono (by assumption) ?_) | refine Below.trans ?_ (Below.mono (BW.below _) ?_) | (simp; done) | (simp; omega) | omega)))
  have n4 : w.heap.size ≤ w4.heap.size := B4.size
  have s4_0 : w.heap.size < w4.heap.size := Nat.lt_of_lt_of_le (by first | (simp; done) | (simp; omega) | omega) hb4.size
  have c4_0_0 : w4.cell? ⟨w.heap.size, 0, none⟩ = some (.int .i64 (y)) := (hb4.cell (p := ⟨w.heap.size, 0, none⟩) (by first | (simp; done) | (simp; omega) | omega)).trans (by go_simp)
  have c4_0_1 : w4.cell? ⟨w.heap.size, 1, none⟩ = some (.int .i64 (m)) := (hb4.cell (p := ⟨w.heap.size, 1, none⟩) (by first | (simp; done) | (simp; omega) | omega)).trans (by go_simp)
  have c4_0_2 : w4.cell? ⟨w.heap.size, 2, none⟩ = some (.int .i64 (d)) := (hb4.cell (p := ⟨w.heap.size, 2, none⟩) (by first | (simp; done) | (simp; omega) | omega)).trans (by go_simp)
  have s4_1 : w.heap.size + 1 < w4.heap.size := Nat.lt_of_lt_of_le (by first | (simp; done) | (simp; omega) | omega) hb4.size
  have c4_1_0 : w4.cell? ⟨w.heap.size + 1, 0, none⟩ = some (.int .i64 (y')) := (hb4.cell (p := ⟨w.heap.size + 1, 0, none⟩) (by first | (simp; done) | (simp; omega) | omega)).trans (by go_simp)
  have c4_1_1 : w4.cell? ⟨w.heap.size + 1, 1, none⟩ = some (.int .i64 (m')) := (hb4.cell (p := ⟨w.heap.size + 1, 1, none⟩) (by first | (simp; done) | (simp; omega) | omega)).trans (by go_simp)
  have c4_1_2 : w4.cell? ⟨w.heap.size + 1, 2, none⟩ = some (.int .i64 (d')) := (hb4.cell (p := ⟨w.heap.size + 1, 2, none⟩) (by first | (simp; done) | (simp; omega) | omega)).trans (by go_simp)
  have s4_2 : w3.heap.size < w4.heap.size := Nat.lt_of_lt_of_le (by first | (simp; done) | (simp; omega) | omega) hb4.size
  have c4_2_0 : w4.cell? ⟨w3.heap.size, 0, none⟩ = some (.int .i64 (dtY n)) := (hb4.cell (p := ⟨w3.heap.size, 0, none⟩) (by first | (simp; done) | (simp; omega) | omega)).trans (by go_simp)
  have c4_2_1 : w4.cell? ⟨w3.heap.size, 1, none⟩ = some (.int .i64 (dtM n)) := (hb4.cell (p := ⟨w3.heap.size, 1, none⟩) (by first | (simp; done) | (simp; omega) | omega)).trans (by go_simp)
  have c4_2_2 : w4.cell? ⟨w3.heap.size, 2, none⟩ = some (.int .i64 (dtD n)) := (hb4.cell (p := ⟨w3.heap.size, 2, none⟩) (by first | (simp; done) | (simp; omega) | omega)).trans (by go_simp)
  clear hb4 B3 n3 s3_0 c3_0_0 c3_0_1 c3_0_2 s3_1 c3_1_0 c3_1_1 c3_1_2
  go_wp2_with fail
  refine (civil_YearDay y m d ky _).mono ?_
  rintro e w5 ⟨rfl, hb5⟩
  have B5 : Below w.heap.size w w5 := by (focus (repeat' (first | assumption | exact Below.refl _ _ | refine Below.alloc ?_ ?_ _ | refine Below.setCell ?_ ?_ _ | refine Below.drew ?_ | refine below_drewN ?_ _ | refine Below.trans ?_ (Below.mono (by assumption) ?_) | refine Below.trans ?_ (Below.mono (BW.below _) ?_) | (simp; done) | (simp; omega) | omega)))
  have n5 : w.heap.size ≤ w5.heap.size := B5.size
  have s5_0 : w.heap.size < w5.heap.size := Nat.lt_of_lt_of_le (by first | (simp; done) | (simp; omega) | omega) hb5.size
  have c5_0_0 : w5.cell? ⟨w.heap.size, 0, none⟩ = some (.int .i64 (y)) := (hb5.cell (p := ⟨w.heap.size, 0, none⟩) (by first | (simp; done) | (simp; omega) | omega)).trans (by go_simp)
  have c5_0_1 : w5.cell? ⟨w.heap.size, 1, none⟩ = some (.int .i64 (m)) := (hb5.cell (p := ⟨w.heap.size, 1, none⟩) (by first | (simp; done) | (simp; omega) | omega)).trans (by go_simp)
  have c5_0_2 : w5.cell? ⟨w.heap.size, 2, none⟩ = some (.int .i64 (d)) := (hb5.cell (p := ⟨w.heap.size, 2, none⟩) (by first | (simp; done) | (simp; omega) | omega)).trans (by go_simp)
  have s5_1 : w.heap.size + 1 < w5.heap.size := Nat.lt_of_lt_of_le (by first | (simp; done) | (simp; omega) | omega) hb5.size
  have c5_1_0 : w5.cell? ⟨w.heap.size + 1, 0, none⟩ = some (.int .i64 (y')) := (hb5.cell (p := ⟨w.heap.size + 1, 0, none⟩) (by first | (simp; done) | (simp; omega) | omega)).trans (by go_simp)
  have c5_1_1 : w5.cell? ⟨w.heap.size + 1, 1, none⟩ = some (.int .i64 (m')) := (hb5.cell (p := ⟨w.heap.size + 1, 1, none⟩) (by first | (simp; done) | (simp; omega) | omega)).trans (by go_simp)
  have c5_1_2 : w5.cell? ⟨w.heap.size + 1, 2, none⟩ = some (.int .i64 (d')) := (hb5.cell (p := ⟨w.heap.size + 1, 2, none⟩) (by first | (simp; done) | (simp; omega) | omega)).trans (by go_simp)
  have s5_2 : w3.heap.size < w5.heap.size := Nat.lt_of_lt_of_le (by first | (simp; done) | (simp; omega) | omega) hb5.size
  have c5_2_0 : w5.cell? ⟨w3.heap.size, 0, none⟩ = some (.int .i64 (dtY n)) := (hb5.cell (p := ⟨w3.heap.size, 0, none⟩) (by first | (simp; done) | (simp; omega) | omega)).trans (by go_simp)
  have c5_2_1 : w5.cell? ⟨w3.heap.size, 1, none⟩ = some (.int .i64 (dtM n)) := (hb5.cell (p := ⟨w3.heap.size, 1, none⟩) (by first | (simp; done) | (simp; omega) | omega)).trans (by go_simp)
  have c5_2_2 : w5.cell? ⟨w3.heap.size, 2, none⟩ = some (.int .i64 (dtD n)) := (hb5.cell (p := ⟨w3.heap.size, 2, none⟩) (by first | (simp; done) | (simp; omega) | omega)).trans (by go_simp)
  have s5_3 : w4.heap.size < w5.heap.size := Nat.lt_of_lt_of_le (by first | (simp; done) | (simp; omega) | omega) hb5.size
  have c5_3_0 : w5.cell? ⟨w4.heap.size, 0, none⟩ = some (.int .i64 (dtY n)) := (hb5.cell (p := ⟨w4.heap.size, 0, none⟩) (by first | (simp; done) | (simp; omega) | omega)).trans (by go_simp)
  have c5_3_1 : w5.cell? ⟨w4.heap.size, 1, none⟩ = some (.int .i64 (dtM n)) := (hb5.cell (p := ⟨w4.heap.size, 1, none⟩) (by first | (simp; done) | (simp; omega) | omega)).trans (by go_simp)
  have c5_3_2 : w5.cell? ⟨w4.heap.size, 2, none⟩ = some (.int .i64 (dtD n)) := (hb5.cell (p := ⟨w4.heap.size, 2, none⟩) (by first | (simp; done) | (simp; omega) | omega)).trans (by go_simp)
  clear hb5 B4 n4 s4_0 c4_0_0 c4_0_1 c4_0_2 s4_1 c4_1_0 c4_1_1 c4_1_2 s4_2 c4_2_0 c4_2_1 c4_2_2
  go_wp2_with fail
  refine (ref03_YearDay y m d ky _).mono ?_
  rintro e w6 ⟨rfl, hb6⟩
  have B6 : Below w.heap.size w w6 := by (focus (repeat' (first | assumption | exact Below.refl _ _ | refine Below.alloc ?_ ?_ _ | refine Below.setCell ?_ ?_ _ | refine Below.drew ?_ | refine below_drewN ?_ _ | refine Below.trans ?_ (Below.mono (by assumption) ?_) | refine Below.trans ?_ (Below.mono (BW.below _) ?_) | (simp; done) | (simp; omega) | omega)))
  have n6 : w.heap.size ≤ w6.heap.size := B6.size
  have s6_0 : w.heap.size < w6.heap.size := Nat.lt_of_lt_of_le (by first | (simp; done) | (simp; omega) | omega) hb6.size
  have c6_0_0 : w6.cell? ⟨w.heap.size, 0, none⟩ = some (.int .i64 (y)) := (hb6.cell (p := ⟨w.heap.size, 0, none⟩) (by first | (simp; done) | (simp; omega) | omega)).trans (by go_simp)
  have c6_0_1 : w6.cell? ⟨w.heap.size, 1, none⟩ = some (.int .i64 (m)) := (hb6.cell (p := ⟨w.heap.size, 1, none⟩) (by first | (simp; done) | (simp; omega) | omega)).trans (by go_simp)
  have c6_0_2 : w6.cell? ⟨w.heap.size, 2, none⟩ = some (.int .i64 (d)) := (hb6.cell (p := ⟨w.heap.size, 2, none⟩) (by first | (simp; done) | (simp; omega) | omega)).trans (by go_simp)
  have s6_1 : w.heap.size + 1 < w6.heap.size := Nat.lt_of_lt_of_le (by first | (simp; done) | (simp; omega) | omega) hb6.size
  have c6_1_0 : w6.cell? ⟨w.heap.size + 1, 0, none⟩ = some (.int .i64 (y')) := (hb6.cell (p := ⟨w.heap.size + 1, 0, none⟩) (by first | (simp; done) | (simp; omega) | omega)).trans (by go_simp)
  have c6_1_1 : w6.cell? ⟨w.heap.size + 1, 1, none⟩ = some (.int .i64 (m')) := (hb6.cell (p := ⟨w.heap.size + 1, 1, none⟩) (by first | (simp; done) | (simp; omega) | omega)).trans (by go_simp)
  have c6_1_2 : w6.cell? ⟨w.heap.size + 1, 2, none⟩ = some (.int .i64 (d')) := (hb6.cell (p := ⟨w.heap.size + 1, 2, none⟩) (by first | (simp; done) | (simp; omega) | omega)).trans (by go_simp)
  have s6_2 : w3.heap.size < w6.heap.size := Nat.lt_of_lt_of_le (by first | (simp; done) | (simp; omega) | omega) hb6.size
  have c6_2_0 : w6.cell? ⟨w3.heap.size, 0, none⟩ = some (.int .i64 (dtY n)) := (hb6.cell (p := ⟨w3.heap.size, 0, none⟩) (by first | (simp; done) | (simp; omega) | omega)).trans (by go_simp)
  have c6_2_1 : w6.cell? ⟨w3.heap.size, 1, none⟩ = some (.int .i64 (dtM n)) := (hb6.cell (p := ⟨w3.heap.size, 1, none⟩) (by first | (simp; done) | (simp; omega) | omega)).trans (by go_simp)
  have c6_2_2 : w6.cell? ⟨w3.heap.size, 2, none⟩ = some (.int .i64 (dtD n)) := (hb6.cell (p := ⟨w3.heap.size, 2, none⟩) (by first | (simp; done) | (simp; omega) | omega)).trans (by go_simp)
  have s6_3 : w4.heap.size < w6.heap.size := Nat.lt_of_lt_of_le (by first | (simp; done) | (simp; omega) | omega) hb6.size
  have c6_3_0 : w6.cell? ⟨w4.heap.size, 0, none⟩ = some (.int .i64 (dtY n)) := (hb6.cell (p := ⟨w4.heap.size, 0, none⟩) (by first | (simp; done) | (simp; omega) | omega)).trans (by go_simp)
  have c6_3_1 : w6.cell? ⟨w4.heap.size, 1, none⟩ = some (.int .i64 (dtM n)) := (hb6.cell (p := ⟨w4.heap.size, 1, none⟩) (by first | (simp; done) | (simp; omega) | omega)).trans (by go_simp)
  have c6_3_2 : w6.cell? ⟨w4.heap.size, 2, none⟩ = some (.int .i64 (dtD n)) := (hb6.cell (p := ⟨w4.heap.size, 2, none⟩) (by first | (simp; done) | (simp; omega) | omega)).trans (by go_simp)
  clear hb6 B5 n5 s5_0 c5_0_0 c5_0_1 c5_0_2 s5_1 c5_1_0 c5_1_1 c5_1_2 s5_2 c5_2_0 c5_2_1 c5_2_2 s5_3 c5_3_0 c5_3_1 c5_3_2
  go_wp2_with fail
  have Bx1 : Below w.heap.size w w6 := by (focus (repeat' (first | assumption | exact Below.refl _ _ | refine Below.alloc ?_ ?_ _ | refine Below.setCell ?_ ?_ _ | refine Below.drew ?_ | refine below_drewN ?_ _ | refine Below.trans ?_ (Below.mono (by assumption) ?_) | refine Below.trans ?_ (Below.mono (BW.below _) ?_) | (simp; done) | (simp; omega) | omega)))
  have nx1 : w.heap.size ≤ w6.heap.size := Bx1.size
  have sx1_0 : w.heap.size < w6.heap.size := (by first | (simp; done) | (simp; omega) | omega)
  have cx1_0_0 : w6.cell? ⟨w.heap.size, 0, none⟩ = some (.int .i64 (y)) := by go_simp
  have cx1_0_1 : w6.cell? ⟨w.heap.size, 1, none⟩ = some (.int .i64 (m)) := by go_simp
  have cx1_0_2 : w6.cell? ⟨w.heap.size, 2, none⟩ = some (.int .i64 (d)) := by go_simp
  have sx1_1 : w.heap.size + 1 < w6.heap.size := (by first | (simp; done) | (simp; omega) | omega)
  have cx1_1_0 : w6.cell? ⟨w.heap.size + 1, 0, none⟩ = some (.int .i64 (y')) := by go_simp
  have cx1_1_1 : w6.cell? ⟨w.heap.size + 1, 1, none⟩ = some (.int .i64 (m')) := by go_simp
  have cx1_1_2 : w6.cell? ⟨w.heap.size + 1, 2, none⟩ = some (.int .i64 (d')) := by go_simp
  have sx1_2 : w3.heap.size < w6.heap.size := (by first | (simp; done) | (simp; omega) | omega)
  have cx1_2_0 : w6.cell? ⟨w3.heap.size, 0, none⟩ = some (.int .i64 (dtY n)) := by go_simp
  have cx1_2_1 : w6.cell? ⟨w3.heap.size, 1, none⟩ = some (.int .i64 (dtM n)) := by go_simp
  have cx1_2_2 : w6.cell? ⟨w3.heap.size, 2, none⟩ = some (.int .i64 (dtD n)) := by go_simp
  have sx1_3 : w4.heap.size < w6.heap.size := (by first | (simp; done) | (simp; omega) | omega)
  have cx1_3_0 : w6.cell? ⟨w4.heap.size, 0, none⟩ = some (.int .i64 (dtY n)) := by go_simp
  have cx1_3_1 : w6.cell? ⟨w4.heap.size, 1, none⟩ = some (.int .i64 (dtM n)) := by go_simp
  have cx1_3_2 : w6.cell? ⟨w4.heap.size, 2, none⟩ = some (.int .i64 (dtD n)) := by go_simp
  clear B6 n6 s6_0 c6_0_0 c6_0_1 c6_0_2 s6_1 c6_1_0 c6_1_1 c6_1_2 s6_2 c6_2_0 c6_2_1 c6_2_2 s6_3 c6_3_0 c6_3_1 c6_3_2
  generalize w6 = x1 at *
  try dsimp only [List.append]
  refine wp_region_bw (by kernel_rfl) (by kernel_rfl) ?_; (repeat (go_big_quiet_step ((first | (go_at_call 50; exact bw_same (civil_Leap Y kY _)) | (go_at_call 51; exact bw_same (ref03_Leap Y kY _)) | (go_at_call 52; exact bw_same (civil_Len Y M kY _)) | (go_at_call 53; exact bw_call (ref03_Len Y M kY _)) | (go_at_call 54; exact bw_call (civil_Right y m d ky _)) | (go_at_call 55; exact bw_call (ref03_Right y m d ky _)) | (go_at_call 56; exact bw_call (civil_Weekday n kn _)) | (go_at_call 57; exact bw_same (ref03_Weekday n kn _)) | (go_at_call 58; exact bw_call (civil_Compare _ _ _ _ _ _ _)) | (go_at_call 59; exact bw_call (ref03_Compare _ _ _ _ _ _ _)) | (go_at_call 60; exact bw_call (civ_lives _)))))); refine wpQuiet_nil ?_; intro _ hw'; obtain ⟨xq, hw''⟩ := hw'; subst hw''
  go_wp2_with fail
  go_ret
  exact ⟨rfl, by (focus (repeat' (first | assumption | exact Below.refl _ _ | refine Below.alloc ?_ ?_ _ | refine Below.setCell ?_ ?_ _ | refine Below.drew ?_ | refine below_drewN ?_ _ | refine Below.trans ?_ (Below.mono (by assumption) ?_) | refine Below.trans ?_ (Below.mono (BW.below _) ?_) | (simp; done) | (simp; omega) | omega)))⟩
end Go.Proofs.Ytblmlglkjmilkaa
