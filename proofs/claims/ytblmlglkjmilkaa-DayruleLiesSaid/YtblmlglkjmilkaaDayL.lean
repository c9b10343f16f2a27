/-
  noontidelaw05.DayruleLies: the walk.
-/
import Derived.Test.YtblmlglkjmilkaaDayV
import Derived.Test.YtblmlglkjmilkaaDayX
namespace Go.Proofs.Ytblmlglkjmilkaa
open Go.RowKit Cal
attribute [local go_sem] BW.cell BW.frozen
set_option maxRecDepth 100000 in
set_option maxHeartbeats 4000000 in
theorem DayruleLies_n (k wk d y m : Int) (ky : I64 y) (h : onFits k wk d m = false) (w : World) : Calls Try.prog 10 #[dat k wk d, .int .i64 y, .int .i64 m] w fun e w' => e = .returned (.bool true) ∧ Below w.heap.size w w' := by
  have hD := fun w => dayrule_Days k wk d y m ky w
  rw [(rule_n (y := y) h).1, (rule_n (y := y) h).2] at hD
  have hWi := fun w => dayrule_Window k wk d m w
  have hC := fun w => civil_Days y m 1 ky w
  generalize winL k wk d m = lo at *
  generalize winH k wk d m = hi at *
  generalize winE k wk d m = we at *
  generalize dayV y m 1 = f at *
  generalize dayE y m 1 = fe at *
  clear h
  go_enter Try.func10, Try.ntmps10
  go_wp2_with fail
  refine (day_lives _).mono ?_
  rintro e w1 ⟨rfl, hb1⟩
  have B1 : Below w.heap.size w w1 := by (focus (repeat' (first | assumption | exact Below.refl _ _ | refine Below.alloc ?_ ?_ _ | refine Below.setCell ?_ ?_ _ | refine Below.drew ?_ | refine below_drewN ?_ _ | refine Below.trans ?_ (Below.mono (by assumption) ?_) | refine Below.trans ?_ (Below.mono (BW.below _) ?_) | (simp; done) | (simp; omega) | omega)))
  have n1 : w.heap.size ≤ w1.heap.size := B1.size
  have s1_0 : w.heap.size < w1.heap.size := Nat.lt_of_lt_of_le (by first | (simp; done) | (simp; omega) | omega) hb1.size
  have c1_0_0 : w1.cell? ⟨w.heap.size, 0, none⟩ = some (.int .i64 (k)) := (hb1.cell (p := ⟨w.heap.size, 0, none⟩) (by first | (simp; done) | (simp; omega) | omega)).trans (by go_simp)
  have c1_0_1 : w1.cell? ⟨w.heap.size, 1, none⟩ = some (.int .i64 (wk)) := (hb1.cell (p := ⟨w.heap.size, 1, none⟩) (by first | (simp; done) | (simp; omega) | omega)).trans (by go_simp)
  have c1_0_2 : w1.cell? ⟨w.heap.size, 2, none⟩ = some (.int .i64 (d)) := (hb1.cell (p := ⟨w.heap.size, 2, none⟩) (by first | (simp; done) | (simp; omega) | omega)).trans (by go_simp)
  clear hb1
  go_wp2_with fail
  refine (hD _).mono ?_
  rintro e w2 ⟨rfl, hb2⟩
  have B2 : Below w.heap.size w w2 := by (focus (repeat' (first | assumption | exact Below.refl _ _ | refine Below.alloc ?_ ?_ _ | refine Below.setCell ?_ ?_ _ | refine Below.drew ?_ | refine below_drewN ?_ _ | refine Below.trans ?_ (Below.mono (by assumption) ?_) | refine Below.trans ?_ (Below.mono (BW.below _) ?_) | (simp; done) | (simp; omega) | omega)))
  have n2 : w.heap.size ≤ w2.heap.size := B2.size
  have s2_0 : w.heap.size < w2.heap.size := Nat.lt_of_lt_of_le (by first | (simp; done) | (simp; omega) | omega) hb2.size
  have c2_0_0 : w2.cell? ⟨w.heap.size, 0, none⟩ = some (.int .i64 (k)) := (hb2.cell (p := ⟨w.heap.size, 0, none⟩) (by first | (simp; done) | (simp; omega) | omega)).trans (by go_simp)
  have c2_0_1 : w2.cell? ⟨w.heap.size, 1, none⟩ = some (.int .i64 (wk)) := (hb2.cell (p := ⟨w.heap.size, 1, none⟩) (by first | (simp; done) | (simp; omega) | omega)).trans (by go_simp)
  have c2_0_2 : w2.cell? ⟨w.heap.size, 2, none⟩ = some (.int .i64 (d)) := (hb2.cell (p := ⟨w.heap.size, 2, none⟩) (by first | (simp; done) | (simp; omega) | omega)).trans (by go_simp)
  clear hb2 B1 n1 s1_0 c1_0_0 c1_0_1 c1_0_2
  go_wp2_with fail
  refine (hWi _).mono ?_
  rintro e w3 ⟨rfl, hb3⟩
  have B3 : Below w.heap.size w w3 := by (focus (repeat' (first | assumption | exact Below.refl _ _ | refine Below.alloc ?_ ?_ _ | refine Below.setCell ?_ ?_ _ | refine Below.drew ?_ | refine below_drewN ?_ _ | refine Below.trans ?_ (Below.mono (by assumption) ?_) | refine Below.trans ?_ (Below.mono (BW.below _) ?_) | (simp; done) | (simp; omega) | omega)))
  have n3 : w.heap.size ≤ w3.heap.size := B3.size
  clear hb3 B2 n2 s2_0 c2_0_0 c2_0_1 c2_0_2
  go_wp2_with fail
  refine (hC _).mono ?_
  rintro e w4 ⟨rfl, hb4⟩
  have B4 : Below w.heap.size w w4 := by (focus (repeat' (first | assumption | exact Below.refl _ _ | refine Below.alloc ?_ ?_ _ | refine Below.setCell ?_ ?_ _ | refine Below.drew ?_ | refine below_drewN ?_ _ | refine Below.trans ?_ (Below.mono (by assumption) ?_) | refine Below.trans ?_ (Below.mono (BW.below _) ?_) | (simp; done) | (simp; omega) | omega)))
  have n4 : w.heap.size ≤ w4.heap.size := B4.size
  clear hb4 B3 n3
  go_wp2_with fail
  go_ret
  exact ⟨rfl, by (focus (repeat' (first | assumption | exact Below.refl _ _ | refine Below.alloc ?_ ?_ _ | refine Below.setCell ?_ ?_ _ | refine Below.drew ?_ | refine below_drewN ?_ _ | refine Below.trans ?_ (Below.mono (by assumption) ?_) | refine Below.trans ?_ (Below.mono (BW.below _) ?_) | (simp; done) | (simp; omega) | omega)))⟩
set_option maxRecDepth 100000 in
set_option maxHeartbeats 4000000 in
theorem DayruleLies_r (k wk d y m : Int) (ky : I64 y) (h : onFits k wk d m = true) (hy : inB y (-39999) 39999 = false) (w : World) : Calls Try.prog 10 #[dat k wk d, .int .i64 y, .int .i64 m] w fun e w' => e = .returned (.bool true) ∧ Below w.heap.size w w' := by
  have hD := fun w => dayrule_Days k wk d y m ky w
  rw [(rule_r h hy).1, (rule_r h hy).2] at hD
  have hWi := fun w => dayrule_Window k wk d m w
  have hC := fun w => civil_Days y m 1 ky w
  generalize winL k wk d m = lo at *
  generalize winH k wk d m = hi at *
  generalize winE k wk d m = we at *
  generalize dayV y m 1 = f at *
  generalize dayE y m 1 = fe at *
  clear h hy
  go_enter Try.func10, Try.ntmps10
  go_wp2_with fail
  refine (day_lives _).mono ?_
  rintro e w1 ⟨rfl, hb1⟩
  have B1 : Below w.heap.size w w1 := by (focus (repeat' (first | assumption | exact Below.refl _ _ | refine Below.alloc ?_ ?_ _ | refine Below.setCell ?_ ?_ _ | refine Below.drew ?_ | refine below_drewN ?_ _ | refine Below.trans ?_ (Below.mono (by assumption) ?_) | refine Below.trans ?_ (Below.mono (BW.below _) ?_) | (simp; done) | (simp; omega) | omega)))
  have n1 : w.heap.size ≤ w1.heap.size := B1.size
  have s1_0 : w.heap.size < w1.heap.size := Nat.lt_of_lt_of_le (by first | (simp; done) | (simp; omega) | omega) hb1.size
  have c1_0_0 : w1.cell? ⟨w.heap.size, 0, none⟩ = some (.int .i64 (k)) := (hb1.cell (p := ⟨w.heap.size, 0, none⟩) (by first | (simp; done) | (simp; omega) | omega)).trans (by go_simp)
  have c1_0_1 : w1.cell? ⟨w.heap.size, 1, none⟩ = some (.int .i64 (wk)) := (hb1.cell (p := ⟨w.heap.size, 1, none⟩) (by first | (simp; done) | (simp; omega) | omega)).trans (by go_simp)
  have c1_0_2 : w1.cell? ⟨w.heap.size, 2, none⟩ = some (.int .i64 (d)) := (hb1.cell (p := ⟨w.heap.size, 2, none⟩) (by first | (simp; done) | (simp; omega) | omega)).trans (by go_simp)
  clear hb1
  go_wp2_with fail
  refine (hD _).mono ?_
  rintro e w2 ⟨rfl, hb2⟩
  have B2 : Below w.heap.size w w2 := by (focus (repeat' (first | assumption | exact Below.refl _ _ | refine Below.alloc ?_ ?_ _ | refine Below.setCell ?_ ?_ _ | refine Below.drew ?_ | refine below_drewN ?_ _ | refine Below.trans ?_ (Below.mono (by assumption) ?_) | refine Below.trans ?_ (Below.mono (BW.below _) ?_) | (simp; done) | (simp; omega) | omega)))
  have n2 : w.heap.size ≤ w2.heap.size := B2.size
  have s2_0 : w.heap.size < w2.heap.size := Nat.lt_of_lt_of_le (by first | (simp; done) | (simp; omega) | omega) hb2.size
  have c2_0_0 : w2.cell? ⟨w.heap.size, 0, none⟩ = some (.int .i64 (k)) := (hb2.cell (p := ⟨w.heap.size, 0, none⟩) (by first | (simp; done) | (simp; omega) | omega)).trans (by go_simp)
  have c2_0_1 : w2.cell? ⟨w.heap.size, 1, none⟩ = some (.int .i64 (wk)) := (hb2.cell (p := ⟨w.heap.size, 1, none⟩) (by first | (simp; done) | (simp; omega) | omega)).trans (by go_simp)
  have c2_0_2 : w2.cell? ⟨w.heap.size, 2, none⟩ = some (.int .i64 (d)) := (hb2.cell (p := ⟨w.heap.size, 2, none⟩) (by first | (simp; done) | (simp; omega) | omega)).trans (by go_simp)
  clear hb2 B1 n1 s1_0 c1_0_0 c1_0_1 c1_0_2
  go_wp2_with fail
  refine (hWi _).mono ?_
  rintro e w3 ⟨rfl, hb3⟩
  have B3 : Below w.heap.size w w3 := by (focus (repeat' (first | assumption | exact Below.refl _ _ | refine Below.alloc ?_ ?_ _ | refine Below.setCell ?_ ?_ _ | refine Below.drew ?_ | refine below_drewN ?_ _ | refine Below.trans ?_ (Below.mono (by assumption) ?_) | refine Below.trans ?_ (Below.mono (BW.below _) ?_) | (simp; done) | (simp; omega) | omega)))
  have n3 : w.heap.size ≤ w3.heap.size := B3.size
  clear hb3 B2 n2 s2_0 c2_0_0 c2_0_1 c2_0_2
  go_wp2_with fail
  refine (hC _).mono ?_
  rintro e w4 ⟨rfl, hb4⟩
  have B4 : Below w.heap.size w w4 := by (focus (repeat' (first | assumption | exact Below.refl _ _ | refine Below.alloc ?_ ?_ _ | refine Below.setCell ?_ ?_ _ | refine Below.drew ?_ | refine below_drewN ?_ _ | refine Below.trans ?_ (Below.mono (by assumption) ?_) | refine Below.trans ?_ (Below.mono (BW.below _) ?_) | (simp; done) | (simp; omega) | omega)))
  have n4 : w.heap.size ≤ w4.heap.size := B4.size
  clear hb4 B3 n3
  go_wp2_with fail
  go_ret
  exact ⟨rfl, by (focus (repeat' (first | assumption | exact Below.refl _ _ | refine Below.alloc ?_ ?_ _ | refine Below.setCell ?_ ?_ _ | refine Below.drew ?_ | refine below_drewN ?_ _ | refine Below.trans ?_ (Below.mono (by assumption) ?_) | refine Below.trans ?_ (Below.mono (BW.below _) ?_) | (simp; done) | (simp; omega) | omega)))⟩
set_option maxRecDepth 100000 in
set_option maxHeartbeats 4000000 in
theorem DayruleLies_0 (wk d y m : Int) (ky : I64 y) (h : onFits 0 wk d m = true) (hy : inB y (-39999) 39999 = true) (w : World) : Calls Try.prog 10 #[dat 0 wk d, .int .i64 y, .int .i64 m] w fun e w' => e = .returned (.bool true) ∧ Below w.heap.size w w' := by
  have hD := fun w => dayrule_Days 0 wk d y m ky w
  rw [(rule_y h hy).1, (rule_y h hy).2] at hD
  have hWi := fun w => dayrule_Window 0 wk d m w
  have hC := fun w => civil_Days y m 1 ky w
  have hF := fun w => dayrule_Fits 0 wk d m w
  rw [h] at hF
  rw [(win_y h).2.2] at hWi
  obtain ⟨hr, v1, v2, n0, n1, l0, l1⟩ := rule_base h hy
  rw [v1, v2] at hC
  obtain ⟨c0, c1, c2⟩ := ruleN_bd h hy
  obtain ⟨g1, g2, g3⟩ := rule_lies h hy
  have hDt := fun w => civil_Date (ruleN 0 wk d y m + 7) w
  clear h hy hr v1 v2 l0 l1 g3
  generalize ruleN 0 wk d y m = N at *
  generalize winL 0 wk d m = lo at *
  generalize winH 0 wk d m = hi at *
  generalize numb y m 1 = f at *
  generalize dtY (N + 7) = Y at *
  generalize dtM (N + 7) = M at *
  generalize dtD (N + 7) = D at *
  generalize dtE (N + 7) = E at *
  go_enter Try.func10, Try.ntmps10
  go_wp2_with fail
  refine (day_lives _).mono ?_
  rintro e w1 ⟨rfl, hb1⟩
  have B1 : Below w.heap.size w w1 := by (focus (repeat' (first | assumption | exact Below.refl _ _ | refine Below.alloc ?_ ?_ _ | refine Below.setCell ?_ ?_ _ | refine Below.drew ?_ | refine below_drewN ?_ _ | refine Below.trans ?_ (Below.mono (by assumption) ?_) | refine Below.trans ?_ (Below.mono (BW.below _) ?_) | (simp; done) | (simp; omega) | omega)))
  have n1 : w.heap.size ≤ w1.heap.size := B1.size
  have s1_0 : w.heap.size < w1.heap.size := Nat.lt_of_lt_of_le (by first | (simp; done) | (simp; omega) | omega) hb1.size
  have c1_0_0 : w1.cell? ⟨w.heap.size, 0, none⟩ = some (.int .i64 (0)) := (hb1.cell (p := ⟨w.heap.size, 0, none⟩) (by first | (simp; done) | (simp; omega) | omega)).trans (by go_simp)
  have c1_0_1 : w1.cell? ⟨w.heap.size, 1, none⟩ = some (.int .i64 (wk)) := (hb1.cell (p := ⟨w.heap.size, 1, none⟩) (by first | (simp; done) | (simp; omega) | omega)).trans (by go_simp)
  have c1_0_2 : w1.cell? ⟨w.heap.size, 2, none⟩ = some (.int .i64 (d)) := (hb1.cell (p := ⟨w.heap.size, 2, none⟩) (by first | (simp; done) | (simp; omega) | omega)).trans (by go_simp)
  clear hb1
  go_wp2_with fail
  refine (hD _).mono ?_
  rintro e w2 ⟨rfl, hb2⟩
  have B2 : Below w.heap.size w w2 := by (focus (repeat' (first | assumption | exact Below.refl _ _ | refine Below.alloc ?_ ?_ _ | refine Below.setCell ?_ ?_ _ | refine Below.drew ?_ | refine below_drewN ?_ _ | refine Below.trans ?_ (Below.mono (by assumption) ?_) | refine Below.trans ?_ (Below.mono (BW.below _) ?_) | (simp; done) | (simp; omega) | omega)))
  have n2 : w.heap.size ≤ w2.heap.size := B2.size
  have s2_0 : w.heap.size < w2.heap.size := Nat.lt_of_lt_of_le (by first | (simp; done) | (simp; omega) | omega) hb2.size
  have c2_0_0 : w2.cell? ⟨w.heap.size, 0, none⟩ = some (.int .i64 (0)) := (hb2.cell (p := ⟨w.heap.size, 0, none⟩) (by first | (simp; done) | (simp; omega) | omega)).trans (by go_simp)
  have c2_0_1 : w2.cell? ⟨w.heap.size, 1, none⟩ = some (.int .i64 (wk)) := (hb2.cell (p := ⟨w.heap.size, 1, none⟩) (by first | (simp; done) | (simp; omega) | omega)).trans (by go_simp)
  have c2_0_2 : w2.cell? ⟨w.heap.size, 2, none⟩ = some (.int .i64 (d)) := (hb2.cell (p := ⟨w.heap.size, 2, none⟩) (by first | (simp; done) | (simp; omega) | omega)).trans (by go_simp)
  clear hb2 B1 c1_0_0 c1_0_1 c1_0_2
  go_wp2_with fail
  refine (hWi _).mono ?_
  rintro e w3 ⟨rfl, hb3⟩
  have B3 : Below w.heap.size w w3 := by (focus (repeat' (first | assumption | exact Below.refl _ _ | refine Below.alloc ?_ ?_ _ | refine Below.setCell ?_ ?_ _ | refine Below.drew ?_ | refine below_drewN ?_ _ | refine Below.trans ?_ (Below.mono (by assumption) ?_) | refine Below.trans ?_ (Below.mono (BW.below _) ?_) | (simp; done) | (simp; omega) | omega)))
  have n3 : w.heap.size ≤ w3.heap.size := B3.size
  have s3_0 : w.heap.size < w3.heap.size := Nat.lt_of_lt_of_le (by first | (simp; done) | (simp; omega) | omega) hb3.size
  have c3_0_0 : w3.cell? ⟨w.heap.size, 0, none⟩ = some (.int .i64 (0)) := (hb3.cell (p := ⟨w.heap.size, 0, none⟩) (by first | (simp; done) | (simp; omega) | omega)).trans (by go_simp)
  have c3_0_1 : w3.cell? ⟨w.heap.size, 1, none⟩ = some (.int .i64 (wk)) := (hb3.cell (p := ⟨w.heap.size, 1, none⟩) (by first | (simp; done) | (simp; omega) | omega)).trans (by go_simp)
  have c3_0_2 : w3.cell? ⟨w.heap.size, 2, none⟩ = some (.int .i64 (d)) := (hb3.cell (p := ⟨w.heap.size, 2, none⟩) (by first | (simp; done) | (simp; omega) | omega)).trans (by go_simp)
  clear hb3 B2 c2_0_0 c2_0_1 c2_0_2
  go_wp2_with fail
  refine (hC _).mono ?_
  rintro e w4 ⟨rfl, hb4⟩
  have B4 : Below w.heap.size w w4 := by (focus (repeat' (first | assumption | exact Below.refl _ _ | refine Below.alloc ?_ ?_ _ | refine Below.setCell ?_ ?_ _ | refine Below.drew ?_ | refine below_drewN ?_ _ | refine Below.trans ?_ (Below.mono (by assumption) ?_) | refine Below.trans ?_ (Below.mono (BW.below _) ?_) | (simp; done) | (simp; omega) | omega)))
  have n4 : w.heap.size ≤ w4.heap.size := B4.size
  have s4_0 : w.heap.size < w4.heap.size := Nat.lt_of_lt_of_le (by first | (simp; done) | (simp; omega) | omega) hb4.size
  have c4_0_0 : w4.cell? ⟨w.heap.size, 0, none⟩ = some (.int .i64 (0)) := (hb4.cell (p := ⟨w.heap.size, 0, none⟩) (by first | (simp; done) | (simp; omega) | omega)).trans (by go_simp)
  have c4_0_1 : w4.cell? ⟨w.heap.size, 1, none⟩ = some (.int .i64 (wk)) := (hb4.cell (p := ⟨w.heap.size, 1, none⟩) (by first | (simp; done) | (simp; omega) | omega)).trans (by go_simp)
  have c4_0_2 : w4.cell? ⟨w.heap.size, 2, none⟩ = some (.int .i64 (d)) := (hb4.cell (p := ⟨w.heap.size, 2, none⟩) (by first | (simp; done) | (simp; omega) | omega)).trans (by go_simp)
  clear hb4 B3 c3_0_0 c3_0_1 c3_0_2
  go_wp2_with fail
  refine (hF _).mono ?_
  rintro e w5 ⟨rfl, hb5⟩
  have B5 : Below w.heap.size w w5 := by (focus (repeat' (first | assumption | exact Below.refl _ _ | refine Below.alloc ?_ ?_ _ | refine Below.setCell ?_ ?_ _ | refine Below.drew ?_ | refine below_drewN ?_ _ | refine Below.trans ?_ (Below.mono (by assumption) ?_) | refine Below.trans ?_ (Below.mono (BW.below _) ?_) | (simp; done) | (simp; omega) | omega)))
  have n5 : w.heap.size ≤ w5.heap.size := B5.size
  have s5_0 : w.heap.size < w5.heap.size := Nat.lt_of_lt_of_le (by first | (simp; done) | (simp; omega) | omega) hb5.size
  have c5_0_0 : w5.cell? ⟨w.heap.size, 0, none⟩ = some (.int .i64 (0)) := (hb5.cell (p := ⟨w.heap.size, 0, none⟩) (by first | (simp; done) | (simp; omega) | omega)).trans (by go_simp)
  have c5_0_1 : w5.cell? ⟨w.heap.size, 1, none⟩ = some (.int .i64 (wk)) := (hb5.cell (p := ⟨w.heap.size, 1, none⟩) (by first | (simp; done) | (simp; omega) | omega)).trans (by go_simp)
  have c5_0_2 : w5.cell? ⟨w.heap.size, 2, none⟩ = some (.int .i64 (d)) := (hb5.cell (p := ⟨w.heap.size, 2, none⟩) (by first | (simp; done) | (simp; omega) | omega)).trans (by go_simp)
  clear hb5 B4 c4_0_0 c4_0_1 c4_0_2
  go_wp2_with fail
  refine (hDt _).mono ?_
  rintro e w6 ⟨rfl, hb6⟩
  have B6 : Below w.heap.size w w6 := by (focus (repeat' (first | assumption | exact Below.refl _ _ | refine Below.alloc ?_ ?_ _ | refine Below.setCell ?_ ?_ _ | refine Below.drew ?_ | refine below_drewN ?_ _ | refine Below.trans ?_ (Below.mono (by assumption) ?_) | refine Below.trans ?_ (Below.mono (BW.below _) ?_) | (simp; done) | (simp; omega) | omega)))
  have n6 : w.heap.size ≤ w6.heap.size := B6.size
  have s6_0 : w.heap.size < w6.heap.size := Nat.lt_of_lt_of_le (by first | (simp; done) | (simp; omega) | omega) hb6.size
  have c6_0_0 : w6.cell? ⟨w.heap.size, 0, none⟩ = some (.int .i64 (0)) := (hb6.cell (p := ⟨w.heap.size, 0, none⟩) (by first | (simp; done) | (simp; omega) | omega)).trans (by go_simp)
  have c6_0_1 : w6.cell? ⟨w.heap.size, 1, none⟩ = some (.int .i64 (wk)) := (hb6.cell (p := ⟨w.heap.size, 1, none⟩) (by first | (simp; done) | (simp; omega) | omega)).trans (by go_simp)
  have c6_0_2 : w6.cell? ⟨w.heap.size, 2, none⟩ = some (.int .i64 (d)) := (hb6.cell (p := ⟨w.heap.size, 2, none⟩) (by first | (simp; done) | (simp; omega) | omega)).trans (by go_simp)
  clear hb6 B5 c5_0_0 c5_0_1 c5_0_2
  go_wp2_with fail
  have Bx1 : Below w.heap.size w (w6.alloc (.cells #[.int .i64 (Y), .int .i64 (M), .int .i64 (D)] 48)) := by (focus (repeat' (first | assumption | exact Below.refl _ _ | refine Below.alloc ?_ ?_ _ | refine Below.setCell ?_ ?_ _ | refine Below.drew ?_ | refine below_drewN ?_ _ | refine Below.trans ?_ (Below.mono (by assumption) ?_) | refine Below.trans ?_ (Below.mono (BW.below _) ?_) | (simp; done) | (simp; omega) | omega)))
  have nx1 : w.heap.size ≤ (w6.alloc (.cells #[.int .i64 (Y), .int .i64 (M), .int .i64 (D)] 48)).heap.size := Bx1.size
  have sx1_0 : w.heap.size < (w6.alloc (.cells #[.int .i64 (Y), .int .i64 (M), .int .i64 (D)] 48)).heap.size := (by first | (simp; done) | (simp; omega) | omega)
  have cx1_0_0 : (w6.alloc (.cells #[.int .i64 (Y), .int .i64 (M), .int .i64 (D)] 48)).cell? ⟨w.heap.size, 0, none⟩ = some (.int .i64 (0)) := by go_simp
  have cx1_0_1 : (w6.alloc (.cells #[.int .i64 (Y), .int .i64 (M), .int .i64 (D)] 48)).cell? ⟨w.heap.size, 1, none⟩ = some (.int .i64 (wk)) := by go_simp
  have cx1_0_2 : (w6.alloc (.cells #[.int .i64 (Y), .int .i64 (M), .int .i64 (D)] 48)).cell? ⟨w.heap.size, 2, none⟩ = some (.int .i64 (d)) := by go_simp
  have sx1_1 : w6.heap.size < (w6.alloc (.cells #[.int .i64 (Y), .int .i64 (M), .int .i64 (D)] 48)).heap.size := (by first | (simp; done) | (simp; omega) | omega)
  have cx1_1_0 : (w6.alloc (.cells #[.int .i64 (Y), .int .i64 (M), .int .i64 (D)] 48)).cell? ⟨w6.heap.size, 0, none⟩ = some (.int .i64 (Y)) := by go_simp
  have cx1_1_1 : (w6.alloc (.cells #[.int .i64 (Y), .int .i64 (M), .int .i64 (D)] 48)).cell? ⟨w6.heap.size, 1, none⟩ = some (.int .i64 (M)) := by go_simp
  have cx1_1_2 : (w6.alloc (.cells #[.int .i64 (Y), .int .i64 (M), .int .i64 (D)] 48)).cell? ⟨w6.heap.size, 2, none⟩ = some (.int .i64 (D)) := by go_simp
  have fx1_1_0 : (w6.alloc (.cells #[.int .i64 (Y), .int .i64 (M), .int .i64 (D)] 48)).frozen? ⟨w6.heap.size, 0, none⟩ = false := by go_simp
  have fx1_1_1 : (w6.alloc (.cells #[.int .i64 (Y), .int .i64 (M), .int .i64 (D)] 48)).frozen? ⟨w6.heap.size, 1, none⟩ = false := by go_simp
  have fx1_1_2 : (w6.alloc (.cells #[.int .i64 (Y), .int .i64 (M), .int .i64 (D)] 48)).frozen? ⟨w6.heap.size, 2, none⟩ = false := by go_simp
  clear B6 c6_0_0 c6_0_1 c6_0_2
  generalize (w6.alloc (.cells #[.int .i64 (Y), .int .i64 (M), .int .i64 (D)] 48)) = x1 at *
  try dsimp only [List.append]
  refine wp_region_bw (by kernel_rfl) (by kernel_rfl) ?_; (repeat (go_big_quiet_step (fail))); refine wpQuiet_nil ?_; intro _ hw'; obtain ⟨xq, hw''⟩ := hw'; subst hw''
  have Bx2 : Below w.heap.size w xq.val := Bx1.trans (xq.below.mono nx1)
  have nx2 : w.heap.size ≤ xq.val.heap.size := Bx2.size
  have sx2_0 : w6.heap.size < xq.val.heap.size := Nat.lt_of_lt_of_le (by first | (simp; done) | (simp; omega) | omega) xq.below.size
  have cx2_0_0 : xq.val.cell? ⟨w6.heap.size, 0, none⟩ = some (.int .i64 (Y)) := (xq.cell (w6.heap.size) 0 (by first | (simp; done) | (simp; omega) | omega)).trans (by go_simp)
  have fx2_0_0 : xq.val.frozen? ⟨w6.heap.size, 0, none⟩ = false := (xq.frozen (w6.heap.size) 0 (by first | (simp; done) | (simp; omega) | omega)).trans (by go_simp)
  have cx2_0_1 : xq.val.cell? ⟨w6.heap.size, 1, none⟩ = some (.int .i64 (M)) := (xq.cell (w6.heap.size) 1 (by first | (simp; done) | (simp; omega) | omega)).trans (by go_simp)
  have fx2_0_1 : xq.val.frozen? ⟨w6.heap.size, 1, none⟩ = false := (xq.frozen (w6.heap.size) 1 (by first | (simp; done) | (simp; omega) | omega)).trans (by go_simp)
  have cx2_0_2 : xq.val.cell? ⟨w6.heap.size, 2, none⟩ = some (.int .i64 (D)) := (xq.cell (w6.heap.size) 2 (by first | (simp; done) | (simp; omega) | omega)).trans (by go_simp)
  have fx2_0_2 : xq.val.frozen? ⟨w6.heap.size, 2, none⟩ = false := (xq.frozen (w6.heap.size) 2 (by first | (simp; done) | (simp; omega) | omega)).trans (by go_simp)
  clear Bx1 cx1_0_0 cx1_0_1 cx1_0_2 cx1_1_0 cx1_1_1 cx1_1_2 fx1_1_0 fx1_1_1 fx1_1_2
  generalize xq.val = x2 at *
  go_wp2_with fail
  go_ret
  exact ⟨rfl, by (focus (repeat' (first | assumption | exact Below.refl _ _ | refine Below.alloc ?_ ?_ _ | refine Below.setCell ?_ ?_ _ | refine Below.drew ?_ | refine below_drewN ?_ _ | refine Below.trans ?_ (Below.mono (by assumption) ?_) | refine Below.trans ?_ (Below.mono (BW.below _) ?_) | (simp; done) | (simp; omega) | omega)))⟩
set_option maxRecDepth 100000 in
set_option maxHeartbeats 4000000 in
theorem DayruleLies_2 (wk d y m : Int) (ky : I64 y) (h : onFits 2 wk d m = true) (hy : inB y (-39999) 39999 = true) (w : World) : Calls Try.prog 10 #[dat 2 wk d, .int .i64 y, .int .i64 m] w fun e w' => e = .returned (.bool true) ∧ Below w.heap.size w w' := by
  have hD := fun w => dayrule_Days 2 wk d y m ky w
  rw [(rule_y h hy).1, (rule_y h hy).2] at hD
  have hWi := fun w => dayrule_Window 2 wk d m w
  have hC := fun w => civil_Days y m 1 ky w
  have hF := fun w => dayrule_Fits 2 wk d m w
  rw [h] at hF
  rw [(win_y h).2.2] at hWi
  obtain ⟨hr, v1, v2, n0, n1, l0, l1⟩ := rule_base h hy
  rw [v1, v2] at hC
  obtain ⟨c0, c1, c2⟩ := ruleN_bd h hy
  obtain ⟨g1, g2, g3⟩ := rule_lies h hy
  have hDt := fun w => civil_Date (ruleN 2 wk d y m + 7) w
  have g4 : wday (ruleN 2 wk d y m) = wk := by omega
  have hWd := fun w => civil_Weekday (ruleN 2 wk d y m) (I64.sm (by omega)) w
  rw [g4] at hWd
  clear g4
  clear h hy hr v1 v2 l0 l1 g3
  generalize ruleN 2 wk d y m = N at *
  generalize winL 2 wk d m = lo at *
  generalize winH 2 wk d m = hi at *
  generalize numb y m 1 = f at *
  generalize dtY (N + 7) = Y at *
  generalize dtM (N + 7) = M at *
  generalize dtD (N + 7) = D at *
  generalize dtE (N + 7) = E at *
  go_enter Try.func10, Try.ntmps10
  go_wp2_with fail
  refine (day_lives _).mono ?_
  rintro e w1 ⟨rfl, hb1⟩
  have B1 : Below w.heap.size w w1 := by (focus (repeat' (first | assumption | exact Below.refl _ _ | refine Below.alloc ?_ ?_ _ | refine Below.setCell ?_ ?_ _ | refine Below.drew ?_ | refine below_drewN ?_ _ | refine Below.trans ?_ (Below.mono (by assumption) ?_) | refine Below.trans ?_ (Below.mono (BW.below _) ?_) | (simp; done) | (simp; omega) | omega)))
  have n1 : w.heap.size ≤ w1.heap.size := B1.size
  have s1_0 : w.heap.size < w1.heap.size := Nat.lt_of_lt_of_le (by first | (simp; done) | (simp; omega) | omega) hb1.size
  have c1_0_0 : w1.cell? ⟨w.heap.size, 0, none⟩ = some (.int .i64 (2)) := (hb1.cell (p := ⟨w.heap.size, 0, none⟩) (by first | (simp; done) | (simp; omega) | omega)).trans (by go_simp)
  have c1_0_1 : w1.cell? ⟨w.heap.size, 1, none⟩ = some (.int .i64 (wk)) := (hb1.cell (p := ⟨w.heap.size, 1, none⟩) (by first | (simp; done) | (simp; omega) | omega)).trans (by go_simp)
  have c1_0_2 : w1.cell? ⟨w.heap.size, 2, none⟩ = some (.int .i64 (d)) := (hb1.cell (p := ⟨w.heap.size, 2, none⟩) (by first | (simp; done) | (simp; omega) | omega)).trans (by go_simp)
  clear hb1
  go_wp2_with fail
  refine (hD _).mono ?_
  rintro e w2 ⟨rfl, hb2⟩
  have B2 : Below w.heap.size w w2 := by (focus (repeat' (first | assumption | exact Below.refl _ _ | refine Below.alloc ?_ ?_ _ | refine Below.setCell ?_ ?_ _ | refine Below.drew ?_ | refine below_drewN ?_ _ | refine Below.trans ?_ (Below.mono (by assumption) ?_) | refine Below.trans ?_ (Below.mono (BW.below _) ?_) | (simp; done) | (simp; omega) | omega)))
  have n2 : w.heap.size ≤ w2.heap.size := B2.size
  have s2_0 : w.heap.size < w2.heap.size := Nat.lt_of_lt_of_le (by first | (simp; done) | (simp; omega) | omega) hb2.size
  have c2_0_0 : w2.cell? ⟨w.heap.size, 0, none⟩ = some (.int .i64 (2)) := (hb2.cell (p := ⟨w.heap.size, 0, none⟩) (by first | (simp; done) | (simp; omega) | omega)).trans (by go_simp)
  have c2_0_1 : w2.cell? ⟨w.heap.size, 1, none⟩ = some (.int .i64 (wk)) := (hb2.cell (p := ⟨w.heap.size, 1, none⟩) (by first | (simp; done) | (simp; omega) | omega)).trans (by go_simp)
  have c2_0_2 : w2.cell? ⟨w.heap.size, 2, none⟩ = some (.int .i64 (d)) := (hb2.cell (p := ⟨w.heap.size, 2, none⟩) (by first | (simp; done) | (simp; omega) | omega)).trans (by go_simp)
  clear hb2 B1 c1_0_0 c1_0_1 c1_0_2
  go_wp2_with fail
  refine (hWi _).mono ?_
  rintro e w3 ⟨rfl, hb3⟩
  have B3 : Below w.heap.size w w3 := by (focus (repeat' (first | assumption | exact Below.refl _ _ | refine Below.alloc ?_ ?_ _ | refine Below.setCell ?_ ?_ _ | refine Below.drew ?_ | refine below_drewN ?_ _ | refine Below.trans ?_ (Below.mono (by assumption) ?_) | refine Below.trans ?_ (Below.mono (BW.below _) ?_) | (simp; done) | (simp; omega) | omega)))
  have n3 : w.heap.size ≤ w3.heap.size := B3.size
  have s3_0 : w.heap.size < w3.heap.size := Nat.lt_of_lt_of_le (by first | (simp; done) | (simp; omega) | omega) hb3.size
  have c3_0_0 : w3.cell? ⟨w.heap.size, 0, none⟩ = some (.int .i64 (2)) := (hb3.cell (p := ⟨w.heap.size, 0, none⟩) (by first | (simp; done) | (simp; omega) | omega)).trans (by go_simp)
  have c3_0_1 : w3.cell? ⟨w.heap.size, 1, none⟩ = some (.int .i64 (wk)) := (hb3.cell (p := ⟨w.heap.size, 1, none⟩) (by first | (simp; done) | (simp; omega) | omega)).trans (by go_simp)
  have c3_0_2 : w3.cell? ⟨w.heap.size, 2, none⟩ = some (.int .i64 (d)) := (hb3.cell (p := ⟨w.heap.size, 2, none⟩) (by first | (simp; done) | (simp; omega) | omega)).trans (by go_simp)
  clear hb3 B2 c2_0_0 c2_0_1 c2_0_2
  go_wp2_with fail
  refine (hC _).mono ?_
  rintro e w4 ⟨rfl, hb4⟩
  have B4 : Below w.heap.size w w4 := by (focus (repeat' (first | assumption | exact Below.refl _ _ | refine Below.alloc ?_ ?_ _ | refine Below.setCell ?_ ?_ _ | refine Below.drew ?_ | refine below_drewN ?_ _ | refine Below.trans ?_ (Below.mono (by assumption) ?_) | refine Below.trans ?_ (Below.mono (BW.below _) ?_) | (simp; done) | (simp; omega) | omega)))
  have n4 : w.heap.size ≤ w4.heap.size := B4.size
  have s4_0 : w.heap.size < w4.heap.size := Nat.lt_of_lt_of_le (by first | (simp; done) | (simp; omega) | omega) hb4.size
  have c4_0_0 : w4.cell? ⟨w.heap.size, 0, none⟩ = some (.int .i64 (2)) := (hb4.cell (p := ⟨w.heap.size, 0, none⟩) (by first | (simp; done) | (simp; omega) | omega)).trans (by go_simp)
  have c4_0_1 : w4.cell? ⟨w.heap.size, 1, none⟩ = some (.int .i64 (wk)) := (hb4.cell (p := ⟨w.heap.size, 1, none⟩) (by first | (simp; done) | (simp; omega) | omega)).trans (by go_simp)
  have c4_0_2 : w4.cell? ⟨w.heap.size, 2, none⟩ = some (.int .i64 (d)) := (hb4.cell (p := ⟨w.heap.size, 2, none⟩) (by first | (simp; done) | (simp; omega) | omega)).trans (by go_simp)
  clear hb4 B3 c3_0_0 c3_0_1 c3_0_2
  go_wp2_with fail
  refine (hF _).mono ?_
  rintro e w5 ⟨rfl, hb5⟩
  have B5 : Below w.heap.size w w5 := by (focus (repeat' (first | assumption | exact Below.refl _ _ | refine Below.alloc ?_ ?_ _ | refine Below.setCell ?_ ?_ _ | refine Below.drew ?_ | refine below_drewN ?_ _ | refine Below.trans ?_ (Below.mono (by assumption) ?_) | refine Below.trans ?_ (Below.mono (BW.below _) ?_) | (simp; done) | (simp; omega) | omega)))
  have n5 : w.heap.size ≤ w5.heap.size := B5.size
  have s5_0 : w.heap.size < w5.heap.size := Nat.lt_of_lt_of_le (by first | (simp; done) | (simp; omega) | omega) hb5.size
  have c5_0_0 : w5.cell? ⟨w.heap.size, 0, none⟩ = some (.int .i64 (2)) := (hb5.cell (p := ⟨w.heap.size, 0, none⟩) (by first | (simp; done) | (simp; omega) | omega)).trans (by go_simp)
  have c5_0_1 : w5.cell? ⟨w.heap.size, 1, none⟩ = some (.int .i64 (wk)) := (hb5.cell (p := ⟨w.heap.size, 1, none⟩) (by first | (simp; done) | (simp; omega) | omega)).trans (by go_simp)
  have c5_0_2 : w5.cell? ⟨w.heap.size, 2, none⟩ = some (.int .i64 (d)) := (hb5.cell (p := ⟨w.heap.size, 2, none⟩) (by first | (simp; done) | (simp; omega) | omega)).trans (by go_simp)
  clear hb5 B4 c4_0_0 c4_0_1 c4_0_2
  go_wp2_with fail
  refine (hDt _).mono ?_
  rintro e w6 ⟨rfl, hb6⟩
  have B6 : Below w.heap.size w w6 := by (focus (repeat' (first | assumption | exact Below.refl _ _ | refine Below.alloc ?_ ?_ _ | refine Below.setCell ?_ ?_ _ | refine Below.drew ?_ | refine below_drewN ?_ _ | refine Below.trans ?_ (Below.mono (by assumption) ?_) | refine Below.trans ?_ (Below.mono (BW.below _) ?_) | (simp; done) | (simp; omega) | omega)))
  have n6 : w.heap.size ≤ w6.heap.size := B6.size
  have s6_0 : w.heap.size < w6.heap.size := Nat.lt_of_lt_of_le (by first | (simp; done) | (simp; omega) | omega) hb6.size
  have c6_0_0 : w6.cell? ⟨w.heap.size, 0, none⟩ = some (.int .i64 (2)) := (hb6.cell (p := ⟨w.heap.size, 0, none⟩) (by first | (simp; done) | (simp; omega) | omega)).trans (by go_simp)
  have c6_0_1 : w6.cell? ⟨w.heap.size, 1, none⟩ = some (.int .i64 (wk)) := (hb6.cell (p := ⟨w.heap.size, 1, none⟩) (by first | (simp; done) | (simp; omega) | omega)).trans (by go_simp)
  have c6_0_2 : w6.cell? ⟨w.heap.size, 2, none⟩ = some (.int .i64 (d)) := (hb6.cell (p := ⟨w.heap.size, 2, none⟩) (by first | (simp; done) | (simp; omega) | omega)).trans (by go_simp)
  clear hb6 B5 c5_0_0 c5_0_1 c5_0_2
  go_wp2_with fail
  have Bx1 : Below w.heap.size w (w6.alloc (.cells #[.int .i64 (Y), .int .i64 (M), .int .i64 (D)] 48)) := by (focus (repeat' (first | assumption | exact Below.refl _ _ | refine Below.alloc ?_ ?_ _ | refine Below.setCell ?_ ?_ _ | refine Below.drew ?_ | refine below_drewN ?_ _ | refine Below.trans ?_ (Below.mono (by assumption) ?_) | refine Below.trans ?_ (Below.mono (BW.below _) ?_) | (simp; done) | (simp; omega) | omega)))
  have nx1 : w.heap.size ≤ (w6.alloc (.cells #[.int .i64 (Y), .int .i64 (M), .int .i64 (D)] 48)).heap.size := Bx1.size
  have sx1_0 : w.heap.size < (w6.alloc (.cells #[.int .i64 (Y), .int .i64 (M), .int .i64 (D)] 48)).heap.size := (by first | (simp; done) | (simp; omega) | omega)
  have cx1_0_0 : (w6.alloc (.cells #[.int .i64 (Y), .int .i64 (M), .int .i64 (D)] 48)).cell? ⟨w.heap.size, 0, none⟩ = some (.int .i64 (2)) := by go_simp
  have cx1_0_1 : (w6.alloc (.cells #[.int .i64 (Y), .int .i64 (M), .int .i64 (D)] 48)).cell? ⟨w.heap.size, 1, none⟩ = some (.int .i64 (wk)) := by go_simp
  have cx1_0_2 : (w6.alloc (.cells #[.int .i64 (Y), .int .i64 (M), .int .i64 (D)] 48)).cell? ⟨w.heap.size, 2, none⟩ = some (.int .i64 (d)) := by go_simp
  have sx1_1 : w6.heap.size < (w6.alloc (.cells #[.int .i64 (Y), .int .i64 (M), .int .i64 (D)] 48)).heap.size := (by first | (simp; done) | (simp; omega) | omega)
  have cx1_1_0 : (w6.alloc (.cells #[.int .i64 (Y), .int .i64 (M), .int .i64 (D)] 48)).cell? ⟨w6.heap.size, 0, none⟩ = some (.int .i64 (Y)) := by go_simp
  have cx1_1_1 : (w6.alloc (.cells #[.int .i64 (Y), .int .i64 (M), .int .i64 (D)] 48)).cell? ⟨w6.heap.size, 1, none⟩ = some (.int .i64 (M)) := by go_simp
  have cx1_1_2 : (w6.alloc (.cells #[.int .i64 (Y), .int .i64 (M), .int .i64 (D)] 48)).cell? ⟨w6.heap.size, 2, none⟩ = some (.int .i64 (D)) := by go_simp
  have fx1_1_0 : (w6.alloc (.cells #[.int .i64 (Y), .int .i64 (M), .int .i64 (D)] 48)).frozen? ⟨w6.heap.size, 0, none⟩ = false := by go_simp
  have fx1_1_1 : (w6.alloc (.cells #[.int .i64 (Y), .int .i64 (M), .int .i64 (D)] 48)).frozen? ⟨w6.heap.size, 1, none⟩ = false := by go_simp
  have fx1_1_2 : (w6.alloc (.cells #[.int .i64 (Y), .int .i64 (M), .int .i64 (D)] 48)).frozen? ⟨w6.heap.size, 2, none⟩ = false := by go_simp
  clear B6 c6_0_0 c6_0_1 c6_0_2
  generalize (w6.alloc (.cells #[.int .i64 (Y), .int .i64 (M), .int .i64 (D)] 48)) = x1 at *
  try dsimp only [List.append]
  refine wp_region_bw (by kernel_rfl) (by kernel_rfl) ?_; (repeat (go_big_quiet_step ((go_at_call 56; exact bw_call (hWd _))))); refine wpQuiet_nil ?_; intro _ hw'; obtain ⟨xq, hw''⟩ := hw'; subst hw''
  have Bx2 : Below w.heap.size w xq.val := Bx1.trans (xq.below.mono nx1)
  have nx2 : w.heap.size ≤ xq.val.heap.size := Bx2.size
  have sx2_0 : w6.heap.size < xq.val.heap.size := Nat.lt_of_lt_of_le (by first | (simp; done) | (simp; omega) | omega) xq.below.size
  have cx2_0_0 : xq.val.cell? ⟨w6.heap.size, 0, none⟩ = some (.int .i64 (Y)) := (xq.cell (w6.heap.size) 0 (by first | (simp; done) | (simp; omega) | omega)).trans (by go_simp)
  have fx2_0_0 : xq.val.frozen? ⟨w6.heap.size, 0, none⟩ = false := (xq.frozen (w6.heap.size) 0 (by first | (simp; done) | (simp; omega) | omega)).trans (by go_simp)
  have cx2_0_1 : xq.val.cell? ⟨w6.heap.size, 1, none⟩ = some (.int .i64 (M)) := (xq.cell (w6.heap.size) 1 (by first | (simp; done) | (simp; omega) | omega)).trans (by go_simp)
  have fx2_0_1 : xq.val.frozen? ⟨w6.heap.size, 1, none⟩ = false := (xq.frozen (w6.heap.size) 1 (by first | (simp; done) | (simp; omega) | omega)).trans (by go_simp)
  have cx2_0_2 : xq.val.cell? ⟨w6.heap.size, 2, none⟩ = some (.int .i64 (D)) := (xq.cell (w6.heap.size) 2 (by first | (simp; done) | (simp; omega) | omega)).trans (by go_simp)
  have fx2_0_2 : xq.val.frozen? ⟨w6.heap.size, 2, none⟩ = false := (xq.frozen (w6.heap.size) 2 (by first | (simp; done) | (simp; omega) | omega)).trans (by go_simp)
  clear Bx1 cx1_0_0 cx1_0_1 cx1_0_2 cx1_1_0 cx1_1_1 cx1_1_2 fx1_1_0 fx1_1_1 fx1_1_2
  generalize xq.val = x2 at *
  go_wp2_with fail
  go_ret
  exact ⟨rfl, by (focus (repeat' (first | assumption | exact Below.refl _ _ | refine Below.alloc ?_ ?_ _ | refine Below.setCell ?_ ?_ _ | refine Below.drew ?_ | refine below_drewN ?_ _ | refine Below.trans ?_ (Below.mono (by assumption) ?_) | refine Below.trans ?_ (Below.mono (BW.below _) ?_) | (simp; done) | (simp; omega) | omega)))⟩
set_option maxRecDepth 100000 in
set_option maxHeartbeats 4000000 in
theorem DayruleLies_3 (wk d y m : Int) (ky : I64 y) (h : onFits 3 wk d m = true) (hy : inB y (-39999) 39999 = true) (w : World) : Calls Try.prog 10 #[dat 3 wk d, .int .i64 y, .int .i64 m] w fun e w' => e = .returned (.bool true) ∧ Below w.heap.size w w' := by
  have hD := fun w => dayrule_Days 3 wk d y m ky w
  rw [(rule_y h hy).1, (rule_y h hy).2] at hD
  have hWi := fun w => dayrule_Window 3 wk d m w
  have hC := fun w => civil_Days y m 1 ky w
  have hF := fun w => dayrule_Fits 3 wk d m w
  rw [h] at hF
  rw [(win_y h).2.2] at hWi
  obtain ⟨hr, v1, v2, n0, n1, l0, l1⟩ := rule_base h hy
  rw [v1, v2] at hC
  obtain ⟨c0, c1, c2⟩ := ruleN_bd h hy
  obtain ⟨g1, g2, g3⟩ := rule_lies h hy
  have hDt := fun w => civil_Date (ruleN 3 wk d y m + 7) w
  have g4 : wday (ruleN 3 wk d y m) = wk := by omega
  have hWd := fun w => civil_Weekday (ruleN 3 wk d y m) (I64.sm (by omega)) w
  rw [g4] at hWd
  clear g4
  clear h hy hr v1 v2 l0 l1 g3
  generalize ruleN 3 wk d y m = N at *
  generalize winL 3 wk d m = lo at *
  generalize winH 3 wk d m = hi at *
  generalize numb y m 1 = f at *
  generalize dtY (N + 7) = Y at *
  generalize dtM (N + 7) = M at *
  generalize dtD (N + 7) = D at *
  generalize dtE (N + 7) = E at *
  go_enter Try.func10, Try.ntmps10
  go_wp2_with fail
  refine (day_lives _).mono ?_
  rintro e w1 ⟨rfl, hb1⟩
  have B1 : Below w.heap.size w w1 := by (focus (repeat' (first | assumption | exact Below.refl _ _ | refine Below.alloc ?_ ?_ _ | refine Below.setCell ?_ ?_ _ | refine Below.drew ?_ | refine below_drewN ?_ _ | refine Below.trans ?_ (Below.mono (by assumption) ?_) | refine Below.trans ?_ (Below.mono (BW.below _) ?_) | (simp; done) | (simp; omega) | omega)))
  have n1 : w.heap.size ≤ w1.heap.size := B1.size
  have s1_0 : w.heap.size < w1.heap.size := Nat.lt_of_lt_of_le (by first | (simp; done) | (simp; omega) | omega) hb1.size
  have c1_0_0 : w1.cell? ⟨w.heap.size, 0, none⟩ = some (.int .i64 (3)) := (hb1.cell (p := ⟨w.heap.size, 0, none⟩) (by first | (simp; done) | (simp; omega) | omega)).trans (by go_simp)
  have c1_0_1 : w1.cell? ⟨w.heap.size, 1, none⟩ = some (.int .i64 (wk)) := (hb1.cell (p := ⟨w.heap.size, 1, none⟩) (by first | (simp; done) | (simp; omega) | omega)).trans (by go_simp)
  have c1_0_2 : w1.cell? ⟨w.heap.size, 2, none⟩ = some (.int .i64 (d)) := (hb1.cell (p := ⟨w.heap.size, 2, none⟩) (by first | (simp; done) | (simp; omega) | omega)).trans (by go_simp)
  clear hb1
  go_wp2_with fail
  refine (hD _).mono ?_
  rintro e w2 ⟨rfl, hb2⟩
  have B2 : Below w.heap.size w w2 := by (focus (repeat' (first | assumption | exact Below.refl _ _ | refine Below.alloc ?_ ?_ _ | refine Below.setCell ?_ ?_ _ | refine Below.drew ?_ | refine below_drewN ?_ _ | refine Below.trans ?_ (Below.mono (by assumption) ?_) | refine Below.trans ?_ (Below.mono (BW.below _) ?_) | (simp; done) | (simp; omega) | omega)))
  have n2 : w.heap.size ≤ w2.heap.size := B2.size
  have s2_0 : w.heap.size < w2.heap.size := Nat.lt_of_lt_of_le (by first | (simp; done) | (simp; omega) | omega) hb2.size
  have c2_0_0 : w2.cell? ⟨w.heap.size, 0, none⟩ = some (.int .i64 (3)) := (hb2.cell (p := ⟨w.heap.size, 0, none⟩) (by first | (simp; done) | (simp; omega) | omega)).trans (by go_simp)
  have c2_0_1 : w2.cell? ⟨w.heap.size, 1, none⟩ = some (.int .i64 (wk)) := (hb2.cell (p := ⟨w.heap.size, 1, none⟩) (by first | (simp; done) | (simp; omega) | omega)).trans (by go_simp)
  have c2_0_2 : w2.cell? ⟨w.heap.size, 2, none⟩ = some (.int .i64 (d)) := (hb2.cell (p := ⟨w.heap.size, 2, none⟩) (by first | (simp; done) | (simp; omega) | omega)).trans (by go_simp)
  clear hb2 B1 c1_0_0 c1_0_1 c1_0_2
  go_wp2_with fail
  refine (hWi _).mono ?_
  rintro e w3 ⟨rfl, hb3⟩
  have B3 : Below w.heap.size w w3 := by (focus (repeat' (first | assumption | exact Below.refl _ _ | refine Below.alloc ?_ ?_ _ | refine Below.setCell ?_ ?_ _ | refine Below.drew ?_ | refine below_drewN ?_ _ | refine Below.trans ?_ (Below.mono (by assumption) ?_) | refine Below.trans ?_ (Below.mono (BW.below _) ?_) | (simp; done) | (simp; omega) | omega)))
  have n3 : w.heap.size ≤ w3.heap.size := B3.size
  have s3_0 : w.heap.size < w3.heap.size := Nat.lt_of_lt_of_le (by first | (simp; done) | (simp; omega) | omega) hb3.size
  have c3_0_0 : w3.cell? ⟨w.heap.size, 0, none⟩ = some (.int .i64 (3)) := (hb3.cell (p := ⟨w.heap.size, 0, none⟩) (by first | (simp; done) | (simp; omega) | omega)).trans (by go_simp)
  have c3_0_1 : w3.cell? ⟨w.heap.size, 1, none⟩ = some (.int .i64 (wk)) := (hb3.cell (p := ⟨w.heap.size, 1, none⟩) (by first | (simp; done) | (simp; omega) | omega)).trans (by go_simp)
  have c3_0_2 : w3.cell? ⟨w.heap.size, 2, none⟩ = some (.int .i64 (d)) := (hb3.cell (p := ⟨w.heap.size, 2, none⟩) (by first | (simp; done) | (simp; omega) | omega)).trans (by go_simp)
  clear hb3 B2 c2_0_0 c2_0_1 c2_0_2
  go_wp2_with fail
  refine (hC _).mono ?_
  rintro e w4 ⟨rfl, hb4⟩
  have B4 : Below w.heap.size w w4 := by (focus (repeat' (first | assumption | exact Below.refl _ _ | refine Below.alloc ?_ ?_ _ | refine Below.setCell ?_ ?_ _ | refine Below.drew ?_ | refine below_drewN ?_ _ | refine Below.trans ?_ (Below.mono (by assumption) ?_) | refine Below.trans ?_ (Below.mono (BW.below _) ?_) | (simp; done) | (simp; omega) | omega)))
  have n4 : w.heap.size ≤ w4.heap.size := B4.size
  have s4_0 : w.heap.size < w4.heap.size := Nat.lt_of_lt_of_le (by first | (simp; done) | (simp; omega) | omega) hb4.size
  have c4_0_0 : w4.cell? ⟨w.heap.size, 0, none⟩ = some (.int .i64 (3)) := (hb4.cell (p := ⟨w.heap.size, 0, none⟩) (by first | (simp; done) | (simp; omega) | omega)).trans (by go_simp)
  have c4_0_1 : w4.cell? ⟨w.heap.size, 1, none⟩ = some (.int .i64 (wk)) := (hb4.cell (p := ⟨w.heap.size, 1, none⟩) (by first | (simp; done) | (simp; omega) | omega)).trans (by go_simp)
  have c4_0_2 : w4.cell? ⟨w.heap.size, 2, none⟩ = some (.int .i64 (d)) := (hb4.cell (p := ⟨w.heap.size, 2, none⟩) (by first | (simp; done) | (simp; omega) | omega)).trans (by go_simp)
  clear hb4 B3 c3_0_0 c3_0_1 c3_0_2
  go_wp2_with fail
  refine (hF _).mono ?_
  rintro e w5 ⟨rfl, hb5⟩
  have B5 : Below w.heap.size w w5 := by (focus (repeat' (first | assumption | exact Below.refl _ _ | refine Below.alloc ?_ ?_ _ | refine Below.setCell ?_ ?_ _ | refine Below.drew ?_ | refine below_drewN ?_ _ | refine Below.trans ?_ (Below.mono (by assumption) ?_) | refine Below.trans ?_ (Below.mono (BW.below _) ?_) | (simp; done) | (simp; omega) | omega)))
  have n5 : w.heap.size ≤ w5.heap.size := B5.size
  have s5_0 : w.heap.size < w5.heap.size := Nat.lt_of_lt_of_le (by first | (simp; done) | (simp; omega) | omega) hb5.size
  have c5_0_0 : w5.cell? ⟨w.heap.size, 0, none⟩ = some (.int .i64 (3)) := (hb5.cell (p := ⟨w.heap.size, 0, none⟩) (by first | (simp; done) | (simp; omega) | omega)).trans (by go_simp)
  have c5_0_1 : w5.cell? ⟨w.heap.size, 1, none⟩ = some (.int .i64 (wk)) := (hb5.cell (p := ⟨w.heap.size, 1, none⟩) (by first | (simp; done) | (simp; omega) | omega)).trans (by go_simp)
  have c5_0_2 : w5.cell? ⟨w.heap.size, 2, none⟩ = some (.int .i64 (d)) := (hb5.cell (p := ⟨w.heap.size, 2, none⟩) (by first | (simp; done) | (simp; omega) | omega)).trans (by go_simp)
  clear hb5 B4 c4_0_0 c4_0_1 c4_0_2
  go_wp2_with fail
  refine (hDt _).mono ?_
  rintro e w6 ⟨rfl, hb6⟩
  have B6 : Below w.heap.size w w6 := by (focus (repeat' (first | assumption | exact Below.refl _ _ | refine Below.alloc ?_ ?_ _ | refine Below.setCell ?_ ?_ _ | refine Below.drew ?_ | refine below_drewN ?_ _ | refine Below.trans ?_ (Below.mono (by assumption) ?_) | refine Below.trans ?_ (Below.mono (BW.below _) ?_) | (simp; done) | (simp; omega) | omega)))
  have n6 : w.heap.size ≤ w6.heap.size := B6.size
  have s6_0 : w.heap.size < w6.heap.size := Nat.lt_of_lt_of_le (by first | (simp; done) | (simp; omega) | omega) hb6.size
  have c6_0_0 : w6.cell? ⟨w.heap.size, 0, none⟩ = some (.int .i64 (3)) := (hb6.cell (p := ⟨w.heap.size, 0, none⟩) (by first | (simp; done) | (simp; omega) | omega)).trans (by go_simp)
  have c6_0_1 : w6.cell? ⟨w.heap.size, 1, none⟩ = some (.int .i64 (wk)) := (hb6.cell (p := ⟨w.heap.size, 1, none⟩) (by first | (simp; done) | (simp; omega) | omega)).trans (by go_simp)
  have c6_0_2 : w6.cell? ⟨w.heap.size, 2, none⟩ = some (.int .i64 (d)) := (hb6.cell (p := ⟨w.heap.size, 2, none⟩) (by first | (simp; done) | (simp; omega) | omega)).trans (by go_simp)
  clear hb6 B5 c5_0_0 c5_0_1 c5_0_2
  go_wp2_with fail
  have Bx1 : Below w.heap.size w (w6.alloc (.cells #[.int .i64 (Y), .int .i64 (M), .int .i64 (D)] 48)) := by (focus (repeat' (first | assumption | exact Below.refl _ _ | refine Below.alloc ?_ ?_ _ | refine Below.setCell ?_ ?_ _ | refine Below.drew ?_ | refine below_drewN ?_ _ | refine Below.trans ?_ (Below.mono (by assumption) ?_) | refine Below.trans ?_ (Below.mono (BW.below _) ?_) | (simp; done) | (simp; omega) | omega)))
  have nx1 : w.heap.size ≤ (w6.alloc (.cells #[.int .i64 (Y), .int .i64 (M), .int .i64 (D)] 48)).heap.size := Bx1.size
  have sx1_0 : w.heap.size < (w6.alloc (.cells #[.int .i64 (Y), .int .i64 (M), .int .i64 (D)] 48)).heap.size := (by first | (simp; done) | (simp; omega) | omega)
  have cx1_0_0 : (w6.alloc (.cells #[.int .i64 (Y), .int .i64 (M), .int .i64 (D)] 48)).cell? ⟨w.heap.size, 0, none⟩ = some (.int .i64 (3)) := by go_simp
  have cx1_0_1 : (w6.alloc (.cells #[.int .i64 (Y), .int .i64 (M), .int .i64 (D)] 48)).cell? ⟨w.heap.size, 1, none⟩ = some (.int .i64 (wk)) := by go_simp
  have cx1_0_2 : (w6.alloc (.cells #[.int .i64 (Y), .int .i64 (M), .int .i64 (D)] 48)).cell? ⟨w.heap.size, 2, none⟩ = some (.int .i64 (d)) := by go_simp
  have sx1_1 : w6.heap.size < (w6.alloc (.cells #[.int .i64 (Y), .int .i64 (M), .int .i64 (D)] 48)).heap.size := (by first | (simp; done) | (simp; omega) | omega)
  have cx1_1_0 : (w6.alloc (.cells #[.int .i64 (Y), .int .i64 (M), .int .i64 (D)] 48)).cell? ⟨w6.heap.size, 0, none⟩ = some (.int .i64 (Y)) := by go_simp
  have cx1_1_1 : (w6.alloc (.cells #[.int .i64 (Y), .int .i64 (M), .int .i64 (D)] 48)).cell? ⟨w6.heap.size, 1, none⟩ = some (.int .i64 (M)) := by go_simp
  have cx1_1_2 : (w6.alloc (.cells #[.int .i64 (Y), .int .i64 (M), .int .i64 (D)] 48)).cell? ⟨w6.heap.size, 2, none⟩ = some (.int .i64 (D)) := by go_simp
  have fx1_1_0 : (w6.alloc (.cells #[.int .i64 (Y), .int .i64 (M), .int .i64 (D)] 48)).frozen? ⟨w6.heap.size, 0, none⟩ = false := by go_simp
  have fx1_1_1 : (w6.alloc (.cells #[.int .i64 (Y), .int .i64 (M), .int .i64 (D)] 48)).frozen? ⟨w6.heap.size, 1, none⟩ = false := by go_simp
  have fx1_1_2 : (w6.alloc (.cells #[.int .i64 (Y), .int .i64 (M), .int .i64 (D)] 48)).frozen? ⟨w6.heap.size, 2, none⟩ = false := by go_simp
  clear B6 c6_0_0 c6_0_1 c6_0_2
  generalize (w6.alloc (.cells #[.int .i64 (Y), .int .i64 (M), .int .i64 (D)] 48)) = x1 at *
  try dsimp only [List.append]
  refine wp_region_bw (by kernel_rfl) (by kernel_rfl) ?_; (repeat (go_big_quiet_step ((go_at_call 56; exact bw_call (hWd _))))); refine wpQuiet_nil ?_; intro _ hw'; obtain ⟨xq, hw''⟩ := hw'; subst hw''
  have Bx2 : Below w.heap.size w xq.val := Bx1.trans (xq.below.mono nx1)
  have nx2 : w.heap.size ≤ xq.val.heap.size := Bx2.size
  have sx2_0 : w6.heap.size < xq.val.heap.size := Nat.lt_of_lt_of_le (by first | (simp; done) | (simp; omega) | omega) xq.below.size
  have cx2_0_0 : xq.val.cell? ⟨w6.heap.size, 0, none⟩ = some (.int .i64 (Y)) := (xq.cell (w6.heap.size) 0 (by first | (simp; done) | (simp; omega) | omega)).trans (by go_simp)
  have fx2_0_0 : xq.val.frozen? ⟨w6.heap.size, 0, none⟩ = false := (xq.frozen (w6.heap.size) 0 (by first | (simp; done) | (simp; omega) | omega)).trans (by go_simp)
  have cx2_0_1 : xq.val.cell? ⟨w6.heap.size, 1, none⟩ = some (.int .i64 (M)) := (xq.cell (w6.heap.size) 1 (by first | (simp; done) | (simp; omega) | omega)).trans (by go_simp)
  have fx2_0_1 : xq.val.frozen? ⟨w6.heap.size, 1, none⟩ = false := (xq.frozen (w6.heap.size) 1 (by first | (simp; done) | (simp; omega) | omega)).trans (by go_simp)
  have cx2_0_2 : xq.val.cell? ⟨w6.heap.size, 2, none⟩ = some (.int .i64 (D)) := (xq.cell (w6.heap.size) 2 (by first | (simp; done) | (simp; omega) | omega)).trans (by go_simp)
  have fx2_0_2 : xq.val.frozen? ⟨w6.heap.size, 2, none⟩ = false := (xq.frozen (w6.heap.size) 2 (by first | (simp; done) | (simp; omega) | omega)).trans (by go_simp)
  clear Bx1 cx1_0_0 cx1_0_1 cx1_0_2 cx1_1_0 cx1_1_1 cx1_1_2 fx1_1_0 fx1_1_1 fx1_1_2
  generalize xq.val = x2 at *
  go_wp2_with fail
  go_ret
  exact ⟨rfl, by (focus (repeat' (first | assumption | exact Below.refl _ _ | refine Below.alloc ?_ ?_ _ | refine Below.setCell ?_ ?_ _ | refine Below.drew ?_ | refine below_drewN ?_ _ | refine Below.trans ?_ (Below.mono (by assumption) ?_) | refine Below.trans ?_ (Below.mono (BW.below _) ?_) | (simp; done) | (simp; omega) | omega)))⟩
set_option maxRecDepth 100000 in
set_option maxHeartbeats 4000000 in
theorem DayruleLies_1a (wk d y m : Int) (ky : I64 y) (h : onFits 1 wk d m = true) (hy : inB y (-39999) 39999 = true) (hm : (dtM (ruleN 1 wk d y m + 7) == m) = false) (w : World) : Calls Try.prog 10 #[dat 1 wk d, .int .i64 y, .int .i64 m] w fun e w' => e = .returned (.bool true) ∧ Below w.heap.size w w' := by
  have hD := fun w => dayrule_Days 1 wk d y m ky w
  rw [(rule_y h hy).1, (rule_y h hy).2] at hD
  have hWi := fun w => dayrule_Window 1 wk d m w
  have hC := fun w => civil_Days y m 1 ky w
  have hF := fun w => dayrule_Fits 1 wk d m w
  rw [h] at hF
  rw [(win_y h).2.2] at hWi
  obtain ⟨hr, v1, v2, n0, n1, l0, l1⟩ := rule_base h hy
  rw [v1, v2] at hC
  obtain ⟨c0, c1, c2⟩ := ruleN_bd h hy
  obtain ⟨g1, g2, g3⟩ := rule_lies h hy
  have hDt := fun w => civil_Date (ruleN 1 wk d y m + 7) w
  obtain ⟨e1, e2⟩ := rule_last h hy
  rw [e1] at hDt
  clear e1 e2
  have g4 : wday (ruleN 1 wk d y m) = wk := by omega
  have hWd := fun w => civil_Weekday (ruleN 1 wk d y m) (I64.sm (by omega)) w
  rw [g4] at hWd
  clear g4
  clear h hy hr v1 v2 l0 l1 g3
  generalize ruleN 1 wk d y m = N at *
  generalize winL 1 wk d m = lo at *
  generalize winH 1 wk d m = hi at *
  generalize numb y m 1 = f at *
  generalize dtY (N + 7) = Y at *
  generalize dtM (N + 7) = M at *
  generalize dtD (N + 7) = D at *
  generalize dtE (N + 7) = E at *
  go_enter Try.func10, Try.ntmps10
  go_wp2_with fail
  refine (day_lives _).mono ?_
  rintro e w1 ⟨rfl, hb1⟩
  have B1 : Below w.heap.size w w1 := by (focus (repeat' (first | assumption | exact Below.refl _ _ | refine Below.alloc ?_ ?_ _ | refine Below.setCell ?_ ?_ _ | refine Below.drew ?_ | refine below_drewN ?_ _ | refine Below.trans ?_ (Below.mono (by assumption) ?_) | refine Below.trans ?_ (Below.mono (BW.below _) ?_) | (simp; done) | (simp; omega) | omega)))
  have n1 : w.heap.size ≤ w1.heap.size := B1.size
  have s1_0 : w.heap.size < w1.heap.size := Nat.lt_of_lt_of_le (by first | (simp; done) | (simp; omega) | omega) hb1.size
  have c1_0_0 : w1.cell? ⟨w.heap.size, 0, none⟩ = some (.int .i64 (1)) := (hb1.cell (p := ⟨w.heap.size, 0, none⟩) (by first | (simp; done) | (simp; omega) | omega)).trans (by go_simp)
  have c1_0_1 : w1.cell? ⟨w.heap.size, 1, none⟩ = some (.int .i64 (wk)) := (hb1.cell (p := ⟨w.heap.size, 1, none⟩) (by first | (simp; done) | (simp; omega) | omega)).trans (by go_simp)
  have c1_0_2 : w1.cell? ⟨w.heap.size, 2, none⟩ = some (.int .i64 (d)) := (hb1.cell (p := ⟨w.heap.size, 2, none⟩) (by first | (simp; done) | (simp; omega) | omega)).trans (by go_simp)
  clear hb1
  go_wp2_with fail
  refine (hD _).mono ?_
  rintro e w2 ⟨rfl, hb2⟩
  have B2 : Below w.heap.size w w2 := by (focus (repeat' (first | assumption | exact Below.refl _ _ | refine Below.alloc ?_ ?_ _ | refine Below.setCell ?_ ?_ _ | refine Below.drew ?_ | refine below_drewN ?_ _ | refine Below.trans ?_ (Below.mono (by assumption) ?_) | refine Below.trans ?_ (Below.mono (BW.below _) ?_) | (simp; done) | (simp; omega) | omega)))
  have n2 : w.heap.size ≤ w2.heap.size := B2.size
  have s2_0 : w.heap.size < w2.heap.size := Nat.lt_of_lt_of_le (by first | (simp; done) | (simp; omega) | omega) hb2.size
  have c2_0_0 : w2.cell? ⟨w.heap.size, 0, none⟩ = some (.int .i64 (1)) := (hb2.cell (p := ⟨w.heap.size, 0, none⟩) (by first | (simp; done) | (simp; omega) | omega)).trans (by go_simp)
  have c2_0_1 : w2.cell? ⟨w.heap.size, 1, none⟩ = some (.int .i64 (wk)) := (hb2.cell (p := ⟨w.heap.size, 1, none⟩) (by first | (simp; done) | (simp; omega) | omega)).trans (by go_simp)
  have c2_0_2 : w2.cell? ⟨w.heap.size, 2, none⟩ = some (.int .i64 (d)) := (hb2.cell (p := ⟨w.heap.size, 2, none⟩) (by first | (simp; done) | (simp; omega) | omega)).trans (by go_simp)
  clear hb2 B1 c1_0_0 c1_0_1 c1_0_2
  go_wp2_with fail
  refine (hWi _).mono ?_
  rintro e w3 ⟨rfl, hb3⟩
  have B3 : Below w.heap.size w w3 := by (focus (repeat' (first | assumption | exact Below.refl _ _ | refine Below.alloc ?_ ?_ _ | refine Below.setCell ?_ ?_ _ | refine Below.drew ?_ | refine below_drewN ?_ _ | refine Below.trans ?_ (Below.mono (by assumption) ?_) | refine Below.trans ?_ (Below.mono (BW.below _) ?_) | (simp; done) | (simp; omega) | omega)))
  have n3 : w.heap.size ≤ w3.heap.size := B3.size
  have s3_0 : w.heap.size < w3.heap.size := Nat.lt_of_lt_of_le (by first | (simp; done) | (simp; omega) | omega) hb3.size
  have c3_0_0 : w3.cell? ⟨w.heap.size, 0, none⟩ = some (.int .i64 (1)) := (hb3.cell (p := ⟨w.heap.size, 0, none⟩) (by first | (simp; done) | (simp; omega) | omega)).trans (by go_simp)
  have c3_0_1 : w3.cell? ⟨w.heap.size, 1, none⟩ = some (.int .i64 (wk)) := (hb3.cell (p := ⟨w.heap.size, 1, none⟩) (by first | (simp; done) | (simp; omega) | omega)).trans (by go_simp)
  have c3_0_2 : w3.cell? ⟨w.heap.size, 2, none⟩ = some (.int .i64 (d)) := (hb3.cell (p := ⟨w.heap.size, 2, none⟩) (by first | (simp; done) | (simp; omega) | omega)).trans (by go_simp)
  clear hb3 B2 c2_0_0 c2_0_1 c2_0_2
  go_wp2_with fail
  refine (hC _).mono ?_
  rintro e w4 ⟨rfl, hb4⟩
  have B4 : Below w.heap.size w w4 := by (focus (repeat' (first | assumption | exact Below.refl _ _ | refine Below.alloc ?_ ?_ _ | refine Below.setCell ?_ ?_ _ | refine Below.drew ?_ | refine below_drewN ?_ _ | refine Below.trans ?_ (Below.mono (by assumption) ?_) | refine Below.trans ?_ (Below.mono (BW.below _) ?_) | (simp; done) | (simp; omega) | omega)))
  have n4 : w.heap.size ≤ w4.heap.size := B4.size
  have s4_0 : w.heap.size < w4.heap.size := Nat.lt_of_lt_of_le (by first | (simp; done) | (simp; omega) | omega) hb4.size
  have c4_0_0 : w4.cell? ⟨w.heap.size, 0, none⟩ = some (.int .i64 (1)) := (hb4.cell (p := ⟨w.heap.size, 0, none⟩) (by first | (simp; done) | (simp; omega) | omega)).trans (by go_simp)
  have c4_0_1 : w4.cell? ⟨w.heap.size, 1, none⟩ = some (.int .i64 (wk)) := (hb4.cell (p := ⟨w.heap.size, 1, none⟩) (by first | (simp; done) | (simp; omega) | omega)).trans (by go_simp)
  have c4_0_2 : w4.cell? ⟨w.heap.size, 2, none⟩ = some (.int .i64 (d)) := (hb4.cell (p := ⟨w.heap.size, 2, none⟩) (by first | (simp; done) | (simp; omega) | omega)).trans (by go_simp)
  clear hb4 B3 c3_0_0 c3_0_1 c3_0_2
  go_wp2_with fail
  refine (hF _).mono ?_
  rintro e w5 ⟨rfl, hb5⟩
  have B5 : Below w.heap.size w w5 := by (focus (repeat' (first | assumption | exact Below.refl _ _ | refine Below.alloc ?_ ?_ _ | refine Below.setCell ?_ ?_ _ | refine Below.drew ?_ | refine below_drewN ?_ _ | refine Below.trans ?_ (Below.mono (by assumption) ?_) | refine Below.trans ?_ (Below.mono (BW.below _) ?_) | (simp; done) | (simp; omega) | omega)))
  have n5 : w.heap.size ≤ w5.heap.size := B5.size
  have s5_0 : w.heap.size < w5.heap.size := Nat.lt_of_lt_of_le (by first | (simp; done) | (simp; omega) | omega) hb5.size
  have c5_0_0 : w5.cell? ⟨w.heap.size, 0, none⟩ = some (.int .i64 (1)) := (hb5.cell (p := ⟨w.heap.size, 0, none⟩) (by first | (simp; done) | (simp; omega) | omega)).trans (by go_simp)
  have c5_0_1 : w5.cell? ⟨w.heap.size, 1, none⟩ = some (.int .i64 (wk)) := (hb5.cell (p := ⟨w.heap.size, 1, none⟩) (by first | (simp; done) | (simp; omega) | omega)).trans (by go_simp)
  have c5_0_2 : w5.cell? ⟨w.heap.size, 2, none⟩ = some (.int .i64 (d)) := (hb5.cell (p := ⟨w.heap.size, 2, none⟩) (by first | (simp; done) | (simp; omega) | omega)).trans (by go_simp)
  clear hb5 B4 c4_0_0 c4_0_1 c4_0_2
  go_wp2_with fail
  refine (hDt _).mono ?_
  rintro e w6 ⟨rfl, hb6⟩
  have B6 : Below w.heap.size w w6 := by (focus (repeat' (first | assumption | exact Below.refl _ _ | refine Below.alloc ?_ ?_ _ | refine Below.setCell ?_ ?_ _ | refine Below.drew ?_ | refine below_drewN ?_ _ | refine Below.trans ?_ (Below.mono (by assumption) ?_) | refine Below.trans ?_ (Below.mono (BW.below _) ?_) | (simp; done) | (simp; omega) | omega)))
  have n6 : w.heap.size ≤ w6.heap.size := B6.size
  have s6_0 : w.heap.size < w6.heap.size := Nat.lt_of_lt_of_le (by first | (simp; done) | (simp; omega) | omega) hb6.size
  have c6_0_0 : w6.cell? ⟨w.heap.size, 0, none⟩ = some (.int .i64 (1)) := (hb6.cell (p := ⟨w.heap.size, 0, none⟩) (by first | (simp; done) | (simp; omega) | omega)).trans (by go_simp)
  have c6_0_1 : w6.cell? ⟨w.heap.size, 1, none⟩ = some (.int .i64 (wk)) := (hb6.cell (p := ⟨w.heap.size, 1, none⟩) (by first | (simp; done) | (simp; omega) | omega)).trans (by go_simp)
  have c6_0_2 : w6.cell? ⟨w.heap.size, 2, none⟩ = some (.int .i64 (d)) := (hb6.cell (p := ⟨w.heap.size, 2, none⟩) (by first | (simp; done) | (simp; omega) | omega)).trans (by go_simp)
  clear hb6 B5 c5_0_0 c5_0_1 c5_0_2
  go_wp2_with fail
  have Bx1 : Below w.heap.size w (w6.alloc (.cells #[.int .i64 (Y), .int .i64 (M), .int .i64 (D)] 48)) := by (focus (repeat' (first | assumption | exact Below.refl _ _ | refine Below.alloc ?_ ?_ _ | refine Below.setCell ?_ ?_ _ | refine Below.drew ?_ | refine below_drewN ?_ _ | refine Below.trans ?_ (Below.mono (by assumption) ?_) | refine Below.trans ?_ (Below.mono (BW.below _) ?_) | (simp; done) | (simp; omega) | omega)))
  have nx1 : w.heap.size ≤ (w6.alloc (.cells #[.int .i64 (Y), .int .i64 (M), .int .i64 (D)] 48)).heap.size := Bx1.size
  have sx1_0 : w.heap.size < (w6.alloc (.cells #[.int .i64 (Y), .int .i64 (M), .int .i64 (D)] 48)).heap.size := (by first | (simp; done) | (simp; omega) | omega)
  have cx1_0_0 : (w6.alloc (.cells #[.int .i64 (Y), .int .i64 (M), .int .i64 (D)] 48)).cell? ⟨w.heap.size, 0, none⟩ = some (.int .i64 (1)) := by go_simp
  have cx1_0_1 : (w6.alloc (.cells #[.int .i64 (Y), .int .i64 (M), .int .i64 (D)] 48)).cell? ⟨w.heap.size, 1, none⟩ = some (.int .i64 (wk)) := by go_simp
  have cx1_0_2 : (w6.alloc (.cells #[.int .i64 (Y), .int .i64 (M), .int .i64 (D)] 48)).cell? ⟨w.heap.size, 2, none⟩ = some (.int .i64 (d)) := by go_simp
  have sx1_1 : w6.heap.size < (w6.alloc (.cells #[.int .i64 (Y), .int .i64 (M), .int .i64 (D)] 48)).heap.size := (by first | (simp; done) | (simp; omega) | omega)
  have cx1_1_0 : (w6.alloc (.cells #[.int .i64 (Y), .int .i64 (M), .int .i64 (D)] 48)).cell? ⟨w6.heap.size, 0, none⟩ = some (.int .i64 (Y)) := by go_simp
  have cx1_1_1 : (w6.alloc (.cells #[.int .i64 (Y), .int .i64 (M), .int .i64 (D)] 48)).cell? ⟨w6.heap.size, 1, none⟩ = some (.int .i64 (M)) := by go_simp
  have cx1_1_2 : (w6.alloc (.cells #[.int .i64 (Y), .int .i64 (M), .int .i64 (D)] 48)).cell? ⟨w6.heap.size, 2, none⟩ = some (.int .i64 (D)) := by go_simp
  have fx1_1_0 : (w6.alloc (.cells #[.int .i64 (Y), .int .i64 (M), .int .i64 (D)] 48)).frozen? ⟨w6.heap.size, 0, none⟩ = false := by go_simp
  have fx1_1_1 : (w6.alloc (.cells #[.int .i64 (Y), .int .i64 (M), .int .i64 (D)] 48)).frozen? ⟨w6.heap.size, 1, none⟩ = false := by go_simp
  have fx1_1_2 : (w6.alloc (.cells #[.int .i64 (Y), .int .i64 (M), .int .i64 (D)] 48)).frozen? ⟨w6.heap.size, 2, none⟩ = false := by go_simp
  clear B6 c6_0_0 c6_0_1 c6_0_2
  generalize (w6.alloc (.cells #[.int .i64 (Y), .int .i64 (M), .int .i64 (D)] 48)) = x1 at *
  try dsimp only [List.append]
  refine wp_region_bw (by kernel_rfl) (by kernel_rfl) ?_; (repeat (go_big_quiet_step ((go_at_call 56; exact bw_call (hWd _))))); refine wpQuiet_nil ?_; intro _ hw'; obtain ⟨xq, hw''⟩ := hw'; subst hw''
  have Bx2 : Below w.heap.size w xq.val := Bx1.trans (xq.below.mono nx1)
  have nx2 : w.heap.size ≤ xq.val.heap.size := Bx2.size
  have sx2_0 : w6.heap.size < xq.val.heap.size := Nat.lt_of_lt_of_le (by first | (simp; done) | (simp; omega) | omega) xq.below.size
  have cx2_0_0 : xq.val.cell? ⟨w6.heap.size, 0, none⟩ = some (.int .i64 (Y)) := (xq.cell (w6.heap.size) 0 (by first | (simp; done) | (simp; omega) | omega)).trans (by go_simp)
  have fx2_0_0 : xq.val.frozen? ⟨w6.heap.size, 0, none⟩ = false := (xq.frozen (w6.heap.size) 0 (by first | (simp; done) | (simp; omega) | omega)).trans (by go_simp)
  have cx2_0_1 : xq.val.cell? ⟨w6.heap.size, 1, none⟩ = some (.int .i64 (M)) := (xq.cell (w6.heap.size) 1 (by first | (simp; done) | (simp; omega) | omega)).trans (by go_simp)
  have fx2_0_1 : xq.val.frozen? ⟨w6.heap.size, 1, none⟩ = false := (xq.frozen (w6.heap.size) 1 (by first | (simp; done) | (simp; omega) | omega)).trans (by go_simp)
  have cx2_0_2 : xq.val.cell? ⟨w6.heap.size, 2, none⟩ = some (.int .i64 (D)) := (xq.cell (w6.heap.size) 2 (by first | (simp; done) | (simp; omega) | omega)).trans (by go_simp)
  have fx2_0_2 : xq.val.frozen? ⟨w6.heap.size, 2, none⟩ = false := (xq.frozen (w6.heap.size) 2 (by first | (simp; done) | (simp; omega) | omega)).trans (by go_simp)
  clear Bx1 cx1_0_0 cx1_0_1 cx1_0_2 cx1_1_0 cx1_1_1 cx1_1_2 fx1_1_0 fx1_1_1 fx1_1_2
  generalize xq.val = x2 at *
  go_wp2_with fail
  go_ret
  exact ⟨rfl, by (focus (repeat' (first | assumption | exact Below.refl _ _ | refine Below.alloc ?_ ?_ _ | refine Below.setCell ?_ ?_ _ | refine Below.drew ?_ | refine below_drewN ?_ _ | refine Below.trans ?_ (Below.mono (by assumption) ?_) | refine Below.trans ?_ (Below.mono (BW.below _) ?_) | (simp; done) | (simp; omega) | omega)))⟩
set_option maxRecDepth 100000 in
set_option maxHeartbeats 4000000 in
theorem DayruleLies_1b (wk d y m : Int) (ky : I64 y) (h : onFits 1 wk d m = true) (hy : inB y (-39999) 39999 = true) (hm : (dtM (ruleN 1 wk d y m + 7) == m) = true) (hyy : (dtY (ruleN 1 wk d y m + 7) == y) = false) (w : World) : Calls Try.prog 10 #[dat 1 wk d, .int .i64 y, .int .i64 m] w fun e w' => e = .returned (.bool true) ∧ Below w.heap.size w w' := by
  have hD := fun w => dayrule_Days 1 wk d y m ky w
  rw [(rule_y h hy).1, (rule_y h hy).2] at hD
  have hWi := fun w => dayrule_Window 1 wk d m w
  have hC := fun w => civil_Days y m 1 ky w
  have hF := fun w => dayrule_Fits 1 wk d m w
  rw [h] at hF
  rw [(win_y h).2.2] at hWi
  obtain ⟨hr, v1, v2, n0, n1, l0, l1⟩ := rule_base h hy
  rw [v1, v2] at hC
  obtain ⟨c0, c1, c2⟩ := ruleN_bd h hy
  obtain ⟨g1, g2, g3⟩ := rule_lies h hy
  have hDt := fun w => civil_Date (ruleN 1 wk d y m + 7) w
  obtain ⟨e1, e2⟩ := rule_last h hy
  rw [e1] at hDt
  clear e1 e2
  have g4 : wday (ruleN 1 wk d y m) = wk := by omega
  have hWd := fun w => civil_Weekday (ruleN 1 wk d y m) (I64.sm (by omega)) w
  rw [g4] at hWd
  clear g4
  clear h hy hr v1 v2 l0 l1 g3
  generalize ruleN 1 wk d y m = N at *
  generalize winL 1 wk d m = lo at *
  generalize winH 1 wk d m = hi at *
  generalize numb y m 1 = f at *
  generalize dtY (N + 7) = Y at *
  generalize dtM (N + 7) = M at *
  generalize dtD (N + 7) = D at *
  generalize dtE (N + 7) = E at *
  go_enter Try.func10, Try.ntmps10
  go_wp2_with fail
  refine (day_lives _).mono ?_
  rintro e w1 ⟨rfl, hb1⟩
  have B1 : Below w.heap.size w w1 := by (focus (repeat' (first | assumption | exact Below.refl _ _ | refine Below.alloc ?_ ?_ _ | refine Below.setCell ?_ ?_ _ | refine Below.drew ?_ | refine below_drewN ?_ _ | refine Below.trans ?_ (Below.mono (by assumption) ?_) | refine Below.trans ?_ (Below.mono (BW.below _) ?_) | (simp; done) | (simp; omega) | omega)))
  have n1 : w.heap.size ≤ w1.heap.size := B1.size
  have s1_0 : w.heap.size < w1.heap.size := Nat.lt_of_lt_of_le (by first | (simp; done) | (simp; omega) | omega) hb1.size
  have c1_0_0 : w1.cell? ⟨w.heap.size, 0, none⟩ = some (.int .i64 (1)) := (hb1.cell (p := ⟨w.heap.size, 0, none⟩) (by first | (simp; done) | (simp; omega) | omega)).trans (by go_simp)
  have c1_0_1 : w1.cell? ⟨w.heap.size, 1, none⟩ = some (.int .i64 (wk)) := (hb1.cell (p := ⟨w.heap.size, 1, none⟩) (by first | (simp; done) | (simp; omega) | omega)).trans (by go_simp)
  have c1_0_2 : w1.cell? ⟨w.heap.size, 2, none⟩ = some (.int .i64 (d)) := (hb1.cell (p := ⟨w.heap.size, 2, none⟩) (by first | (simp; done) | (simp; omega) | omega)).trans (by go_simp)
  clear hb1
  go_wp2_with fail
  refine (hD _).mono ?_
  rintro e w2 ⟨rfl, hb2⟩
  have B2 : Below w.heap.size w w2 := by (focus (repeat' (first | assumption | exact Below.refl _ _ | refine Below.alloc ?_ ?_ _ | refine Below.setCell ?_ ?_ _ | refine Below.drew ?_ | refine below_drewN ?_ _ | refine Below.trans ?_ (Below.mono (by assumption) ?_) | refine Below.trans ?_ (Below.mono (BW.below _) ?_) | (simp; done) | (simp; omega) | omega)))
  have n2 : w.heap.size ≤ w2.heap.size := B2.size
  have s2_0 : w.heap.size < w2.heap.size := Nat.lt_of_lt_of_le (by first | (simp; done) | (simp; omega) | omega) hb2.size
  have c2_0_0 : w2.cell? ⟨w.heap.size, 0, none⟩ = some (.int .i64 (1)) := (hb2.cell (p := ⟨w.heap.size, 0, none⟩) (by first | (simp; done) | (simp; omega) | omega)).trans (by go_simp)
  have c2_0_1 : w2.cell? ⟨w.heap.size, 1, none⟩ = some (.int .i64 (wk)) := (hb2.cell (p := ⟨w.heap.size, 1, none⟩) (by first | (simp; done) | (simp; omega) | omega)).trans (by go_simp)
  have c2_0_2 : w2.cell? ⟨w.heap.size, 2, none⟩ = some (.int .i64 (d)) := (hb2.cell (p := ⟨w.heap.size, 2, none⟩) (by first | (simp; done) | (simp; omega) | omega)).trans (by go_simp)
  clear hb2 B1 c1_0_0 c1_0_1 c1_0_2
  go_wp2_with fail
  refine (hWi _).mono ?_
  rintro e w3 ⟨rfl, hb3⟩
  have B3 : Below w.heap.size w w3 := by (focus (repeat' (first | assumption | exact Below.refl _ _ | refine Below.alloc ?_ ?_ _ | refine Below.setCell ?_ ?_ _ | refine Below.drew ?_ | refine below_drewN ?_ _ | refine Below.trans ?_ (Below.mono (by assumption) ?_) | refine Below.trans ?_ (Below.mono (BW.below _) ?_) | (simp; done) | (simp; omega) | omega)))
  have n3 : w.heap.size ≤ w3.heap.size := B3.size
  have s3_0 : w.heap.size < w3.heap.size := Nat.lt_of_lt_of_le (by first | (simp; done) | (simp; omega) | omega) hb3.size
  have c3_0_0 : w3.cell? ⟨w.heap.size, 0, none⟩ = some (.int .i64 (1)) := (hb3.cell (p := ⟨w.heap.size, 0, none⟩) (by first | (simp; done) | (simp; omega) | omega)).trans (by go_simp)
  have c3_0_1 : w3.cell? ⟨w.heap.size, 1, none⟩ = some (.int .i64 (wk)) := (hb3.cell (p := ⟨w.heap.size, 1, none⟩) (by first | (simp; done) | (simp; omega) | omega)).trans (by go_simp)
  have c3_0_2 : w3.cell? ⟨w.heap.size, 2, none⟩ = some (.int .i64 (d)) := (hb3.cell (p := ⟨w.heap.size, 2, none⟩) (by first | (simp; done) | (simp; omega) | omega)).trans (by go_simp)
  clear hb3 B2 c2_0_0 c2_0_1 c2_0_2
  go_wp2_with fail
  refine (hC _).mono ?_
  rintro e w4 ⟨rfl, hb4⟩
  have B4 : Below w.heap.size w w4 := by (focus (repeat' (first | assumption | exact Below.refl _ _ | refine Below.alloc ?_ ?_ _ | refine Below.setCell ?_ ?_ _ | refine Below.drew ?_ | refine below_drewN ?_ _ | refine Below.trans ?_ (Below.mono (by assumption) ?_) | refine Below.trans ?_ (Below.mono (BW.below _) ?_) | (simp; done) | (simp; omega) | omega)))
  have n4 : w.heap.size ≤ w4.heap.size := B4.size
  have s4_0 : w.heap.size < w4.heap.size := Nat.lt_of_lt_of_le (by first | (simp; done) | (simp; omega) | omega) hb4.size
  have c4_0_0 : w4.cell? ⟨w.heap.size, 0, none⟩ = some (.int .i64 (1)) := (hb4.cell (p := ⟨w.heap.size, 0, none⟩) (by first | (simp; done) | (simp; omega) | omega)).trans (by go_simp)
  have c4_0_1 : w4.cell? ⟨w.heap.size, 1, none⟩ = some (.int .i64 (wk)) := (hb4.cell (p := ⟨w.heap.size, 1, none⟩) (by first | (simp; done) | (simp; omega) | omega)).trans (by go_simp)
  have c4_0_2 : w4.cell? ⟨w.heap.size, 2, none⟩ = some (.int .i64 (d)) := (hb4.cell (p := ⟨w.heap.size, 2, none⟩) (by first | (simp; done) | (simp; omega) | omega)).trans (by go_simp)
  clear hb4 B3 c3_0_0 c3_0_1 c3_0_2
  go_wp2_with fail
  refine (hF _).mono ?_
  rintro e w5 ⟨rfl, hb5⟩
  have B5 : Below w.heap.size w w5 := by (focus (repeat' (first | assumption | exact Below.refl _ _ | refine Below.alloc ?_ ?_ _ | refine Below.setCell ?_ ?_ _ | refine Below.drew ?_ | refine below_drewN ?_ _ | refine Below.trans ?_ (Below.mono (by assumption) ?_) | refine Below.trans ?_ (Below.mono (BW.below _) ?_) | (simp; done) | (simp; omega) | omega)))
  have n5 : w.heap.size ≤ w5.heap.size := B5.size
  have s5_0 : w.heap.size < w5.heap.size := Nat.lt_of_lt_of_le (by first | (simp; done) | (simp; omega) | omega) hb5.size
  have c5_0_0 : w5.cell? ⟨w.heap.size, 0, none⟩ = some (.int .i64 (1)) := (hb5.cell (p := ⟨w.heap.size, 0, none⟩) (by first | (simp; done) | (simp; omega) | omega)).trans (by go_simp)
  have c5_0_1 : w5.cell? ⟨w.heap.size, 1, none⟩ = some (.int .i64 (wk)) := (hb5.cell (p := ⟨w.heap.size, 1, none⟩) (by first | (simp; done) | (simp; omega) | omega)).trans (by go_simp)
  have c5_0_2 : w5.cell? ⟨w.heap.size, 2, none⟩ = some (.int .i64 (d)) := (hb5.cell (p := ⟨w.heap.size, 2, none⟩) (by first | (simp; done) | (simp; omega) | omega)).trans (by go_simp)
  clear hb5 B4 c4_0_0 c4_0_1 c4_0_2
  go_wp2_with fail
  refine (hDt _).mono ?_
  rintro e w6 ⟨rfl, hb6⟩
  have B6 : Below w.heap.size w w6 := by (focus (repeat' (first | assumption | exact Below.refl _ _ | refine Below.alloc ?_ ?_ _ | refine Below.setCell ?_ ?_ _ | refine Below.drew ?_ | refine below_drewN ?_ _ | refine Below.trans ?_ (Below.mono (by assumption) ?_) | refine Below.trans ?_ (Below.mono (BW.below _) ?_) | (simp; done) | (simp; omega) | omega)))
  have n6 : w.heap.size ≤ w6.heap.size := B6.size
  have s6_0 : w.heap.size < w6.heap.size := Nat.lt_of_lt_of_le (by first | (simp; done) | (simp; omega) | omega) hb6.size
  have c6_0_0 : w6.cell? ⟨w.heap.size, 0, none⟩ = some (.int .i64 (1)) := (hb6.cell (p := ⟨w.heap.size, 0, none⟩) (by first | (simp; done) | (simp; omega) | omega)).trans (by go_simp)
  have c6_0_1 : w6.cell? ⟨w.heap.size, 1, none⟩ = some (.int .i64 (wk)) := (hb6.cell (p := ⟨w.heap.size, 1, none⟩) (by first | (simp; done) | (simp; omega) | omega)).trans (by go_simp)
  have c6_0_2 : w6.cell? ⟨w.heap.size, 2, none⟩ = some (.int .i64 (d)) := (hb6.cell (p := ⟨w.heap.size, 2, none⟩) (by first | (simp; done) | (simp; omega) | omega)).trans (by go_simp)
  clear hb6 B5 c5_0_0 c5_0_1 c5_0_2
  go_wp2_with fail
  have Bx1 : Below w.heap.size w (w6.alloc (.cells #[.int .i64 (Y), .int .i64 (M), .int .i64 (D)] 48)) := by (focus (repeat' (first | assumption | exact Below.refl _ _ | refine Below.alloc ?_ ?_ _ | refine Below.setCell ?_ ?_ _ | refine Below.drew ?_ | refine below_drewN ?_ _ | refine Below.trans ?_ (Below.mono (by assumption) ?_) | refine Below.trans ?_ (Below.mono (BW.below _) ?_) | (simp; done) | (simp; omega) | omega)))
  have nx1 : w.heap.size ≤ (w6.alloc (.cells #[.int .i64 (Y), .int .i64 (M), .int .i64 (D)] 48)).heap.size := Bx1.size
  have sx1_0 : w.heap.size < (w6.alloc (.cells #[.int .i64 (Y), .int .i64 (M), .int .i64 (D)] 48)).heap.size := (by first | (simp; done) | (simp; omega) | omega)
  have cx1_0_0 : (w6.alloc (.cells #[.int .i64 (Y), .int .i64 (M), .int .i64 (D)] 48)).cell? ⟨w.heap.size, 0, none⟩ = some (.int .i64 (1)) := by go_simp
  have cx1_0_1 : (w6.alloc (.cells #[.int .i64 (Y), .int .i64 (M), .int .i64 (D)] 48)).cell? ⟨w.heap.size, 1, none⟩ = some (.int .i64 (wk)) := by go_simp
  have cx1_0_2 : (w6.alloc (.cells #[.int .i64 (Y), .int .i64 (M), .int .i64 (D)] 48)).cell? ⟨w.heap.size, 2, none⟩ = some (.int .i64 (d)) := by go_simp
  have sx1_1 : w6.heap.size < (w6.alloc (.cells #[.int .i64 (Y), .int .i64 (M), .int .i64 (D)] 48)).heap.size := (by first | (simp; done) | (simp; omega) | omega)
  have cx1_1_0 : (w6.alloc (.cells #[.int .i64 (Y), .int .i64 (M), .int .i64 (D)] 48)).cell? ⟨w6.heap.size, 0, none⟩ = some (.int .i64 (Y)) := by go_simp
  have cx1_1_1 : (w6.alloc (.cells #[.int .i64 (Y), .int .i64 (M), .int .i64 (D)] 48)).cell? ⟨w6.heap.size, 1, none⟩ = some (.int .i64 (M)) := by go_simp
  have cx1_1_2 : (w6.alloc (.cells #[.int .i64 (Y), .int .i64 (M), .int .i64 (D)] 48)).cell? ⟨w6.heap.size, 2, none⟩ = some (.int .i64 (D)) := by go_simp
  have fx1_1_0 : (w6.alloc (.cells #[.int .i64 (Y), .int .i64 (M), .int .i64 (D)] 48)).frozen? ⟨w6.heap.size, 0, none⟩ = false := by go_simp
  have fx1_1_1 : (w6.alloc (.cells #[.int .i64 (Y), .int .i64 (M), .int .i64 (D)] 48)).frozen? ⟨w6.heap.size, 1, none⟩ = false := by go_simp
  have fx1_1_2 : (w6.alloc (.cells #[.int .i64 (Y), .int .i64 (M), .int .i64 (D)] 48)).frozen? ⟨w6.heap.size, 2, none⟩ = false := by go_simp
  clear B6 c6_0_0 c6_0_1 c6_0_2
  generalize (w6.alloc (.cells #[.int .i64 (Y), .int .i64 (M), .int .i64 (D)] 48)) = x1 at *
  try dsimp only [List.append]
  refine wp_region_bw (by kernel_rfl) (by kernel_rfl) ?_; (repeat (go_big_quiet_step ((go_at_call 56; exact bw_call (hWd _))))); refine wpQuiet_nil ?_; intro _ hw'; obtain ⟨xq, hw''⟩ := hw'; subst hw''
  have Bx2 : Below w.heap.size w xq.val := Bx1.trans (xq.below.mono nx1)
  have nx2 : w.heap.size ≤ xq.val.heap.size := Bx2.size
  have sx2_0 : w6.heap.size < xq.val.heap.size := Nat.lt_of_lt_of_le (by first | (simp; done) | (simp; omega) | omega) xq.below.size
  have cx2_0_0 : xq.val.cell? ⟨w6.heap.size, 0, none⟩ = some (.int .i64 (Y)) := (xq.cell (w6.heap.size) 0 (by first | (simp; done) | (simp; omega) | omega)).trans (by go_simp)
  have fx2_0_0 : xq.val.frozen? ⟨w6.heap.size, 0, none⟩ = false := (xq.frozen (w6.heap.size) 0 (by first | (simp; done) | (simp; omega) | omega)).trans (by go_simp)
  have cx2_0_1 : xq.val.cell? ⟨w6.heap.size, 1, none⟩ = some (.int .i64 (M)) := (xq.cell (w6.heap.size) 1 (by first | (simp; done) | (simp; omega) | omega)).trans (by go_simp)
  have fx2_0_1 : xq.val.frozen? ⟨w6.heap.size, 1, none⟩ = false := (xq.frozen (w6.heap.size) 1 (by first | (simp; done) | (simp; omega) | omega)).trans (by go_simp)
  have cx2_0_2 : xq.val.cell? ⟨w6.heap.size, 2, none⟩ = some (.int .i64 (D)) := (xq.cell (w6.heap.size) 2 (by first | (simp; done) | (simp; omega) | omega)).trans (by go_simp)
  have fx2_0_2 : xq.val.frozen? ⟨w6.heap.size, 2, none⟩ = false := (xq.frozen (w6.heap.size) 2 (by first | (simp; done) | (simp; omega) | omega)).trans (by go_simp)
  clear Bx1 cx1_0_0 cx1_0_1 cx1_0_2 cx1_1_0 cx1_1_1 cx1_1_2 fx1_1_0 fx1_1_1 fx1_1_2
  generalize xq.val = x2 at *
  go_wp2_with fail
  go_ret
  exact ⟨rfl, by (focus (repeat' (first | assumption | exact Below.refl _ _ | refine Below.alloc ?_ ?_ _ | refine Below.setCell ?_ ?_ _ | refine Below.drew ?_ | refine below_drewN ?_ _ | refine Below.trans ?_ (Below.mono (by assumption) ?_) | refine Below.trans ?_ (Below.mono (BW.below _) ?_) | (simp; done) | (simp; omega) | omega)))⟩
theorem DayruleLies_walk (k wk d y m : Int) (ky : I64 y) (w : World) : Calls Try.prog 10 #[dat k wk d, .int .i64 y, .int .i64 m] w fun e w' => e = .returned (.bool true) ∧ Below w.heap.size w w' := by
  cases h : onFits k wk d m
  · exact DayruleLies_n k wk d y m ky h w
  · cases hy : inB y (-39999) 39999
    · exact DayruleLies_r k wk d y m ky h hy w
    · obtain ⟨_, _, _, _, _, _, _, hk⟩ := fit_kinds h
      rcases hk with rfl | rfl | rfl | rfl
      · have hl := (rule_last h hy).2
        cases hm : (dtM (ruleN 1 wk d y m + 7) == m)
        · exact DayruleLies_1a wk d y m ky h hy hm w
        · exact DayruleLies_1b wk d y m ky h hy hm (by rw [beq_eq_false_iff_ne]; intro hh; exact hl ⟨by simpa using hm, hh⟩) w
      · exact DayruleLies_0 wk d y m ky h hy w
      · exact DayruleLies_2 wk d y m ky h hy w
      · exact DayruleLies_3 wk d y m ky h hy w
end Go.Proofs.Ytblmlglkjmilkaa
