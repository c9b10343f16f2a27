/-
  noontidelaw05.DayruleWeek: the walk.
-/
import Derived.Test.YtblmlglkjmilkaaDayV
import Derived.Test.YtblmlglkjmilkaaDayX
namespace Go.Proofs.Ytblmlglkjmilkaa
open Go.RowKit Cal
attribute [local go_sem] BW.cell BW.frozen
set_option maxRecDepth 100000 in
set_option maxHeartbeats 4000000 in
theorem DayruleWeek_n (wk d y m : Int) (ky : I64 y) (hn : ¬ (0 ≤ wk ∧ wk ≤ 6 ∧ 1 ≤ d ∧ d ≤ 22 ∧ 1 ≤ m ∧ m ≤ 12 ∧ -39999 ≤ y ∧ y ≤ 39999)) (w : World) : Calls Try.prog 11 #[.int .i64 wk, .int .i64 d, .int .i64 y, .int .i64 m] w fun e w' => e = .returned (.bool true) ∧ Below w.heap.size w w' := by
  have HN := Lib.hid hn
  clear hn
  go_enter Try.func11, Try.ntmps11
  go_wp2_with fail
  refine (day_lives _).mono ?_
  rintro e w1 ⟨rfl, hb1⟩
  have B1 : Below w.heap.size w w1 := by (focus (repeat' (first | assumption | exact Below.refl _ _ | refine Below.alloc ?_ ?_ _ | refine Below.setCell ?_ ?_ _ | refine Below.drew ?_ | refine below_drewN ?_ _ | refine Below.trans ?_ (Below.mono (by assumption) ?_) | refine Below.trans ?_ (Below.mono (BW.below _) ?_) | (simp; done) | (simp; omega) | omega)))
  have n1 : w.heap.size ≤ w1.heap.size := B1.size
  clear hb1
  go_wp2_with fail
  all_goals (first | (exfalso; have := HN.out; omega) | (go_ret; exact ⟨rfl, by (focus (repeat' (first | assumption | exact Below.refl _ _ | refine Below.alloc ?_ ?_ _ | refine Below.setCell ?_ ?_ _ | refine Below.drew ?_ | refine below_drewN ?_ _ | refine Below.trans ?_ (Below.mono (by assumption) ?_) | refine Below.trans ?_ (Below.mono (BW.below _) ?_) | (simp; done) | (simp; omega) | omega)))⟩))
set_option maxRecDepth 100000 in
set_option maxHeartbeats 4000000 in
theorem DayruleWeek_y (wk d y m : Int) (ky : I64 y) (hk : 0 ≤ wk ∧ wk ≤ 6) (hd : 1 ≤ d ∧ d ≤ 22) (hm : 1 ≤ m ∧ m ≤ 12) (hy : -39999 ≤ y ∧ y ≤ 39999) (w : World) : Calls Try.prog 11 #[.int .i64 wk, .int .i64 d, .int .i64 y, .int .i64 m] w fun e w' => e = .returned (.bool true) ∧ Below w.heap.size w w' := by
  obtain ⟨D, g0, g1, g2, g3, g4, g5, g6, g7, g8, g9, g10, g11⟩ := week_day hk hd hm hy
  have hA := fun w => dayrule_Days 2 wk d y m ky w
  have hB := fun w => dayrule_Days 3 wk (d + 6) y m ky w
  have hC := fun w => dayrule_Days 2 wk D y m ky w
  have hDt := fun w => civil_Date (numb y m D) w
  rw [g2, g5] at hA
  rw [g3, g6] at hB
  rw [g4, g7] at hC
  rw [g8, g9, g10, g11] at hDt
  clear g2 g3 g4 g5 g6 g7 g8 g9 g10 g11
  generalize numb y m D = N at *
  obtain ⟨k0, k1⟩ := hk
  obtain ⟨d0, d1⟩ := hd
  obtain ⟨m0, m1⟩ := hm
  obtain ⟨y0, y1⟩ := hy
  go_enter Try.func11, Try.ntmps11
  go_wp2_with fail
  refine (day_lives _).mono ?_
  rintro e w1 ⟨rfl, hb1⟩
  have B1 : Below w.heap.size w w1 := by (focus (repeat' (first | assumption | exact Below.refl _ _ | refine Below.alloc ?_ ?_ _ | refine Below.setCell ?_ ?_ _ | refine Below.drew ?_ | refine below_drewN ?_ _ | refine Below.trans ?_ (Below.mono (by assumption) ?_) | refine Below.trans ?_ (Below.mono (BW.below _) ?_) | (simp; done) | (simp; omega) | omega)))
  have n1 : w.heap.size ≤ w1.heap.size := B1.size
  clear hb1
  go_wp2_with fail
  refine (hA _).mono ?_
  rintro e w2 ⟨rfl, hb2⟩
  have B2 : Below w.heap.size w w2 := by (focus (repeat' (first | assumption | exact Below.refl _ _ | refine Below.alloc ?_ ?_ _ | refine Below.setCell ?_ ?_ _ | refine Below.drew ?_ | refine below_drewN ?_ _ | refine Below.trans ?_ (Below.mono (by assumption) ?_) | refine Below.trans ?_ (Below.mono (BW.below _) ?_) | (simp; done) | (simp; omega) | omega)))
  have n2 : w.heap.size ≤ w2.heap.size := B2.size
  clear hb2 B1 n1
  go_wp2_with fail
  refine (hB _).mono ?_
  rintro e w3 ⟨rfl, hb3⟩
  have B3 : Below w.heap.size w w3 := by (focus (repeat' (first | assumption | exact Below.refl _ _ | refine Below.alloc ?_ ?_ _ | refine Below.setCell ?_ ?_ _ | refine Below.drew ?_ | refine below_drewN ?_ _ | refine Below.trans ?_ (Below.mono (by assumption) ?_) | refine Below.trans ?_ (Below.mono (BW.below _) ?_) | (simp; done) | (simp; omega) | omega)))
  have n3 : w.heap.size ≤ w3.heap.size := B3.size
  clear hb3 B2 n2
  go_wp2_with fail
  refine (hDt _).mono ?_
  rintro e w4 ⟨rfl, hb4⟩
  have B4 : Below w.heap.size w w4 := by (focus (repeat' (first | assumption | exact Below.refl _ _ | refine Below.alloc ?_ ?_ _ | refine Below.setCell ?_ ?_ _ | refine Below.drew ?_ | refine below_drewN ?_ _ | refine Below.trans ?_ (Below.mono (by assumption) ?_) | refine Below.trans ?_ (Below.mono (BW.below _) ?_) | (simp; done) | (simp; omega) | omega)))
  have n4 : w.heap.size ≤ w4.heap.size := B4.size
  clear hb4 B3 n3
  go_wp2_with fail
  refine (hC _).mono ?_
  rintro e w5 ⟨rfl, hb5⟩
  have B5 : Below w.heap.size w w5 := by (focus (repeat' (first | assumption | exact Below.refl _ _ | refine Below.alloc ?_ ?_ _ | refine Below.setCell ?_ ?_ _ | refine Below.drew ?_ | refine below_drewN ?_ _ | refine Below.trans ?_ (Below.mono (by assumption) ?_) | refine Below.trans ?_ (Below.mono (BW.below _) ?_) | (simp; done) | (simp; omega) | omega)))
  have n5 : w.heap.size ≤ w5.heap.size := B5.size
  have s5_0 : w4.heap.size < w5.heap.size := Nat.lt_of_lt_of_le (by first | (simp; done) | (simp; omega) | omega) hb5.size
  have c5_0_0 : w5.cell? ⟨w4.heap.size, 0, none⟩ = some (.int .i64 (y)) := (hb5.cell (p := ⟨w4.heap.size, 0, none⟩) (by first | (simp; done) | (simp; omega) | omega)).trans (by go_simp)
  have c5_0_1 : w5.cell? ⟨w4.heap.size, 1, none⟩ = some (.int .i64 (m)) := (hb5.cell (p := ⟨w4.heap.size, 1, none⟩) (by first | (simp; done) | (simp; omega) | omega)).trans (by go_simp)
  have c5_0_2 : w5.cell? ⟨w4.heap.size, 2, none⟩ = some (.int .i64 (D)) := (hb5.cell (p := ⟨w4.heap.size, 2, none⟩) (by first | (simp; done) | (simp; omega) | omega)).trans (by go_simp)
  clear hb5 B4 n4
  go_wp2_with fail
  go_ret
  exact ⟨rfl, by (focus (repeat' (first | assumption | exact Below.refl _ _ | refine Below.alloc ?_ ?_ _ | refine Below.setCell ?_ ?_ _ | refine Below.drew ?_ | refine below_drewN ?_ _ | refine Below.trans ?_ (Below.mono (by assumption) ?_) | refine Below.trans ?_ (Below.mono (BW.below _) ?_) | (simp; done) | (simp; omega) | omega)))⟩
theorem DayruleWeek_walk (wk d y m : Int) (ky : I64 y) (w : World) : Calls Try.prog 11 #[.int .i64 wk, .int .i64 d, .int .i64 y, .int .i64 m] w fun e w' => e = .returned (.bool true) ∧ Below w.heap.size w w' := by
  by_cases h : 0 ≤ wk ∧ wk ≤ 6 ∧ 1 ≤ d ∧ d ≤ 22 ∧ 1 ≤ m ∧ m ≤ 12 ∧ -39999 ≤ y ∧ y ≤ 39999
  · obtain ⟨a, b, c, e, f, g, i, j⟩ := h
    exact DayruleWeek_y wk d y m ky ⟨a, b⟩ ⟨c, e⟩ ⟨f, g⟩ ⟨i, j⟩ w
  · exact DayruleWeek_n wk d y m ky h w
end Go.Proofs.Ytblmlglkjmilkaa
