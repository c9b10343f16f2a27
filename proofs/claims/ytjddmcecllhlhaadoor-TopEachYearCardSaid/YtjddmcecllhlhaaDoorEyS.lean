/-
  The stamp of a second (for a seat without the signs of stamps).
-/
import Derived.Test.YtjddmcecllhlhaaDoorStmA
namespace Go.Proofs.YtjddmcecllhlhaaDoor
open Go.RowKit Go.Lib Cal
attribute [local go_sem] BW.cell BW.frozen
theorem stamp_Split (t : Int) (kt : I64 t) (w : World) : Calls Tryd.prog 123 #[.int .i64 t] w fun e w' => e = .returned (.tuple #[.int .i64 (t / 86400), .int .i64 (t % 86400)]) ∧ Below w.heap.size w w' := by
  have hD := fun w => num_Div t 86400 kt (by omega) (by omega) w
  generalize t / 86400 = q at *
  generalize t % 86400 = r at *
  go_enter Tryd.func123, Tryd.ntmps123
  go_wp2_with (go_at_call 130; refine (hD _).mono ?_; rintro e w1 ⟨rfl, hb⟩; obtain ⟨hc, hf⟩ := bcell hb; have z := hb.size; (try simp at z))
  go_ret2
  exact ⟨rfl, by (focus (repeat' (first | exact Below.refl _ _ | refine Below.alloc ?_ ?_ _ | refine Below.setCell ?_ ?_ _ | refine Below.drew ?_ | refine below_drewN ?_ _ | refine Below.trans ?_ (Below.mono (by assumption) ?_) | refine Below.trans ?_ (Below.mono (BW.below _) ?_) | (simp; done) | (simp; omega) | omega)))⟩
set_option maxHeartbeats 2000000 in
theorem stamp_Of (t : Int) (kt : I64 t) (hd : dtOk (t / 86400) = true) (w : World) : Calls Tryd.prog 103 #[.int .i64 t] w fun e w' => e = .returned (.tuple #[stp (dateY (t / 86400)) (dateM (t / 86400)) (dateD (t / 86400)) (t % 86400 / 3600) (t % 86400 % 3600 / 60) (t % 86400 % 60), .int .i64 0]) ∧ Below w.heap.size w w' := by
  have hS := fun w => stamp_Split t kt w
  have hD := fun w => civil_Date (t / 86400) w
  obtain ⟨e1, e2, e3, e4⟩ := dt_y hd
  rw [e1, e2, e3, e4] at hD
  clear e1 e2 e3 e4 hd
  have r0 : 0 ≤ t % 86400 := by omega
  have r1 : t % 86400 ≤ 86399 := by omega
  generalize dateY (t / 86400) = y at *
  generalize dateM (t / 86400) = m at *
  generalize dateD (t / 86400) = d at *
  generalize t / 86400 = q at *
  generalize t % 86400 = r at *
  have a0 : 0 ≤ r / 3600 := by omega
  have a1 : r / 3600 ≤ 23 := by omega
  have b0 : 0 ≤ r % 3600 := by omega
  have b1 : r % 3600 ≤ 3599 := by omega
  have c0 : 0 ≤ r % 3600 / 60 := by omega
  have c1 : r % 3600 / 60 ≤ 59 := by omega
  have d0 : 0 ≤ r % 60 := by omega
  have d1 : r % 60 ≤ 59 := by omega
  go_enter Tryd.func103, Tryd.ntmps103
  go_wp2_with (first
    | (go_at_call 123; refine (hS _).mono ?_; rintro e w1 ⟨rfl, hb⟩; obtain ⟨hc, hf⟩ := bcell hb; have z := hb.size; (try simp at z); have z0 : w.heap.size < w1.heap.size := (by omega); have d0 : w1.cell? ⟨w.heap.size, 0, none⟩ = some (.int .i64 0) := (hb.cell (p := ⟨w.heap.size, 0, none⟩) (by first | (simp; done) | (simp; omega) | omega)).trans (by go_simp); have g0 : w1.frozen? ⟨w.heap.size, 0, none⟩ = false := (hb.frozen (p := ⟨w.heap.size, 0, none⟩) (by first | (simp; done) | (simp; omega) | omega)).trans (by go_simp); have d1 : w1.cell? ⟨w.heap.size, 1, none⟩ = some (.int .i64 0) := (hb.cell (p := ⟨w.heap.size, 1, none⟩) (by first | (simp; done) | (simp; omega) | omega)).trans (by go_simp); have g1 : w1.frozen? ⟨w.heap.size, 1, none⟩ = false := (hb.frozen (p := ⟨w.heap.size, 1, none⟩) (by first | (simp; done) | (simp; omega) | omega)).trans (by go_simp); have d2 : w1.cell? ⟨w.heap.size, 2, none⟩ = some (.int .i64 0) := (hb.cell (p := ⟨w.heap.size, 2, none⟩) (by first | (simp; done) | (simp; omega) | omega)).trans (by go_simp); have g2 : w1.frozen? ⟨w.heap.size, 2, none⟩ = false := (hb.frozen (p := ⟨w.heap.size, 2, none⟩) (by first | (simp; done) | (simp; omega) | omega)).trans (by go_simp); have d3 : w1.cell? ⟨w.heap.size, 3, none⟩ = some (.int .i64 0) := (hb.cell (p := ⟨w.heap.size, 3, none⟩) (by first | (simp; done) | (simp; omega) | omega)).trans (by go_simp); have g3 : w1.frozen? ⟨w.heap.size, 3, none⟩ = false := (hb.frozen (p := ⟨w.heap.size, 3, none⟩) (by first | (simp; done) | (simp; omega) | omega)).trans (by go_simp); have d4 : w1.cell? ⟨w.heap.size, 4, none⟩ = some (.int .i64 0) := (hb.cell (p := ⟨w.heap.size, 4, none⟩) (by first | (simp; done) | (simp; omega) | omega)).trans (by go_simp); have g4 : w1.frozen? ⟨w.heap.size, 4, none⟩ = false := (hb.frozen (p := ⟨w.heap.size, 4, none⟩) (by first | (simp; done) | (simp; omega) | omega)).trans (by go_simp); have d5 : w1.cell? ⟨w.heap.size, 5, none⟩ = some (.int .i64 0) := (hb.cell (p := ⟨w.heap.size, 5, none⟩) (by first | (simp; done) | (simp; omega) | omega)).trans (by go_simp); have g5 : w1.frozen? ⟨w.heap.size, 5, none⟩ = false := (hb.frozen (p := ⟨w.heap.size, 5, none⟩) (by first | (simp; done) | (simp; omega) | omega)).trans (by go_simp))
    | (go_at_call 124; refine (hD _).mono ?_; rintro e w2 ⟨rfl, hb⟩; obtain ⟨hc, hf⟩ := bcell hb; have z := hb.size; (try simp at z); have z0 : w.heap.size < w2.heap.size := (by omega); have d0 : w2.cell? ⟨w.heap.size, 0, none⟩ = some (.int .i64 0) := (hb.cell (p := ⟨w.heap.size, 0, none⟩) (by first | (simp; done) | (simp; omega) | omega)).trans (by go_simp); have g0 : w2.frozen? ⟨w.heap.size, 0, none⟩ = false := (hb.frozen (p := ⟨w.heap.size, 0, none⟩) (by first | (simp; done) | (simp; omega) | omega)).trans (by go_simp); have d1 : w2.cell? ⟨w.heap.size, 1, none⟩ = some (.int .i64 0) := (hb.cell (p := ⟨w.heap.size, 1, none⟩) (by first | (simp; done) | (simp; omega) | omega)).trans (by go_simp); have g1 : w2.frozen? ⟨w.heap.size, 1, none⟩ = false := (hb.frozen (p := ⟨w.heap.size, 1, none⟩) (by first | (simp; done) | (simp; omega) | omega)).trans (by go_simp); have d2 : w2.cell? ⟨w.heap.size, 2, none⟩ = some (.int .i64 0) := (hb.cell (p := ⟨w.heap.size, 2, none⟩) (by first | (simp; done) | (simp; omega) | omega)).trans (by go_simp); have g2 : w2.frozen? ⟨w.heap.size, 2, none⟩ = false := (hb.frozen (p := ⟨w.heap.size, 2, none⟩) (by first | (simp; done) | (simp; omega) | omega)).trans (by go_simp); have d3 : w2.cell? ⟨w.heap.size, 3, none⟩ = some (.int .i64 0) := (hb.cell (p := ⟨w.heap.size, 3, none⟩) (by first | (simp; done) | (simp; omega) | omega)).trans (by go_simp); have g3 : w2.frozen? ⟨w.heap.size, 3, none⟩ = false := (hb.frozen (p := ⟨w.heap.size, 3, none⟩) (by first | (simp; done) | (simp; omega) | omega)).trans (by go_simp); have d4 : w2.cell? ⟨w.heap.size, 4, none⟩ = some (.int .i64 0) := (hb.cell (p := ⟨w.heap.size, 4, none⟩) (by first | (simp; done) | (simp; omega) | omega)).trans (by go_simp); have g4 : w2.frozen? ⟨w.heap.size, 4, none⟩ = false := (hb.frozen (p := ⟨w.heap.size, 4, none⟩) (by first | (simp; done) | (simp; omega) | omega)).trans (by go_simp); have d5 : w2.cell? ⟨w.heap.size, 5, none⟩ = some (.int .i64 0) := (hb.cell (p := ⟨w.heap.size, 5, none⟩) (by first | (simp; done) | (simp; omega) | omega)).trans (by go_simp); have g5 : w2.frozen? ⟨w.heap.size, 5, none⟩ = false := (hb.frozen (p := ⟨w.heap.size, 5, none⟩) (by first | (simp; done) | (simp; omega) | omega)).trans (by go_simp)))
  clear hS hD hc hf a0 a1 b0 b1 c0 c1 r0 r1 kt
  generalize r / 3600 = A at *
  generalize r % 3600 / 60 = B at *
  generalize r % 60 = C at *
  refine bodyPost_ret (v := .tuple #[stp y m d A B C, .int .i64 0]) (by simp [results, Tryd.results103, go_sem, *]) rfl ⟨rfl, ?_⟩
  have HB1 : Below w.heap.size w w2 := Below.trans (Below.trans ((Below.refl _ _).alloc (Nat.le_refl _) _) (Below.mono (by assumption) (by simp))) (hb.mono (by omega))
  refine Below.alloc ?_ (by simp; omega) _
  exact ((((((HB1.setCell (p := ⟨w.heap.size, 0, none⟩) (Nat.le_refl _) _).setCell (p := ⟨w.heap.size, 1, none⟩) (Nat.le_refl _) _).setCell (p := ⟨w.heap.size, 2, none⟩) (Nat.le_refl _) _).setCell (p := ⟨w.heap.size, 3, none⟩) (Nat.le_refl _) _).setCell (p := ⟨w.heap.size, 4, none⟩) (Nat.le_refl _) _).setCell (p := ⟨w.heap.size, 5, none⟩) (Nat.le_refl _) _)
end Go.Proofs.YtjddmcecllhlhaaDoor
