/-
  Contracts of the dates of numbers.
-/
import Derived.Test.YtjddmcecllhlhaaDoorCivC
namespace Go.Proofs.YtjddmcecllhlhaaDoor
open Go.RowKit Cal
attribute [local go_sem] BW.cell BW.frozen
theorem rL_ok (n : Int) : 0 ≤ rY (cR n) ∧ rY (cR n) ≤ 399 ∧ 0 ≤ rL (cR n) ∧ rL (cR n) ≤ 365 ∧ 0 ≤ cM n ∧ cM n ≤ 11 := by
  have hr : 0 ≤ cR n ∧ cR n < 146097 := by unfold cR; omega
  obtain ⟨a, b, c, d, _⟩ := rY_ok (cR n) hr.1 hr.2
  have : cM n = (5 * rL (cR n) + 2) / 153 := rfl
  omega
def mOf (l : Int) : Int := (5 * l + 2) / 153
theorem eY_thm (r : Int) : (r - r / 1460 + r / 36524 - r / 146096) / 365 = rY r := rfl
theorem eL_thm (r : Int) : r - (365 * rY r + rY r / 4 - rY r / 100) = rL r := rfl
theorem eM_thm (l : Int) : (5 * l + 2) / 153 = mOf l := rfl
attribute [local go_sem] eY_thm eL_thm eM_thm
theorem civil_date (n : Int) (h0 : -20000000 ≤ n) (h1 : n ≤ 20000000) (w : World) : Calls Tryd.prog 132 #[.int .i64 n] w fun e w' => e = .returned (dat (dateY n) (dateM n) (dateD n)) ∧ Below w.heap.size w w' := by
  obtain ⟨y0, y1, l0, l1, m0, m1⟩ := rL_ok n
  have hq : cQ n = (n + 719468) / 146097 := rfl
  have hr : cR n = (n + 719468) % 146097 := rfl
  have q0 : -200 ≤ cQ n := by omega
  have q1 : cQ n ≤ 200 := by omega
  have r0 : 0 ≤ cR n := by omega
  have r1 : cR n < 146097 := by omega
  have ky : I64 (n + 719468) := I64.sm (by omega)
  obtain ⟨k0, k1⟩ := march_bd (cM n) (by omega) (by omega)
  have hdiv := fun w => num_Div (n + 719468) 146097 ky (by omega) (by omega) w
  rw [← hq, ← hr] at hdiv
  have fY : dateY n = if mOf (rL (cR n)) + 3 > 12 then cQ n * 400 + rY (cR n) + 1 else cQ n * 400 + rY (cR n) := rfl
  have fM : dateM n = if mOf (rL (cR n)) + 3 > 12 then mOf (rL (cR n)) + 3 - 12 else mOf (rL (cR n)) + 3 := rfl
  have fD : dateD n = rL (cR n) - march (mOf (rL (cR n))) + 1 := rfl
  have fm : cM n = mOf (rL (cR n)) := rfl
  rw [fm] at m0 m1 k0 k1
  rw [fY, fM, fD]
  clear hq hr ky fY fM fD fm
  generalize cQ n = q at *
  generalize cR n = r at *
  by_cases h : mOf (rL r) + 3 > 12
  · rw [if_pos h, if_pos h]
    have h' : 12 < mOf (rL r) + 3 := h
    clear h
    go_enter Tryd.func132, Tryd.ntmps132
    go_wp2_with (first
      | (go_at_call 130; refine (hdiv _).mono ?_; rintro e w1 ⟨rfl, hb⟩; obtain ⟨hc, hf⟩ := bcell hb; have z := hb.size; (try simp at z); have z0 : w.heap.size < w1.heap.size := (by omega))
      | (go_at_call 131; refine (civil_march _ (by omega) (by omega) _).mono ?_; rintro e w' ⟨rfl, rfl⟩))
    refine bodyPost_ret (v := .agg #[_, _, _]) (by simp [results, Tryd.results132, go_sem, *]) rfl ⟨rfl, ?_⟩
    (focus (repeat' (first | exact Below.refl _ _ | refine Below.alloc ?_ ?_ _ | refine Below.setCell ?_ ?_ _ | refine Below.drew ?_ | refine below_drewN ?_ _ | refine Below.trans ?_ (Below.mono (by assumption) ?_) | refine Below.trans ?_ (Below.mono (BW.below _) ?_) | (simp; done) | (simp; omega) | omega)))
  · rw [if_neg h, if_neg h]
    have h' : mOf (rL r) + 3 ≤ 12 := by omega
    clear h
    go_enter Tryd.func132, Tryd.ntmps132
    go_wp2_with (first
      | (go_at_call 130; refine (hdiv _).mono ?_; rintro e w1 ⟨rfl, hb⟩; obtain ⟨hc, hf⟩ := bcell hb; have z := hb.size; (try simp at z); have z0 : w.heap.size < w1.heap.size := (by omega))
      | (go_at_call 131; refine (civil_march _ (by omega) (by omega) _).mono ?_; rintro e w' ⟨rfl, rfl⟩))
    refine bodyPost_ret (v := .agg #[_, _, _]) (by simp [results, Tryd.results132, go_sem, *]) rfl ⟨rfl, ?_⟩
    (focus (repeat' (first | exact Below.refl _ _ | refine Below.alloc ?_ ?_ _ | refine Below.setCell ?_ ?_ _ | refine Below.drew ?_ | refine below_drewN ?_ _ | refine Below.trans ?_ (Below.mono (by assumption) ?_) | refine Below.trans ?_ (Below.mono (BW.below _) ?_) | (simp; done) | (simp; omega) | omega)))

/-- The date of a number, and the error: none beyond 40000 years. -/
def dtOk (n : Int) : Bool := decide (-16000000 ≤ n ∧ n ≤ 16000000 ∧ -40000 ≤ dateY n ∧ dateY n ≤ 40000)
def dtY (n : Int) : Int := if dtOk n = true then dateY n else 0
def dtM (n : Int) : Int := if dtOk n = true then dateM n else 0
def dtD (n : Int) : Int := if dtOk n = true then dateD n else 0
def dtE (n : Int) : Int := if dtOk n = true then 0 else 1
theorem dt_y {n : Int} (h : dtOk n = true) : dtY n = dateY n ∧ dtM n = dateM n ∧ dtD n = dateD n ∧ dtE n = 0 := by simp [dtY, dtM, dtD, dtE, h]
theorem dt_n {n : Int} (h : dtOk n = false) : dtY n = 0 ∧ dtM n = 0 ∧ dtD n = 0 ∧ dtE n = 1 := by simp [dtY, dtM, dtD, dtE, h]
theorem date_yb (n : Int) (h : -16000000 ≤ n) (h' : n ≤ 16000000) : -50000 ≤ dateY n ∧ dateY n ≤ 50000 := by
  have := rL_ok n
  have hq : cQ n = (n + 719468) / 146097 := rfl
  have hY : dateY n = if cM n + 3 > 12 then cQ n * 400 + rY (cR n) + 1 else cQ n * 400 + rY (cR n) := rfl
  rw [hY]; split <;> omega
theorem date_right (n : Int) : rightB (dateY n) (dateM n) (dateD n) = decide (-40000 ≤ dateY n ∧ dateY n ≤ 40000) := by
  obtain ⟨a, b, c, d, _⟩ := date_ok n
  rw [Bool.eq_iff_iff, right_iff, decide_eq_true_eq]
  omega
theorem civil_Date (n : Int) (w : World) : Calls Tryd.prog 124 #[.int .i64 n] w fun e w' => e = .returned (.tuple #[dat (dtY n) (dtM n) (dtD n), .int .i64 (dtE n)]) ∧ Below w.heap.size w w' := by
  by_cases h0 : -16000000 ≤ n
  · by_cases h1 : n ≤ 16000000
    · have hy := date_yb n h0 h1
      have hr := fun w => civil_Right (dateY n) (dateM n) (dateD n) (I64.sm (by omega)) w
      have hd := date_right n
      by_cases h2 : -40000 ≤ dateY n ∧ dateY n ≤ 40000
      · obtain ⟨e1, e2, e3, e4⟩ := dt_y (n := n) (by simp [dtOk, h0, h1, h2])
        rw [e1, e2, e3, e4]
        rw [decide_eq_true h2] at hd
        rw [hd] at hr
        clear e1 e2 e3 e4 hd h2 hy
        go_enter Tryd.func124, Tryd.ntmps124
        go_wp2_with (first
          | (go_at_call 132; refine (civil_date _ (by omega) (by omega) _).mono ?_; rintro e w1 ⟨rfl, hb⟩; obtain ⟨hc, hf⟩ := bcell hb; have z := hb.size; (try simp at z); have z0 : w.heap.size < w1.heap.size := (by omega); have d0 : w1.cell? ⟨w.heap.size, 0, none⟩ = some (.int .i64 0) := (hb.cell (p := ⟨w.heap.size, 0, none⟩) (by first | (simp; done) | (simp; omega) | omega)).trans (by go_simp); have g0 : w1.frozen? ⟨w.heap.size, 0, none⟩ = false := (hb.frozen (p := ⟨w.heap.size, 0, none⟩) (by first | (simp; done) | (simp; omega) | omega)).trans (by go_simp); have d1 : w1.cell? ⟨w.heap.size, 1, none⟩ = some (.int .i64 0) := (hb.cell (p := ⟨w.heap.size, 1, none⟩) (by first | (simp; done) | (simp; omega) | omega)).trans (by go_simp); have g1 : w1.frozen? ⟨w.heap.size, 1, none⟩ = false := (hb.frozen (p := ⟨w.heap.size, 1, none⟩) (by first | (simp; done) | (simp; omega) | omega)).trans (by go_simp); have d2 : w1.cell? ⟨w.heap.size, 2, none⟩ = some (.int .i64 0) := (hb.cell (p := ⟨w.heap.size, 2, none⟩) (by first | (simp; done) | (simp; omega) | omega)).trans (by go_simp); have g2 : w1.frozen? ⟨w.heap.size, 2, none⟩ = false := (hb.frozen (p := ⟨w.heap.size, 2, none⟩) (by first | (simp; done) | (simp; omega) | omega)).trans (by go_simp))
          | (go_at_call 120; refine (hr _).mono ?_; rintro e w2 ⟨rfl, hb⟩; obtain ⟨hc, hf⟩ := bcell hb; have z := hb.size; (try simp at z); have z0 : w.heap.size < w2.heap.size := (by omega); have z1 : w1.heap.size < w2.heap.size := (by omega); have d0 : w2.cell? ⟨w.heap.size, 0, none⟩ = some (.int .i64 0) := (hb.cell (p := ⟨w.heap.size, 0, none⟩) (by first | (simp; done) | (simp; omega) | omega)).trans (by go_simp); have g0 : w2.frozen? ⟨w.heap.size, 0, none⟩ = false := (hb.frozen (p := ⟨w.heap.size, 0, none⟩) (by first | (simp; done) | (simp; omega) | omega)).trans (by go_simp); have d1 : w2.cell? ⟨w.heap.size, 1, none⟩ = some (.int .i64 0) := (hb.cell (p := ⟨w.heap.size, 1, none⟩) (by first | (simp; done) | (simp; omega) | omega)).trans (by go_simp); have g1 : w2.frozen? ⟨w.heap.size, 1, none⟩ = false := (hb.frozen (p := ⟨w.heap.size, 1, none⟩) (by first | (simp; done) | (simp; omega) | omega)).trans (by go_simp); have d2 : w2.cell? ⟨w.heap.size, 2, none⟩ = some (.int .i64 0) := (hb.cell (p := ⟨w.heap.size, 2, none⟩) (by first | (simp; done) | (simp; omega) | omega)).trans (by go_simp); have g2 : w2.frozen? ⟨w.heap.size, 2, none⟩ = false := (hb.frozen (p := ⟨w.heap.size, 2, none⟩) (by first | (simp; done) | (simp; omega) | omega)).trans (by go_simp)))
        refine bodyPost_ret (v := .tuple #[dat _ _ _, .int .i64 _]) (by simp [results, Tryd.results124, go_sem, *]) rfl ⟨rfl, ?_⟩
        (focus (repeat' (first | exact Below.refl _ _ | refine Below.alloc ?_ ?_ _ | refine Below.setCell ?_ ?_ _ | refine Below.drew ?_ | refine below_drewN ?_ _ | refine Below.trans ?_ (Below.mono (by assumption) ?_) | refine Below.trans ?_ (Below.mono (BW.below _) ?_) | (simp; done) | (simp; omega) | omega)))
      · obtain ⟨e1, e2, e3, e4⟩ := dt_n (n := n) (by simp only [dtOk, decide_eq_false_iff_not]; omega)
        rw [e1, e2, e3, e4]
        rw [decide_eq_false h2] at hd
        rw [hd] at hr
        clear e1 e2 e3 e4 hd h2 hy
        go_enter Tryd.func124, Tryd.ntmps124
        go_wp2_with (first
          | (go_at_call 132; refine (civil_date _ (by omega) (by omega) _).mono ?_; rintro e w1 ⟨rfl, hb⟩; obtain ⟨hc, hf⟩ := bcell hb; have z := hb.size; (try simp at z); have z0 : w.heap.size < w1.heap.size := (by omega); have d0 : w1.cell? ⟨w.heap.size, 0, none⟩ = some (.int .i64 0) := (hb.cell (p := ⟨w.heap.size, 0, none⟩) (by first | (simp; done) | (simp; omega) | omega)).trans (by go_simp); have g0 : w1.frozen? ⟨w.heap.size, 0, none⟩ = false := (hb.frozen (p := ⟨w.heap.size, 0, none⟩) (by first | (simp; done) | (simp; omega) | omega)).trans (by go_simp); have d1 : w1.cell? ⟨w.heap.size, 1, none⟩ = some (.int .i64 0) := (hb.cell (p := ⟨w.heap.size, 1, none⟩) (by first | (simp; done) | (simp; omega) | omega)).trans (by go_simp); have g1 : w1.frozen? ⟨w.heap.size, 1, none⟩ = false := (hb.frozen (p := ⟨w.heap.size, 1, none⟩) (by first | (simp; done) | (simp; omega) | omega)).trans (by go_simp); have d2 : w1.cell? ⟨w.heap.size, 2, none⟩ = some (.int .i64 0) := (hb.cell (p := ⟨w.heap.size, 2, none⟩) (by first | (simp; done) | (simp; omega) | omega)).trans (by go_simp); have g2 : w1.frozen? ⟨w.heap.size, 2, none⟩ = false := (hb.frozen (p := ⟨w.heap.size, 2, none⟩) (by first | (simp; done) | (simp; omega) | omega)).trans (by go_simp))
          | (go_at_call 120; refine (hr _).mono ?_; rintro e w2 ⟨rfl, hb⟩; obtain ⟨hc, hf⟩ := bcell hb; have z := hb.size; (try simp at z); have z0 : w.heap.size < w2.heap.size := (by omega); have z1 : w1.heap.size < w2.heap.size := (by omega); have d0 : w2.cell? ⟨w.heap.size, 0, none⟩ = some (.int .i64 0) := (hb.cell (p := ⟨w.heap.size, 0, none⟩) (by first | (simp; done) | (simp; omega) | omega)).trans (by go_simp); have g0 : w2.frozen? ⟨w.heap.size, 0, none⟩ = false := (hb.frozen (p := ⟨w.heap.size, 0, none⟩) (by first | (simp; done) | (simp; omega) | omega)).trans (by go_simp); have d1 : w2.cell? ⟨w.heap.size, 1, none⟩ = some (.int .i64 0) := (hb.cell (p := ⟨w.heap.size, 1, none⟩) (by first | (simp; done) | (simp; omega) | omega)).trans (by go_simp); have g1 : w2.frozen? ⟨w.heap.size, 1, none⟩ = false := (hb.frozen (p := ⟨w.heap.size, 1, none⟩) (by first | (simp; done) | (simp; omega) | omega)).trans (by go_simp); have d2 : w2.cell? ⟨w.heap.size, 2, none⟩ = some (.int .i64 0) := (hb.cell (p := ⟨w.heap.size, 2, none⟩) (by first | (simp; done) | (simp; omega) | omega)).trans (by go_simp); have g2 : w2.frozen? ⟨w.heap.size, 2, none⟩ = false := (hb.frozen (p := ⟨w.heap.size, 2, none⟩) (by first | (simp; done) | (simp; omega) | omega)).trans (by go_simp)))
        refine bodyPost_ret (v := .tuple #[dat _ _ _, .int .i64 _]) (by simp [results, Tryd.results124, go_sem, *]) rfl ⟨rfl, ?_⟩
        (focus (repeat' (first | exact Below.refl _ _ | refine Below.alloc ?_ ?_ _ | refine Below.setCell ?_ ?_ _ | refine Below.drew ?_ | refine below_drewN ?_ _ | refine Below.trans ?_ (Below.mono (by assumption) ?_) | refine Below.trans ?_ (Below.mono (BW.below _) ?_) | (simp; done) | (simp; omega) | omega)))
    · obtain ⟨e1, e2, e3, e4⟩ := dt_n (n := n) (by simp [dtOk, h1])
      rw [e1, e2, e3, e4]
      clear e1 e2 e3 e4
      have h1' : 16000000 < n := by omega
      go_enter Tryd.func124, Tryd.ntmps124
      go_wp2
      refine bodyPost_ret (v := .tuple #[dat _ _ _, .int .i64 _]) (by simp [results, Tryd.results124, go_sem, *]) rfl ⟨rfl, ?_⟩
      (focus (repeat' (first | exact Below.refl _ _ | refine Below.alloc ?_ ?_ _ | refine Below.setCell ?_ ?_ _ | refine Below.drew ?_ | refine below_drewN ?_ _ | refine Below.trans ?_ (Below.mono (by assumption) ?_) | refine Below.trans ?_ (Below.mono (BW.below _) ?_) | (simp; done) | (simp; omega) | omega)))
  · obtain ⟨e1, e2, e3, e4⟩ := dt_n (n := n) (by simp [dtOk, h0])
    rw [e1, e2, e3, e4]
    clear e1 e2 e3 e4
    have h0' : n < -16000000 := by omega
    go_enter Tryd.func124, Tryd.ntmps124
    go_wp2
    refine bodyPost_ret (v := .tuple #[dat _ _ _, .int .i64 _]) (by simp [results, Tryd.results124, go_sem, *]) rfl ⟨rfl, ?_⟩
    (focus (repeat' (first | exact Below.refl _ _ | refine Below.alloc ?_ ?_ _ | refine Below.setCell ?_ ?_ _ | refine Below.drew ?_ | refine below_drewN ?_ _ | refine Below.trans ?_ (Below.mono (by assumption) ?_) | refine Below.trans ?_ (Below.mono (BW.below _) ?_) | (simp; done) | (simp; omega) | omega)))

/-! ### the reference -/
end Go.Proofs.YtjddmcecllhlhaaDoor
