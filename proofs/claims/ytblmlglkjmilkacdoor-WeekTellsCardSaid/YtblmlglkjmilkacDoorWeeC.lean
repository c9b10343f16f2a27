/-
  Contracts of the days by their weeks: the program's, whole.
-/
import Derived.Test.YtblmlglkjmilkacDoorWeeB
import Derived.Test.YtblmlglkjmilkacDoorTail
namespace Go.Proofs.YtblmlglkjmilkacDoor
open Go.RowKit Cal
attribute [local go_sem] BW.cell BW.frozen

theorem wk_cases (y k d : Int) : (∃ (_ : 1 ≤ k) (_ : k ≤ weeks y) (_ : 1 ≤ d) (_ : d ≤ 7), wkB y k d = true) ∨ (∃ (_ : decide (1 ≤ k) = false), wkB y k d = false) ∨
    (∃ (_ : 1 ≤ k) (_ : decide (k ≤ weeks y) = false), wkB y k d = false) ∨ (∃ (_ : 1 ≤ k) (_ : k ≤ weeks y) (_ : decide (1 ≤ d) = false), wkB y k d = false) ∨
    (∃ (_ : 1 ≤ k) (_ : k ≤ weeks y) (_ : 1 ≤ d) (_ : decide (d ≤ 7) = false), wkB y k d = false) := by
  by_cases h1 : 1 ≤ k
  · by_cases h2 : k ≤ weeks y
    · by_cases h3 : 1 ≤ d
      · by_cases h4 : d ≤ 7
        · exact .inl ⟨h1, h2, h3, h4, by simp [wkB, h1, h2, h3, h4]⟩
        · exact .inr (.inr (.inr (.inr ⟨h1, h2, h3, decide_eq_false h4, by simp [wkB, h4]⟩)))
      · exact .inr (.inr (.inr (.inl ⟨h1, h2, decide_eq_false h3, by simp [wkB, h3]⟩)))
    · exact .inr (.inr (.inl ⟨h1, decide_eq_false h2, by simp [wkB, h2]⟩))
  · exact .inr (.inl ⟨decide_eq_false h1, by simp [wkB, h1]⟩)
theorem week_Right (y k d : Int) (w : World) : Calls Tryd.prog 17 #[dat y k d] w fun e w' => e = .returned (.bool (wkB y k d)) ∧ Below w.heap.size w w' := by
  have hW := fun w => week_Weeks y w
  rcases wk_cases y k d with ⟨h1, h2, h3, h4, e⟩ | ⟨h1, e⟩ | ⟨h1, h2, e⟩ | ⟨h1, h2, h3, e⟩ | ⟨h1, h2, h3, h4, e⟩
  all_goals
    rw [e]
    clear e
    generalize weeks y = n at *
    go_enter Tryd.func17, Tryd.ntmps17
    go_wp2_with (fail)
    refine wp_region_bw (by kernel_rfl) (by kernel_rfl) ?_; (repeat (go_big_quiet_step ((go_at_call 15; exact bw_call (hW _))))); refine wpQuiet_nil ?_; intro _ hw'; obtain ⟨xq, hw''⟩ := hw'; subst hw''
    go_wp2_with (fail)
    go_ret
    exact ⟨rfl, by (focus (repeat' (first | exact Below.refl _ _ | refine Below.alloc ?_ ?_ _ | refine Below.setCell ?_ ?_ _ | refine Below.drew ?_ | refine below_drewN ?_ _ | refine Below.trans ?_ (Below.mono (by assumption) ?_) | refine Below.trans ?_ (Below.mono (BW.below _) ?_) | (simp; done) | (simp; omega) | omega)))⟩

/-- The week of a day, and the error. -/
def woOk (y m d : Int) : Bool := rightB y m d && decide (-39999 ≤ wkY (numb y m d) ∧ wkY (numb y m d) ≤ 39999)
def woY (y m d : Int) : Int := if woOk y m d = true then wkY (numb y m d) else 0
def woW (y m d : Int) : Int := if woOk y m d = true then wkW (numb y m d) else 0
def woD (y m d : Int) : Int := if woOk y m d = true then wkD (numb y m d) else 0
def woE (y m d : Int) : Int := if woOk y m d = true then 0 else 1
theorem wo_y {y m d : Int} (h : woOk y m d = true) : woY y m d = wkY (numb y m d) ∧ woW y m d = wkW (numb y m d) ∧ woD y m d = wkD (numb y m d) ∧ woE y m d = 0 := by simp [woY, woW, woD, woE, h]
theorem wo_n {y m d : Int} (h : woOk y m d = false) : woY y m d = 0 ∧ woW y m d = 0 ∧ woD y m d = 0 ∧ woE y m d = 1 := by simp [woY, woW, woD, woE, h]
theorem wk_right (n : Int) : wkB (wkY n) (wkW n) (wkD n) = decide (-39999 ≤ wkY n ∧ wkY n ≤ 39999) := by
  obtain ⟨h1, h2, _, h3, h4, _⟩ := wk_week n
  rw [Bool.eq_iff_iff]
  unfold wkB weeks
  simp only [decide_eq_true_eq]
  constructor
  · rintro ⟨_, b, _⟩
    split at b <;> omega
  · intro h
    rw [if_pos h]
    omega
theorem held_set {w w0 : World} (h : (∀ b o, b < w.heap.size → w0.cell? ⟨b, o, none⟩ = w.cell? ⟨b, o, none⟩) ∧ Below w.heap.size w w0) (b o : Nat) (v : Value) (hb : w.heap.size ≤ b) :
    (∀ b' o', b' < w.heap.size → (w0.setCell ⟨b, o, none⟩ v).cell? ⟨b', o', none⟩ = w.cell? ⟨b', o', none⟩) ∧ Below w.heap.size w (w0.setCell ⟨b, o, none⟩ v) :=
  have hB := h.2.setCell (p := ⟨b, o, none⟩) hb v
  ⟨fun b' o' hlt => hB.cell (p := ⟨b', o', none⟩) hlt, hB⟩
theorem dtOk_year (n : Int) : dtOk n = true ↔ (-40000 ≤ dateY n ∧ dateY n ≤ 40000) := by
  have h0 := year_le n (-40000)
  have h1 := year_le n 40001
  rw [A0_eq] at h0
  rw [A1_eq] at h1
  rw [dt_iff]
  omega
set_option maxRecDepth 100000 in
set_option maxHeartbeats 4000000 in
theorem week_Of (y m d : Int) (ky : I64 y) (w : World) : Calls Tryd.prog 11 #[dat y m d] w fun e w' => e = .returned (.tuple #[dat (woY y m d) (woW y m d) (woD y m d), .int .i64 (woE y m d)]) ∧ Below w.heap.size w w' := by
  have hD := fun w => civil_Days y m d ky w
  rcases day_cases y m d with ⟨h, e1, e2, b⟩ | ⟨h, e1, e2⟩
  · rw [e1, e2] at hD
    have nb := numb_bd y m d (by omega)
    have mb := mon_bd (numb y m d)
    have hM := fun w => week_monday (numb y m d) (by omega) (by omega) w
    have hR := wk_right (numb y m d)
    have hw := wk_week (numb y m d)
    have hT := fun w => civil_Date (mon (numb y m d) + 3) w
    have eY : wkY (numb y m d) = dateY (mon (numb y m d) + 3) := rfl
    have eD : wkD (numb y m d) = numb y m d - mon (numb y m d) + 1 := rfl
    have eW : wkW (numb y m d) = (mon (numb y m d) - wfst (wkY (numb y m d))) / 7 + 1 := rfl
    clear e1 e2 b
    cases hd : dtOk (mon (numb y m d) + 3)
    · obtain ⟨e1, e2, e3, e4⟩ := dt_n hd
      rw [e1, e2, e3, e4] at hT
      have no : woOk y m d = false := by
        have hy := dtOk_year (mon (numb y m d) + 3)
        rw [hd] at hy
        unfold woOk
        simp only [h, Bool.true_and, decide_eq_false_iff_not]
        rw [eY]
        intro hh
        exact absurd (hy.2 (by omega)) (by decide)
      obtain ⟨f1, f2, f3, f4⟩ := wo_n no
      rw [f1, f2, f3, f4]
      clear f1 f2 f3 f4 e1 e2 e3 e4 eY eD eW hw hR no hd h
      generalize mon (numb y m d) = M at *
      generalize numb y m d = n at *
      go_enter Tryd.func11, Tryd.ntmps11
      go_wp2_with (first
        | (go_at_call 22; refine (hD _).mono ?_; rintro e w1 ⟨rfl, hb⟩; obtain ⟨hc, hf⟩ := bcell hb; have z := hb.size; (try simp at z); have z0 : w.heap.size < w1.heap.size := (by omega); have z1 : w.heap.size + 1 < w1.heap.size := (by omega); have d0 : w1.cell? ⟨w.heap.size + 1, 0, none⟩ = some (.int .i64 0) := (hb.cell (p := ⟨w.heap.size + 1, 0, none⟩) (by first | (simp; done) | (simp; omega) | omega)).trans (by go_simp); have g0 : w1.frozen? ⟨w.heap.size + 1, 0, none⟩ = false := (hb.frozen (p := ⟨w.heap.size + 1, 0, none⟩) (by first | (simp; done) | (simp; omega) | omega)).trans (by go_simp); have d1 : w1.cell? ⟨w.heap.size + 1, 1, none⟩ = some (.int .i64 0) := (hb.cell (p := ⟨w.heap.size + 1, 1, none⟩) (by first | (simp; done) | (simp; omega) | omega)).trans (by go_simp); have g1 : w1.frozen? ⟨w.heap.size + 1, 1, none⟩ = false := (hb.frozen (p := ⟨w.heap.size + 1, 1, none⟩) (by first | (simp; done) | (simp; omega) | omega)).trans (by go_simp); have d2 : w1.cell? ⟨w.heap.size + 1, 2, none⟩ = some (.int .i64 0) := (hb.cell (p := ⟨w.heap.size + 1, 2, none⟩) (by first | (simp; done) | (simp; omega) | omega)).trans (by go_simp); have g2 : w1.frozen? ⟨w.heap.size + 1, 2, none⟩ = false := (hb.frozen (p := ⟨w.heap.size + 1, 2, none⟩) (by first | (simp; done) | (simp; omega) | omega)).trans (by go_simp))
        | (go_at_call 45; refine (hM _).mono ?_; rintro e w2 ⟨rfl, hb⟩; obtain ⟨hc, hf⟩ := bcell hb; have z := hb.size; (try simp at z); have z0 : w.heap.size < w2.heap.size := (by omega); have z1 : w.heap.size + 1 < w2.heap.size := (by omega); have d0 : w2.cell? ⟨w.heap.size + 1, 0, none⟩ = some (.int .i64 0) := (hb.cell (p := ⟨w.heap.size + 1, 0, none⟩) (by first | (simp; done) | (simp; omega) | omega)).trans (by go_simp); have g0 : w2.frozen? ⟨w.heap.size + 1, 0, none⟩ = false := (hb.frozen (p := ⟨w.heap.size + 1, 0, none⟩) (by first | (simp; done) | (simp; omega) | omega)).trans (by go_simp); have d1 : w2.cell? ⟨w.heap.size + 1, 1, none⟩ = some (.int .i64 0) := (hb.cell (p := ⟨w.heap.size + 1, 1, none⟩) (by first | (simp; done) | (simp; omega) | omega)).trans (by go_simp); have g1 : w2.frozen? ⟨w.heap.size + 1, 1, none⟩ = false := (hb.frozen (p := ⟨w.heap.size + 1, 1, none⟩) (by first | (simp; done) | (simp; omega) | omega)).trans (by go_simp); have d2 : w2.cell? ⟨w.heap.size + 1, 2, none⟩ = some (.int .i64 0) := (hb.cell (p := ⟨w.heap.size + 1, 2, none⟩) (by first | (simp; done) | (simp; omega) | omega)).trans (by go_simp); have g2 : w2.frozen? ⟨w.heap.size + 1, 2, none⟩ = false := (hb.frozen (p := ⟨w.heap.size + 1, 2, none⟩) (by first | (simp; done) | (simp; omega) | omega)).trans (by go_simp))
        | (go_at_call 46; refine (hT _).mono ?_; rintro e w3 ⟨rfl, hb⟩; obtain ⟨hc, hf⟩ := bcell hb; have z := hb.size; (try simp at z); have z0 : w.heap.size < w3.heap.size := (by omega); have z1 : w.heap.size + 1 < w3.heap.size := (by omega); have d0 : w3.cell? ⟨w.heap.size + 1, 0, none⟩ = some (.int .i64 0) := (hb.cell (p := ⟨w.heap.size + 1, 0, none⟩) (by first | (simp; done) | (simp; omega) | omega)).trans (by go_simp); have g0 : w3.frozen? ⟨w.heap.size + 1, 0, none⟩ = false := (hb.frozen (p := ⟨w.heap.size + 1, 0, none⟩) (by first | (simp; done) | (simp; omega) | omega)).trans (by go_simp); have d1 : w3.cell? ⟨w.heap.size + 1, 1, none⟩ = some (.int .i64 0) := (hb.cell (p := ⟨w.heap.size + 1, 1, none⟩) (by first | (simp; done) | (simp; omega) | omega)).trans (by go_simp); have g1 : w3.frozen? ⟨w.heap.size + 1, 1, none⟩ = false := (hb.frozen (p := ⟨w.heap.size + 1, 1, none⟩) (by first | (simp; done) | (simp; omega) | omega)).trans (by go_simp); have d2 : w3.cell? ⟨w.heap.size + 1, 2, none⟩ = some (.int .i64 0) := (hb.cell (p := ⟨w.heap.size + 1, 2, none⟩) (by first | (simp; done) | (simp; omega) | omega)).trans (by go_simp); have g2 : w3.frozen? ⟨w.heap.size + 1, 2, none⟩ = false := (hb.frozen (p := ⟨w.heap.size + 1, 2, none⟩) (by first | (simp; done) | (simp; omega) | omega)).trans (by go_simp)))
      refine bodyPost_ret (v := .tuple #[dat _ _ _, .int .i64 _]) (by simp [results, Tryd.results11, go_sem, *]) rfl ⟨rfl, ?_⟩
      (focus (repeat' (first | exact Below.refl _ _ | refine Below.alloc ?_ ?_ _ | refine Below.setCell ?_ ?_ _ | refine Below.drew ?_ | refine below_drewN ?_ _ | refine Below.trans ?_ (Below.mono (by assumption) ?_) | refine Below.trans ?_ (Below.mono (BW.below _) ?_) | (simp; done) | (simp; omega) | omega)))
    · obtain ⟨e1, e2, e3, e4⟩ := dt_y hd
      rw [e1, e2, e3, e4] at hT
      have yb := (dtOk_year _).1 hd
      have hF := fun w => week_first (dateY (mon (numb y m d) + 3)) (by omega) (by omega) w
      have hr := fun w => week_Right (wkY (numb y m d)) (wkW (numb y m d)) (wkD (numb y m d)) w
      rw [hR, eW, eD, eY] at hr
      have wf := wfst_bd (wkY (numb y m d))
      have fb : -20000000 ≤ Cal.ahead (wkY (numb y m d)) ∧ Cal.ahead (wkY (numb y m d)) ≤ 20000000 := by
        rw [eY]
        unfold Cal.ahead Cal.leaps
        omega
      rw [eY] at wf fb
      rw [eW, eY] at hw
      have no : woOk y m d = decide (-39999 ≤ wkY (numb y m d) ∧ wkY (numb y m d) ≤ 39999) := by
        unfold woOk
        rw [h, Bool.true_and]
      have w0 := hw.1
      have w1 : (mon (numb y m d) - wfst (dateY (mon (numb y m d) + 3))) / 7 + 1 ≤ 53 := by
        have := wksOf_cases (dateY (mon (numb y m d) + 3))
        omega
      have p0 := (wk_in (numb y m d)).1
      rw [eY] at p0
      cases hy : decide (-39999 ≤ wkY (numb y m d) ∧ wkY (numb y m d) ≤ 39999)
      · rw [hy] at no
        obtain ⟨f1, f2, f3, f4⟩ := wo_n no
        rw [f1, f2, f3, f4]
        rw [← eY, hy, eY] at hr
        clear f1 f2 f3 f4 e1 e2 e3 e4 eY eD eW hw hR no hd h hy
        generalize dateY (mon (numb y m d) + 3) = Y at *
        generalize dateM (mon (numb y m d) + 3) = A at *
        generalize dateD (mon (numb y m d) + 3) = B at *
        generalize wfst Y = f at *
        generalize mon (numb y m d) = M at *
        generalize numb y m d = n at *
        have q0 : 0 ≤ M - f := by omega
        have q1 : M - f ≤ 400 := by omega
        obtain ⟨n0, n1⟩ := nb
        obtain ⟨m0, m1⟩ := mb
        obtain ⟨u0, u1⟩ := fb
        obtain ⟨v0, v1, _⟩ := wf
        have q2 : 0 ≤ (M - f) / 7 := by omega
        have q3 : (M - f) / 7 ≤ 60 := by omega
        have q4 : 0 ≤ n - M := by omega
        have q5 : n - M ≤ 6 := by omega
        go_enter Tryd.func11, Tryd.ntmps11
        go_wp2_with (first
          | (go_at_call 22; refine (hD _).mono ?_; rintro e w1 ⟨rfl, hb⟩; obtain ⟨hc, hf⟩ := bcell hb; have z := hb.size; (try simp at z); have z0 : w.heap.size < w1.heap.size := (by omega); have z1 : w.heap.size + 1 < w1.heap.size := (by omega); have d0 : w1.cell? ⟨w.heap.size + 1, 0, none⟩ = some (.int .i64 0) := (hb.cell (p := ⟨w.heap.size + 1, 0, none⟩) (by first | (simp; done) | (simp; omega) | omega)).trans (by go_simp); have g0 : w1.frozen? ⟨w.heap.size + 1, 0, none⟩ = false := (hb.frozen (p := ⟨w.heap.size + 1, 0, none⟩) (by first | (simp; done) | (simp; omega) | omega)).trans (by go_simp); have d1 : w1.cell? ⟨w.heap.size + 1, 1, none⟩ = some (.int .i64 0) := (hb.cell (p := ⟨w.heap.size + 1, 1, none⟩) (by first | (simp; done) | (simp; omega) | omega)).trans (by go_simp); have g1 : w1.frozen? ⟨w.heap.size + 1, 1, none⟩ = false := (hb.frozen (p := ⟨w.heap.size + 1, 1, none⟩) (by first | (simp; done) | (simp; omega) | omega)).trans (by go_simp); have d2 : w1.cell? ⟨w.heap.size + 1, 2, none⟩ = some (.int .i64 0) := (hb.cell (p := ⟨w.heap.size + 1, 2, none⟩) (by first | (simp; done) | (simp; omega) | omega)).trans (by go_simp); have g2 : w1.frozen? ⟨w.heap.size + 1, 2, none⟩ = false := (hb.frozen (p := ⟨w.heap.size + 1, 2, none⟩) (by first | (simp; done) | (simp; omega) | omega)).trans (by go_simp))
          | (go_at_call 45; refine (hM _).mono ?_; rintro e w2 ⟨rfl, hb⟩; obtain ⟨hc, hf⟩ := bcell hb; have z := hb.size; (try simp at z); have z0 : w.heap.size < w2.heap.size := (by omega); have z1 : w.heap.size + 1 < w2.heap.size := (by omega); have d0 : w2.cell? ⟨w.heap.size + 1, 0, none⟩ = some (.int .i64 0) := (hb.cell (p := ⟨w.heap.size + 1, 0, none⟩) (by first | (simp; done) | (simp; omega) | omega)).trans (by go_simp); have g0 : w2.frozen? ⟨w.heap.size + 1, 0, none⟩ = false := (hb.frozen (p := ⟨w.heap.size + 1, 0, none⟩) (by first | (simp; done) | (simp; omega) | omega)).trans (by go_simp); have d1 : w2.cell? ⟨w.heap.size + 1, 1, none⟩ = some (.int .i64 0) := (hb.cell (p := ⟨w.heap.size + 1, 1, none⟩) (by first | (simp; done) | (simp; omega) | omega)).trans (by go_simp); have g1 : w2.frozen? ⟨w.heap.size + 1, 1, none⟩ = false := (hb.frozen (p := ⟨w.heap.size + 1, 1, none⟩) (by first | (simp; done) | (simp; omega) | omega)).trans (by go_simp); have d2 : w2.cell? ⟨w.heap.size + 1, 2, none⟩ = some (.int .i64 0) := (hb.cell (p := ⟨w.heap.size + 1, 2, none⟩) (by first | (simp; done) | (simp; omega) | omega)).trans (by go_simp); have g2 : w2.frozen? ⟨w.heap.size + 1, 2, none⟩ = false := (hb.frozen (p := ⟨w.heap.size + 1, 2, none⟩) (by first | (simp; done) | (simp; omega) | omega)).trans (by go_simp))
          | (go_at_call 46; refine (hT _).mono ?_; rintro e w3 ⟨rfl, hb⟩; obtain ⟨hc, hf⟩ := bcell hb; have z := hb.size; (try simp at z); have z0 : w.heap.size < w3.heap.size := (by omega); have z1 : w.heap.size + 1 < w3.heap.size := (by omega); have d0 : w3.cell? ⟨w.heap.size + 1, 0, none⟩ = some (.int .i64 0) := (hb.cell (p := ⟨w.heap.size + 1, 0, none⟩) (by first | (simp; done) | (simp; omega) | omega)).trans (by go_simp); have g0 : w3.frozen? ⟨w.heap.size + 1, 0, none⟩ = false := (hb.frozen (p := ⟨w.heap.size + 1, 0, none⟩) (by first | (simp; done) | (simp; omega) | omega)).trans (by go_simp); have d1 : w3.cell? ⟨w.heap.size + 1, 1, none⟩ = some (.int .i64 0) := (hb.cell (p := ⟨w.heap.size + 1, 1, none⟩) (by first | (simp; done) | (simp; omega) | omega)).trans (by go_simp); have g1 : w3.frozen? ⟨w.heap.size + 1, 1, none⟩ = false := (hb.frozen (p := ⟨w.heap.size + 1, 1, none⟩) (by first | (simp; done) | (simp; omega) | omega)).trans (by go_simp); have d2 : w3.cell? ⟨w.heap.size + 1, 2, none⟩ = some (.int .i64 0) := (hb.cell (p := ⟨w.heap.size + 1, 2, none⟩) (by first | (simp; done) | (simp; omega) | omega)).trans (by go_simp); have g2 : w3.frozen? ⟨w.heap.size + 1, 2, none⟩ = false := (hb.frozen (p := ⟨w.heap.size + 1, 2, none⟩) (by first | (simp; done) | (simp; omega) | omega)).trans (by go_simp)))
        have BW0 : Below w.heap.size w (w3.alloc (.cells #[.int .i64 Y, .int .i64 A, .int .i64 B] 23)) := by (focus (repeat' (first | exact Below.refl _ _ | refine Below.alloc ?_ ?_ _ | refine Below.setCell ?_ ?_ _ | refine Below.drew ?_ | refine below_drewN ?_ _ | refine Below.trans ?_ (Below.mono (by assumption) ?_) | refine Below.trans ?_ (Below.mono (BW.below _) ?_) | (simp; done) | (simp; omega) | omega)))
        have sW : w3.heap.size < (w3.alloc (.cells #[.int .i64 Y, .int .i64 A, .int .i64 B] 23)).heap.size := by simp
        have cW : (w3.alloc (.cells #[.int .i64 Y, .int .i64 A, .int .i64 B] 23)).cell? ⟨w3.heap.size, 0, none⟩ = some (.int .i64 Y) := by go_simp
        have sR : w.heap.size + 1 < (w3.alloc (.cells #[.int .i64 Y, .int .i64 A, .int .i64 B] 23)).heap.size := by first | (simp; done) | (simp; omega) | omega
        have cR0 : (w3.alloc (.cells #[.int .i64 Y, .int .i64 A, .int .i64 B] 23)).cell? ⟨w.heap.size + 1, 0, none⟩ = some (.int .i64 0) := by go_simp
        have fR0 : (w3.alloc (.cells #[.int .i64 Y, .int .i64 A, .int .i64 B] 23)).frozen? ⟨w.heap.size + 1, 0, none⟩ = false := by go_simp
        have cR1 : (w3.alloc (.cells #[.int .i64 Y, .int .i64 A, .int .i64 B] 23)).cell? ⟨w.heap.size + 1, 1, none⟩ = some (.int .i64 0) := by go_simp
        have fR1 : (w3.alloc (.cells #[.int .i64 Y, .int .i64 A, .int .i64 B] 23)).frozen? ⟨w.heap.size + 1, 1, none⟩ = false := by go_simp
        have cR2 : (w3.alloc (.cells #[.int .i64 Y, .int .i64 A, .int .i64 B] 23)).cell? ⟨w.heap.size + 1, 2, none⟩ = some (.int .i64 0) := by go_simp
        have fR2 : (w3.alloc (.cells #[.int .i64 Y, .int .i64 A, .int .i64 B] 23)).frozen? ⟨w.heap.size + 1, 2, none⟩ = false := by go_simp
        generalize (w3.alloc (.cells #[.int .i64 Y, .int .i64 A, .int .i64 B] 23)) = W at *
        clear hD hM hT
        have e1 : IntKind.i64.wrap (M - f) = M - f := wrap_sm q0 (by omega)
        have e2 : (M - f).tdiv 7 = (M - f) / 7 := Int.tdiv_eq_ediv_of_nonneg q0
        have e3 : IntKind.i64.wrap ((M - f) / 7) = (M - f) / 7 := wrap_sm q2 (by omega)
        have e4 : IntKind.i64.wrap ((M - f) / 7 + 1) = (M - f) / 7 + 1 := wrap_sm (by omega) (by omega)
        have e5 : IntKind.i64.wrap (n - M) = n - M := wrap_sm q4 (by omega)
        have e6 : IntKind.i64.wrap (n - M + 1) = n - M + 1 := wrap_sm (by omega) (by omega)
        try dsimp only [List.append]
        go_region_held3 (fun w' => (∀ b o, b < W.heap.size → w'.cell? ⟨b, o, none⟩ = W.cell? ⟨b, o, none⟩) ∧ Below W.heap.size W w') (first | exact held_drew _ | exact held_call (by assumption) (by assumption) | exact held_call (held_drew _) (by assumption) | exact held_call (held_alloc (held_drew _) _) (by assumption) | exact held_alloc (held_drew _) _ | exact held_alloc (by assumption) _ | exact held_alloc (held_call (held_drew _) (by assumption)) _ | exact held_set (held_set (held_set (by assumption) _ _ _ (by first | omega | (simp; omega) | (simp at *; omega))) _ _ _ (by first | omega | (simp; omega) | (simp at *; omega))) _ _ _ (by first | omega | (simp; omega) | (simp at *; omega)))
          (first
            | (go_at_call 47; refine (hF _).mono ?_; rintro e wr ⟨rfl, hbr⟩; have zr := hbr.size; obtain ⟨hcr, hfr⟩ := bcell hbr; (try simp at zr)))
        · skip
          simp only [e1, e2, e3, e4, e5, e6] at *
          have hS := (by assumption : (∀ b o, b < W.heap.size → World.cell? _ ⟨b, o, none⟩ = W.cell? ⟨b, o, none⟩) ∧ Below W.heap.size W (wr.alloc (.cells #[.int .i64 Y, .int .i64 ((M - f) / 7 + 1), .int .i64 (n - M + 1)] 25)))
          have zA : w.heap.size + 1 < (wr.alloc (.cells #[.int .i64 Y, .int .i64 ((M - f) / 7 + 1), .int .i64 (n - M + 1)] 25)).heap.size := by first | omega | (simp; omega)
          have zB : wr.heap.size < (wr.alloc (.cells #[.int .i64 Y, .int .i64 ((M - f) / 7 + 1), .int .i64 (n - M + 1)] 25)).heap.size := by first | omega | (simp; done) | (simp; omega)
          have cx0 := (hS.1 (w.heap.size + 1) 0 sR).trans cR0
          have fx0 := (hS.2.frozen (p := ⟨w.heap.size + 1, 0, none⟩) sR).trans fR0
          have cx1 := (hS.1 (w.heap.size + 1) 1 sR).trans cR1
          have fx1 := (hS.2.frozen (p := ⟨w.heap.size + 1, 1, none⟩) sR).trans fR1
          have cx2 := (hS.1 (w.heap.size + 1) 2 sR).trans cR2
          have fx2 := (hS.2.frozen (p := ⟨w.heap.size + 1, 2, none⟩) sR).trans fR2
          have cc0 : (wr.alloc (.cells #[.int .i64 Y, .int .i64 ((M - f) / 7 + 1), .int .i64 (n - M + 1)] 25)).cell? ⟨wr.heap.size, 0, none⟩ = some (.int .i64 Y) := by go_simp
          have cc1 : (wr.alloc (.cells #[.int .i64 Y, .int .i64 ((M - f) / 7 + 1), .int .i64 (n - M + 1)] 25)).cell? ⟨wr.heap.size, 1, none⟩ = some (.int .i64 ((M - f) / 7 + 1)) := by go_simp
          have cc2 : (wr.alloc (.cells #[.int .i64 Y, .int .i64 ((M - f) / 7 + 1), .int .i64 (n - M + 1)] 25)).cell? ⟨wr.heap.size, 2, none⟩ = some (.int .i64 (n - M + 1)) := by go_simp
          have BF : Below w.heap.size w (wr.alloc (.cells #[.int .i64 Y, .int .i64 ((M - f) / 7 + 1), .int .i64 (n - M + 1)] 25)) := BW0.trans (hS.2.mono (by omega))
          clear hS
          generalize (wr.alloc (.cells #[.int .i64 Y, .int .i64 ((M - f) / 7 + 1), .int .i64 (n - M + 1)] 25)) = V at *
          generalize wr.heap.size = bl at *
          clear hbr zr hcr hfr
          go_wp2_with (go_at_call 17; refine (hr _).mono ?_; rintro e w5 ⟨rfl, hb⟩; obtain ⟨hc, hf⟩ := bcell hb; have z := hb.size; (try simp at z); have z0 : w.heap.size < w5.heap.size := (by omega); have z1 : w.heap.size + 1 < w5.heap.size := (by omega); have d0 : w5.cell? ⟨w.heap.size + 1, 0, none⟩ = some (.int .i64 0) := (hb.cell (p := ⟨w.heap.size + 1, 0, none⟩) (by first | (simp; done) | (simp; omega) | omega)).trans (by go_simp); have g0 : w5.frozen? ⟨w.heap.size + 1, 0, none⟩ = false := (hb.frozen (p := ⟨w.heap.size + 1, 0, none⟩) (by first | (simp; done) | (simp; omega) | omega)).trans (by go_simp); have d1 : w5.cell? ⟨w.heap.size + 1, 1, none⟩ = some (.int .i64 0) := (hb.cell (p := ⟨w.heap.size + 1, 1, none⟩) (by first | (simp; done) | (simp; omega) | omega)).trans (by go_simp); have g1 : w5.frozen? ⟨w.heap.size + 1, 1, none⟩ = false := (hb.frozen (p := ⟨w.heap.size + 1, 1, none⟩) (by first | (simp; done) | (simp; omega) | omega)).trans (by go_simp); have d2 : w5.cell? ⟨w.heap.size + 1, 2, none⟩ = some (.int .i64 0) := (hb.cell (p := ⟨w.heap.size + 1, 2, none⟩) (by first | (simp; done) | (simp; omega) | omega)).trans (by go_simp); have g2 : w5.frozen? ⟨w.heap.size + 1, 2, none⟩ = false := (hb.frozen (p := ⟨w.heap.size + 1, 2, none⟩) (by first | (simp; done) | (simp; omega) | omega)).trans (by go_simp))
          refine bodyPost_ret (v := .tuple #[dat _ _ _, .int .i64 _]) (by simp [results, Tryd.results11, go_sem, *]) rfl ⟨rfl, ?_⟩
          (focus (repeat' (first | exact Below.refl _ _ | refine Below.alloc ?_ ?_ _ | refine Below.setCell ?_ ?_ _ | refine Below.drew ?_ | refine below_drewN ?_ _ | refine Below.trans ?_ (Below.mono (by assumption) ?_) | refine Below.trans ?_ (Below.mono (BW.below _) ?_) | (simp; done) | (simp; omega) | omega)))
        · skip
          simp only [e1, e2, e3, e4, e5, e6] at *
          have hS := (by assumption : (∀ b o, b < W.heap.size → World.cell? _ ⟨b, o, none⟩ = W.cell? ⟨b, o, none⟩) ∧ Below W.heap.size W (((wr.setCell ⟨W.heap.size, 0, none⟩ (.int .i64 Y)).setCell ⟨W.heap.size, 1, none⟩ (.int .i64 ((M - f) / 7 + 1))).setCell ⟨W.heap.size, 2, none⟩ (.int .i64 (n - M + 1))))
          have zA : w.heap.size + 1 < (((wr.setCell ⟨W.heap.size, 0, none⟩ (.int .i64 Y)).setCell ⟨W.heap.size, 1, none⟩ (.int .i64 ((M - f) / 7 + 1))).setCell ⟨W.heap.size, 2, none⟩ (.int .i64 (n - M + 1))).heap.size := by first | omega | (simp; omega)
          have zB : W.heap.size < (((wr.setCell ⟨W.heap.size, 0, none⟩ (.int .i64 Y)).setCell ⟨W.heap.size, 1, none⟩ (.int .i64 ((M - f) / 7 + 1))).setCell ⟨W.heap.size, 2, none⟩ (.int .i64 (n - M + 1))).heap.size := by first | omega | (simp; done) | (simp; omega)
          have cx0 := (hS.1 (w.heap.size + 1) 0 sR).trans cR0
          have fx0 := (hS.2.frozen (p := ⟨w.heap.size + 1, 0, none⟩) sR).trans fR0
          have cx1 := (hS.1 (w.heap.size + 1) 1 sR).trans cR1
          have fx1 := (hS.2.frozen (p := ⟨w.heap.size + 1, 1, none⟩) sR).trans fR1
          have cx2 := (hS.1 (w.heap.size + 1) 2 sR).trans cR2
          have fx2 := (hS.2.frozen (p := ⟨w.heap.size + 1, 2, none⟩) sR).trans fR2
          have cc0 : (((wr.setCell ⟨W.heap.size, 0, none⟩ (.int .i64 Y)).setCell ⟨W.heap.size, 1, none⟩ (.int .i64 ((M - f) / 7 + 1))).setCell ⟨W.heap.size, 2, none⟩ (.int .i64 (n - M + 1))).cell? ⟨W.heap.size, 0, none⟩ = some (.int .i64 Y) := by go_simp
          have cc1 : (((wr.setCell ⟨W.heap.size, 0, none⟩ (.int .i64 Y)).setCell ⟨W.heap.size, 1, none⟩ (.int .i64 ((M - f) / 7 + 1))).setCell ⟨W.heap.size, 2, none⟩ (.int .i64 (n - M + 1))).cell? ⟨W.heap.size, 1, none⟩ = some (.int .i64 ((M - f) / 7 + 1)) := by go_simp
          have cc2 : (((wr.setCell ⟨W.heap.size, 0, none⟩ (.int .i64 Y)).setCell ⟨W.heap.size, 1, none⟩ (.int .i64 ((M - f) / 7 + 1))).setCell ⟨W.heap.size, 2, none⟩ (.int .i64 (n - M + 1))).cell? ⟨W.heap.size, 2, none⟩ = some (.int .i64 (n - M + 1)) := by go_simp
          have BF : Below w.heap.size w (((wr.setCell ⟨W.heap.size, 0, none⟩ (.int .i64 Y)).setCell ⟨W.heap.size, 1, none⟩ (.int .i64 ((M - f) / 7 + 1))).setCell ⟨W.heap.size, 2, none⟩ (.int .i64 (n - M + 1))) := BW0.trans (hS.2.mono (by omega))
          clear hS
          generalize (((wr.setCell ⟨W.heap.size, 0, none⟩ (.int .i64 Y)).setCell ⟨W.heap.size, 1, none⟩ (.int .i64 ((M - f) / 7 + 1))).setCell ⟨W.heap.size, 2, none⟩ (.int .i64 (n - M + 1))) = V at *
          generalize W.heap.size = bl at *
          clear hbr zr hcr hfr
          go_wp2_with (go_at_call 17; refine (hr _).mono ?_; rintro e w5 ⟨rfl, hb⟩; obtain ⟨hc, hf⟩ := bcell hb; have z := hb.size; (try simp at z); have z0 : w.heap.size < w5.heap.size := (by omega); have z1 : w.heap.size + 1 < w5.heap.size := (by omega); have d0 : w5.cell? ⟨w.heap.size + 1, 0, none⟩ = some (.int .i64 0) := (hb.cell (p := ⟨w.heap.size + 1, 0, none⟩) (by first | (simp; done) | (simp; omega) | omega)).trans (by go_simp); have g0 : w5.frozen? ⟨w.heap.size + 1, 0, none⟩ = false := (hb.frozen (p := ⟨w.heap.size + 1, 0, none⟩) (by first | (simp; done) | (simp; omega) | omega)).trans (by go_simp); have d1 : w5.cell? ⟨w.heap.size + 1, 1, none⟩ = some (.int .i64 0) := (hb.cell (p := ⟨w.heap.size + 1, 1, none⟩) (by first | (simp; done) | (simp; omega) | omega)).trans (by go_simp); have g1 : w5.frozen? ⟨w.heap.size + 1, 1, none⟩ = false := (hb.frozen (p := ⟨w.heap.size + 1, 1, none⟩) (by first | (simp; done) | (simp; omega) | omega)).trans (by go_simp); have d2 : w5.cell? ⟨w.heap.size + 1, 2, none⟩ = some (.int .i64 0) := (hb.cell (p := ⟨w.heap.size + 1, 2, none⟩) (by first | (simp; done) | (simp; omega) | omega)).trans (by go_simp); have g2 : w5.frozen? ⟨w.heap.size + 1, 2, none⟩ = false := (hb.frozen (p := ⟨w.heap.size + 1, 2, none⟩) (by first | (simp; done) | (simp; omega) | omega)).trans (by go_simp))
          refine bodyPost_ret (v := .tuple #[dat _ _ _, .int .i64 _]) (by simp [results, Tryd.results11, go_sem, *]) rfl ⟨rfl, ?_⟩
          (focus (repeat' (first | exact Below.refl _ _ | refine Below.alloc ?_ ?_ _ | refine Below.setCell ?_ ?_ _ | refine Below.drew ?_ | refine below_drewN ?_ _ | refine Below.trans ?_ (Below.mono (by assumption) ?_) | refine Below.trans ?_ (Below.mono (BW.below _) ?_) | (simp; done) | (simp; omega) | omega)))
      · rw [hy] at no
        obtain ⟨f1, f2, f3, f4⟩ := wo_y no
        rw [f1, f2, f3, f4, eW, eD, eY]
        rw [← eY, hy, eY] at hr
        clear f1 f2 f3 f4 e1 e2 e3 e4 eY eD eW hw hR no hd h hy
        generalize dateY (mon (numb y m d) + 3) = Y at *
        generalize dateM (mon (numb y m d) + 3) = A at *
        generalize dateD (mon (numb y m d) + 3) = B at *
        generalize wfst Y = f at *
        generalize mon (numb y m d) = M at *
        generalize numb y m d = n at *
        have q0 : 0 ≤ M - f := by omega
        have q1 : M - f ≤ 400 := by omega
        obtain ⟨n0, n1⟩ := nb
        obtain ⟨m0, m1⟩ := mb
        obtain ⟨u0, u1⟩ := fb
        obtain ⟨v0, v1, _⟩ := wf
        have q2 : 0 ≤ (M - f) / 7 := by omega
        have q3 : (M - f) / 7 ≤ 60 := by omega
        have q4 : 0 ≤ n - M := by omega
        have q5 : n - M ≤ 6 := by omega
        go_enter Tryd.func11, Tryd.ntmps11
        go_wp2_with (first
          | (go_at_call 22; refine (hD _).mono ?_; rintro e w1 ⟨rfl, hb⟩; obtain ⟨hc, hf⟩ := bcell hb; have z := hb.size; (try simp at z); have z0 : w.heap.size < w1.heap.size := (by omega); have z1 : w.heap.size + 1 < w1.heap.size := (by omega); have d0 : w1.cell? ⟨w.heap.size + 1, 0, none⟩ = some (.int .i64 0) := (hb.cell (p := ⟨w.heap.size + 1, 0, none⟩) (by first | (simp; done) | (simp; omega) | omega)).trans (by go_simp); have g0 : w1.frozen? ⟨w.heap.size + 1, 0, none⟩ = false := (hb.frozen (p := ⟨w.heap.size + 1, 0, none⟩) (by first | (simp; done) | (simp; omega) | omega)).trans (by go_simp); have d1 : w1.cell? ⟨w.heap.size + 1, 1, none⟩ = some (.int .i64 0) := (hb.cell (p := ⟨w.heap.size + 1, 1, none⟩) (by first | (simp; done) | (simp; omega) | omega)).trans (by go_simp); have g1 : w1.frozen? ⟨w.heap.size + 1, 1, none⟩ = false := (hb.frozen (p := ⟨w.heap.size + 1, 1, none⟩) (by first | (simp; done) | (simp; omega) | omega)).trans (by go_simp); have d2 : w1.cell? ⟨w.heap.size + 1, 2, none⟩ = some (.int .i64 0) := (hb.cell (p := ⟨w.heap.size + 1, 2, none⟩) (by first | (simp; done) | (simp; omega) | omega)).trans (by go_simp); have g2 : w1.frozen? ⟨w.heap.size + 1, 2, none⟩ = false := (hb.frozen (p := ⟨w.heap.size + 1, 2, none⟩) (by first | (simp; done) | (simp; omega) | omega)).trans (by go_simp))
          | (go_at_call 45; refine (hM _).mono ?_; rintro e w2 ⟨rfl, hb⟩; obtain ⟨hc, hf⟩ := bcell hb; have z := hb.size; (try simp at z); have z0 : w.heap.size < w2.heap.size := (by omega); have z1 : w.heap.size + 1 < w2.heap.size := (by omega); have d0 : w2.cell? ⟨w.heap.size + 1, 0, none⟩ = some (.int .i64 0) := (hb.cell (p := ⟨w.heap.size + 1, 0, none⟩) (by first | (simp; done) | (simp; omega) | omega)).trans (by go_simp); have g0 : w2.frozen? ⟨w.heap.size + 1, 0, none⟩ = false := (hb.frozen (p := ⟨w.heap.size + 1, 0, none⟩) (by first | (simp; done) | (simp; omega) | omega)).trans (by go_simp); have d1 : w2.cell? ⟨w.heap.size + 1, 1, none⟩ = some (.int .i64 0) := (hb.cell (p := ⟨w.heap.size + 1, 1, none⟩) (by first | (simp; done) | (simp; omega) | omega)).trans (by go_simp); have g1 : w2.frozen? ⟨w.heap.size + 1, 1, none⟩ = false := (hb.frozen (p := ⟨w.heap.size + 1, 1, none⟩) (by first | (simp; done) | (simp; omega) | omega)).trans (by go_simp); have d2 : w2.cell? ⟨w.heap.size + 1, 2, none⟩ = some (.int .i64 0) := (hb.cell (p := ⟨w.heap.size + 1, 2, none⟩) (by first | (simp; done) | (simp; omega) | omega)).trans (by go_simp); have g2 : w2.frozen? ⟨w.heap.size + 1, 2, none⟩ = false := (hb.frozen (p := ⟨w.heap.size + 1, 2, none⟩) (by first | (simp; done) | (simp; omega) | omega)).trans (by go_simp))
          | (go_at_call 46; refine (hT _).mono ?_; rintro e w3 ⟨rfl, hb⟩; obtain ⟨hc, hf⟩ := bcell hb; have z := hb.size; (try simp at z); have z0 : w.heap.size < w3.heap.size := (by omega); have z1 : w.heap.size + 1 < w3.heap.size := (by omega); have d0 : w3.cell? ⟨w.heap.size + 1, 0, none⟩ = some (.int .i64 0) := (hb.cell (p := ⟨w.heap.size + 1, 0, none⟩) (by first | (simp; done) | (simp; omega) | omega)).trans (by go_simp); have g0 : w3.frozen? ⟨w.heap.size + 1, 0, none⟩ = false := (hb.frozen (p := ⟨w.heap.size + 1, 0, none⟩) (by first | (simp; done) | (simp; omega) | omega)).trans (by go_simp); have d1 : w3.cell? ⟨w.heap.size + 1, 1, none⟩ = some (.int .i64 0) := (hb.cell (p := ⟨w.heap.size + 1, 1, none⟩) (by first | (simp; done) | (simp; omega) | omega)).trans (by go_simp); have g1 : w3.frozen? ⟨w.heap.size + 1, 1, none⟩ = false := (hb.frozen (p := ⟨w.heap.size + 1, 1, none⟩) (by first | (simp; done) | (simp; omega) | omega)).trans (by go_simp); have d2 : w3.cell? ⟨w.heap.size + 1, 2, none⟩ = some (.int .i64 0) := (hb.cell (p := ⟨w.heap.size + 1, 2, none⟩) (by first | (simp; done) | (simp; omega) | omega)).trans (by go_simp); have g2 : w3.frozen? ⟨w.heap.size + 1, 2, none⟩ = false := (hb.frozen (p := ⟨w.heap.size + 1, 2, none⟩) (by first | (simp; done) | (simp; omega) | omega)).trans (by go_simp)))
        have BW0 : Below w.heap.size w (w3.alloc (.cells #[.int .i64 Y, .int .i64 A, .int .i64 B] 23)) := by (focus (repeat' (first | exact Below.refl _ _ | refine Below.alloc ?_ ?_ _ | refine Below.setCell ?_ ?_ _ | refine Below.drew ?_ | refine below_drewN ?_ _ | refine Below.trans ?_ (Below.mono (by assumption) ?_) | refine Below.trans ?_ (Below.mono (BW.below _) ?_) | (simp; done) | (simp; omega) | omega)))
        have sW : w3.heap.size < (w3.alloc (.cells #[.int .i64 Y, .int .i64 A, .int .i64 B] 23)).heap.size := by simp
        have cW : (w3.alloc (.cells #[.int .i64 Y, .int .i64 A, .int .i64 B] 23)).cell? ⟨w3.heap.size, 0, none⟩ = some (.int .i64 Y) := by go_simp
        have sR : w.heap.size + 1 < (w3.alloc (.cells #[.int .i64 Y, .int .i64 A, .int .i64 B] 23)).heap.size := by first | (simp; done) | (simp; omega) | omega
        have cR0 : (w3.alloc (.cells #[.int .i64 Y, .int .i64 A, .int .i64 B] 23)).cell? ⟨w.heap.size + 1, 0, none⟩ = some (.int .i64 0) := by go_simp
        have fR0 : (w3.alloc (.cells #[.int .i64 Y, .int .i64 A, .int .i64 B] 23)).frozen? ⟨w.heap.size + 1, 0, none⟩ = false := by go_simp
        have cR1 : (w3.alloc (.cells #[.int .i64 Y, .int .i64 A, .int .i64 B] 23)).cell? ⟨w.heap.size + 1, 1, none⟩ = some (.int .i64 0) := by go_simp
        have fR1 : (w3.alloc (.cells #[.int .i64 Y, .int .i64 A, .int .i64 B] 23)).frozen? ⟨w.heap.size + 1, 1, none⟩ = false := by go_simp
        have cR2 : (w3.alloc (.cells #[.int .i64 Y, .int .i64 A, .int .i64 B] 23)).cell? ⟨w.heap.size + 1, 2, none⟩ = some (.int .i64 0) := by go_simp
        have fR2 : (w3.alloc (.cells #[.int .i64 Y, .int .i64 A, .int .i64 B] 23)).frozen? ⟨w.heap.size + 1, 2, none⟩ = false := by go_simp
        generalize (w3.alloc (.cells #[.int .i64 Y, .int .i64 A, .int .i64 B] 23)) = W at *
        clear hD hM hT
        have e1 : IntKind.i64.wrap (M - f) = M - f := wrap_sm q0 (by omega)
        have e2 : (M - f).tdiv 7 = (M - f) / 7 := Int.tdiv_eq_ediv_of_nonneg q0
        have e3 : IntKind.i64.wrap ((M - f) / 7) = (M - f) / 7 := wrap_sm q2 (by omega)
        have e4 : IntKind.i64.wrap ((M - f) / 7 + 1) = (M - f) / 7 + 1 := wrap_sm (by omega) (by omega)
        have e5 : IntKind.i64.wrap (n - M) = n - M := wrap_sm q4 (by omega)
        have e6 : IntKind.i64.wrap (n - M + 1) = n - M + 1 := wrap_sm (by omega) (by omega)
        try dsimp only [List.append]
        go_region_held3 (fun w' => (∀ b o, b < W.heap.size → w'.cell? ⟨b, o, none⟩ = W.cell? ⟨b, o, none⟩) ∧ Below W.heap.size W w') (first | exact held_drew _ | exact held_call (by assumption) (by assumption) | exact held_call (held_drew _) (by assumption) | exact held_call (held_alloc (held_drew _) _) (by assumption) | exact held_alloc (held_drew _) _ | exact held_alloc (by assumption) _ | exact held_alloc (held_call (held_drew _) (by assumption)) _ | exact held_set (held_set (held_set (by assumption) _ _ _ (by first | omega | (simp; omega) | (simp at *; omega))) _ _ _ (by first | omega | (simp; omega) | (simp at *; omega))) _ _ _ (by first | omega | (simp; omega) | (simp at *; omega)))
          (first
            | (go_at_call 47; refine (hF _).mono ?_; rintro e wr ⟨rfl, hbr⟩; have zr := hbr.size; obtain ⟨hcr, hfr⟩ := bcell hbr; (try simp at zr)))
        · skip
          simp only [e1, e2, e3, e4, e5, e6] at *
          have hS := (by assumption : (∀ b o, b < W.heap.size → World.cell? _ ⟨b, o, none⟩ = W.cell? ⟨b, o, none⟩) ∧ Below W.heap.size W (wr.alloc (.cells #[.int .i64 Y, .int .i64 ((M - f) / 7 + 1), .int .i64 (n - M + 1)] 25)))
          have zA : w.heap.size + 1 < (wr.alloc (.cells #[.int .i64 Y, .int .i64 ((M - f) / 7 + 1), .int .i64 (n - M + 1)] 25)).heap.size := by first | omega | (simp; omega)
          have zB : wr.heap.size < (wr.alloc (.cells #[.int .i64 Y, .int .i64 ((M - f) / 7 + 1), .int .i64 (n - M + 1)] 25)).heap.size := by first | omega | (simp; done) | (simp; omega)
          have cx0 := (hS.1 (w.heap.size + 1) 0 sR).trans cR0
          have fx0 := (hS.2.frozen (p := ⟨w.heap.size + 1, 0, none⟩) sR).trans fR0
          have cx1 := (hS.1 (w.heap.size + 1) 1 sR).trans cR1
          have fx1 := (hS.2.frozen (p := ⟨w.heap.size + 1, 1, none⟩) sR).trans fR1
          have cx2 := (hS.1 (w.heap.size + 1) 2 sR).trans cR2
          have fx2 := (hS.2.frozen (p := ⟨w.heap.size + 1, 2, none⟩) sR).trans fR2
          have cc0 : (wr.alloc (.cells #[.int .i64 Y, .int .i64 ((M - f) / 7 + 1), .int .i64 (n - M + 1)] 25)).cell? ⟨wr.heap.size, 0, none⟩ = some (.int .i64 Y) := by go_simp
          have cc1 : (wr.alloc (.cells #[.int .i64 Y, .int .i64 ((M - f) / 7 + 1), .int .i64 (n - M + 1)] 25)).cell? ⟨wr.heap.size, 1, none⟩ = some (.int .i64 ((M - f) / 7 + 1)) := by go_simp
          have cc2 : (wr.alloc (.cells #[.int .i64 Y, .int .i64 ((M - f) / 7 + 1), .int .i64 (n - M + 1)] 25)).cell? ⟨wr.heap.size, 2, none⟩ = some (.int .i64 (n - M + 1)) := by go_simp
          have BF : Below w.heap.size w (wr.alloc (.cells #[.int .i64 Y, .int .i64 ((M - f) / 7 + 1), .int .i64 (n - M + 1)] 25)) := BW0.trans (hS.2.mono (by omega))
          clear hS
          generalize (wr.alloc (.cells #[.int .i64 Y, .int .i64 ((M - f) / 7 + 1), .int .i64 (n - M + 1)] 25)) = V at *
          generalize wr.heap.size = bl at *
          clear hbr zr hcr hfr
          go_wp2_with (go_at_call 17; refine (hr _).mono ?_; rintro e w5 ⟨rfl, hb⟩; obtain ⟨hc, hf⟩ := bcell hb; have z := hb.size; (try simp at z); have z0 : w.heap.size < w5.heap.size := (by omega); have z1 : w.heap.size + 1 < w5.heap.size := (by omega); have d0 : w5.cell? ⟨w.heap.size + 1, 0, none⟩ = some (.int .i64 0) := (hb.cell (p := ⟨w.heap.size + 1, 0, none⟩) (by first | (simp; done) | (simp; omega) | omega)).trans (by go_simp); have g0 : w5.frozen? ⟨w.heap.size + 1, 0, none⟩ = false := (hb.frozen (p := ⟨w.heap.size + 1, 0, none⟩) (by first | (simp; done) | (simp; omega) | omega)).trans (by go_simp); have d1 : w5.cell? ⟨w.heap.size + 1, 1, none⟩ = some (.int .i64 0) := (hb.cell (p := ⟨w.heap.size + 1, 1, none⟩) (by first | (simp; done) | (simp; omega) | omega)).trans (by go_simp); have g1 : w5.frozen? ⟨w.heap.size + 1, 1, none⟩ = false := (hb.frozen (p := ⟨w.heap.size + 1, 1, none⟩) (by first | (simp; done) | (simp; omega) | omega)).trans (by go_simp); have d2 : w5.cell? ⟨w.heap.size + 1, 2, none⟩ = some (.int .i64 0) := (hb.cell (p := ⟨w.heap.size + 1, 2, none⟩) (by first | (simp; done) | (simp; omega) | omega)).trans (by go_simp); have g2 : w5.frozen? ⟨w.heap.size + 1, 2, none⟩ = false := (hb.frozen (p := ⟨w.heap.size + 1, 2, none⟩) (by first | (simp; done) | (simp; omega) | omega)).trans (by go_simp))
          refine bodyPost_ret (v := .tuple #[dat _ _ _, .int .i64 _]) (by simp [results, Tryd.results11, go_sem, *]) rfl ⟨rfl, ?_⟩
          (focus (repeat' (first | exact Below.refl _ _ | refine Below.alloc ?_ ?_ _ | refine Below.setCell ?_ ?_ _ | refine Below.drew ?_ | refine below_drewN ?_ _ | refine Below.trans ?_ (Below.mono (by assumption) ?_) | refine Below.trans ?_ (Below.mono (BW.below _) ?_) | (simp; done) | (simp; omega) | omega)))
        · skip
          simp only [e1, e2, e3, e4, e5, e6] at *
          have hS := (by assumption : (∀ b o, b < W.heap.size → World.cell? _ ⟨b, o, none⟩ = W.cell? ⟨b, o, none⟩) ∧ Below W.heap.size W (((wr.setCell ⟨W.heap.size, 0, none⟩ (.int .i64 Y)).setCell ⟨W.heap.size, 1, none⟩ (.int .i64 ((M - f) / 7 + 1))).setCell ⟨W.heap.size, 2, none⟩ (.int .i64 (n - M + 1))))
          have zA : w.heap.size + 1 < (((wr.setCell ⟨W.heap.size, 0, none⟩ (.int .i64 Y)).setCell ⟨W.heap.size, 1, none⟩ (.int .i64 ((M - f) / 7 + 1))).setCell ⟨W.heap.size, 2, none⟩ (.int .i64 (n - M + 1))).heap.size := by first | omega | (simp; omega)
          have zB : W.heap.size < (((wr.setCell ⟨W.heap.size, 0, none⟩ (.int .i64 Y)).setCell ⟨W.heap.size, 1, none⟩ (.int .i64 ((M - f) / 7 + 1))).setCell ⟨W.heap.size, 2, none⟩ (.int .i64 (n - M + 1))).heap.size := by first | omega | (simp; done) | (simp; omega)
          have cx0 := (hS.1 (w.heap.size + 1) 0 sR).trans cR0
          have fx0 := (hS.2.frozen (p := ⟨w.heap.size + 1, 0, none⟩) sR).trans fR0
          have cx1 := (hS.1 (w.heap.size + 1) 1 sR).trans cR1
          have fx1 := (hS.2.frozen (p := ⟨w.heap.size + 1, 1, none⟩) sR).trans fR1
          have cx2 := (hS.1 (w.heap.size + 1) 2 sR).trans cR2
          have fx2 := (hS.2.frozen (p := ⟨w.heap.size + 1, 2, none⟩) sR).trans fR2
          have cc0 : (((wr.setCell ⟨W.heap.size, 0, none⟩ (.int .i64 Y)).setCell ⟨W.heap.size, 1, none⟩ (.int .i64 ((M - f) / 7 + 1))).setCell ⟨W.heap.size, 2, none⟩ (.int .i64 (n - M + 1))).cell? ⟨W.heap.size, 0, none⟩ = some (.int .i64 Y) := by go_simp
          have cc1 : (((wr.setCell ⟨W.heap.size, 0, none⟩ (.int .i64 Y)).setCell ⟨W.heap.size, 1, none⟩ (.int .i64 ((M - f) / 7 + 1))).setCell ⟨W.heap.size, 2, none⟩ (.int .i64 (n - M + 1))).cell? ⟨W.heap.size, 1, none⟩ = some (.int .i64 ((M - f) / 7 + 1)) := by go_simp
          have cc2 : (((wr.setCell ⟨W.heap.size, 0, none⟩ (.int .i64 Y)).setCell ⟨W.heap.size, 1, none⟩ (.int .i64 ((M - f) / 7 + 1))).setCell ⟨W.heap.size, 2, none⟩ (.int .i64 (n - M + 1))).cell? ⟨W.heap.size, 2, none⟩ = some (.int .i64 (n - M + 1)) := by go_simp
          have BF : Below w.heap.size w (((wr.setCell ⟨W.heap.size, 0, none⟩ (.int .i64 Y)).setCell ⟨W.heap.size, 1, none⟩ (.int .i64 ((M - f) / 7 + 1))).setCell ⟨W.heap.size, 2, none⟩ (.int .i64 (n - M + 1))) := BW0.trans (hS.2.mono (by omega))
          clear hS
          generalize (((wr.setCell ⟨W.heap.size, 0, none⟩ (.int .i64 Y)).setCell ⟨W.heap.size, 1, none⟩ (.int .i64 ((M - f) / 7 + 1))).setCell ⟨W.heap.size, 2, none⟩ (.int .i64 (n - M + 1))) = V at *
          generalize W.heap.size = bl at *
          clear hbr zr hcr hfr
          go_wp2_with (go_at_call 17; refine (hr _).mono ?_; rintro e w5 ⟨rfl, hb⟩; obtain ⟨hc, hf⟩ := bcell hb; have z := hb.size; (try simp at z); have z0 : w.heap.size < w5.heap.size := (by omega); have z1 : w.heap.size + 1 < w5.heap.size := (by omega); have d0 : w5.cell? ⟨w.heap.size + 1, 0, none⟩ = some (.int .i64 0) := (hb.cell (p := ⟨w.heap.size + 1, 0, none⟩) (by first | (simp; done) | (simp; omega) | omega)).trans (by go_simp); have g0 : w5.frozen? ⟨w.heap.size + 1, 0, none⟩ = false := (hb.frozen (p := ⟨w.heap.size + 1, 0, none⟩) (by first | (simp; done) | (simp; omega) | omega)).trans (by go_simp); have d1 : w5.cell? ⟨w.heap.size + 1, 1, none⟩ = some (.int .i64 0) := (hb.cell (p := ⟨w.heap.size + 1, 1, none⟩) (by first | (simp; done) | (simp; omega) | omega)).trans (by go_simp); have g1 : w5.frozen? ⟨w.heap.size + 1, 1, none⟩ = false := (hb.frozen (p := ⟨w.heap.size + 1, 1, none⟩) (by first | (simp; done) | (simp; omega) | omega)).trans (by go_simp); have d2 : w5.cell? ⟨w.heap.size + 1, 2, none⟩ = some (.int .i64 0) := (hb.cell (p := ⟨w.heap.size + 1, 2, none⟩) (by first | (simp; done) | (simp; omega) | omega)).trans (by go_simp); have g2 : w5.frozen? ⟨w.heap.size + 1, 2, none⟩ = false := (hb.frozen (p := ⟨w.heap.size + 1, 2, none⟩) (by first | (simp; done) | (simp; omega) | omega)).trans (by go_simp))
          refine bodyPost_ret (v := .tuple #[dat _ _ _, .int .i64 _]) (by simp [results, Tryd.results11, go_sem, *]) rfl ⟨rfl, ?_⟩
          (focus (repeat' (first | exact Below.refl _ _ | refine Below.alloc ?_ ?_ _ | refine Below.setCell ?_ ?_ _ | refine Below.drew ?_ | refine below_drewN ?_ _ | refine Below.trans ?_ (Below.mono (by assumption) ?_) | refine Below.trans ?_ (Below.mono (BW.below _) ?_) | (simp; done) | (simp; omega) | omega)))
  · have no : woOk y m d = false := by
      unfold woOk
      rw [h, Bool.false_and]
    obtain ⟨f1, f2, f3, f4⟩ := wo_n no
    rw [f1, f2, f3, f4]
    rw [e1, e2] at hD
    clear f1 f2 f3 f4 e1 e2 no h
    go_enter Tryd.func11, Tryd.ntmps11
    go_wp2_with (go_at_call 22; refine (hD _).mono ?_; rintro e w1 ⟨rfl, hb⟩; obtain ⟨hc, hf⟩ := bcell hb; have z := hb.size; (try simp at z); have z0 : w.heap.size < w1.heap.size := (by omega); have z1 : w.heap.size + 1 < w1.heap.size := (by omega); have d0 : w1.cell? ⟨w.heap.size + 1, 0, none⟩ = some (.int .i64 0) := (hb.cell (p := ⟨w.heap.size + 1, 0, none⟩) (by first | (simp; done) | (simp; omega) | omega)).trans (by go_simp); have g0 : w1.frozen? ⟨w.heap.size + 1, 0, none⟩ = false := (hb.frozen (p := ⟨w.heap.size + 1, 0, none⟩) (by first | (simp; done) | (simp; omega) | omega)).trans (by go_simp); have d1 : w1.cell? ⟨w.heap.size + 1, 1, none⟩ = some (.int .i64 0) := (hb.cell (p := ⟨w.heap.size + 1, 1, none⟩) (by first | (simp; done) | (simp; omega) | omega)).trans (by go_simp); have g1 : w1.frozen? ⟨w.heap.size + 1, 1, none⟩ = false := (hb.frozen (p := ⟨w.heap.size + 1, 1, none⟩) (by first | (simp; done) | (simp; omega) | omega)).trans (by go_simp); have d2 : w1.cell? ⟨w.heap.size + 1, 2, none⟩ = some (.int .i64 0) := (hb.cell (p := ⟨w.heap.size + 1, 2, none⟩) (by first | (simp; done) | (simp; omega) | omega)).trans (by go_simp); have g2 : w1.frozen? ⟨w.heap.size + 1, 2, none⟩ = false := (hb.frozen (p := ⟨w.heap.size + 1, 2, none⟩) (by first | (simp; done) | (simp; omega) | omega)).trans (by go_simp))
    refine bodyPost_ret (v := .tuple #[dat _ _ _, .int .i64 _]) (by simp [results, Tryd.results11, go_sem, *]) rfl ⟨rfl, ?_⟩
    (focus (repeat' (first | exact Below.refl _ _ | refine Below.alloc ?_ ?_ _ | refine Below.setCell ?_ ?_ _ | refine Below.drew ?_ | refine below_drewN ?_ _ | refine Below.trans ?_ (Below.mono (by assumption) ?_) | refine Below.trans ?_ (Below.mono (BW.below _) ?_) | (simp; done) | (simp; omega) | omega)))
theorem wk_num {y k d : Int} (h : wkB y k d = true) : -39999 ≤ y ∧ y ≤ 39999 ∧ 1 ≤ k ∧ k ≤ wksOf y ∧ 1 ≤ d ∧ d ≤ 7 := by
  simp only [wkB, decide_eq_true_eq] at h
  unfold weeks at h
  split at h
  · omega
  · omega
theorem wk_small {y k d : Int} (h : wkB y k d = true) : -20000000 ≤ wfst y ∧ wfst y ≤ 20000000 ∧ 1 ≤ k ∧ k ≤ 53 ∧ 1 ≤ d ∧ d ≤ 7 ∧ -40000 ≤ y ∧ y ≤ 40000 := by
  obtain ⟨h1, h2, h3, h4, h5, h6⟩ := wk_num h
  have wf := wfst_bd y
  have ws := wksOf_cases y
  have fb : -20000000 ≤ Cal.ahead y - 3 ∧ Cal.ahead y + 3 ≤ 20000000 := by
    unfold Cal.ahead Cal.leaps
    omega
  omega
/-- The date of a day by its week, and the error. -/
def wdY (y k d : Int) : Int := if wkB y k d = true then dtY (wkN y k d) else 0
def wdM (y k d : Int) : Int := if wkB y k d = true then dtM (wkN y k d) else 0
def wdD (y k d : Int) : Int := if wkB y k d = true then dtD (wkN y k d) else 0
def wdE (y k d : Int) : Int := if wkB y k d = true then dtE (wkN y k d) else 1
theorem wd_y {y k d : Int} (h : wkB y k d = true) : wdY y k d = dtY (wkN y k d) ∧ wdM y k d = dtM (wkN y k d) ∧ wdD y k d = dtD (wkN y k d) ∧ wdE y k d = dtE (wkN y k d) := by simp [wdY, wdM, wdD, wdE, h]
theorem wd_n {y k d : Int} (h : wkB y k d = false) : wdY y k d = 0 ∧ wdM y k d = 0 ∧ wdD y k d = 0 ∧ wdE y k d = 1 := by simp [wdY, wdM, wdD, wdE, h]
end Go.Proofs.YtblmlglkjmilkacDoor
