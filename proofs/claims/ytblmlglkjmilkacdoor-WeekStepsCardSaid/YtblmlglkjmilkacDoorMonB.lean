/-
  Contracts of dates moved by years and by days: the program's and the reference's.
-/
import Derived.Test.YtblmlglkjmilkacDoorMonR
import Derived.Test.YtblmlglkjmilkacDoorMul
namespace Go.Proofs.YtblmlglkjmilkacDoor
open Go.RowKit Cal
attribute [local go_sem] BW.cell BW.frozen

theorem add_big {y m d n : Int} (h : okI (n * 12) = false) : addY y m d (n * 12) = 0 ∧ addM y m d (n * 12) = 0 ∧ addD y m d (n * 12) = 0 ∧ addE y m d (n * 12) = 1 := by
  refine add_n ?_
  cases hc : addB y m d (n * 12)
  · rfl
  · have h1 := (addB_iff y m d _).1 hc
    have h2 := (right_iff y m d).1 h1.1
    unfold moN at h1
    rw [okI_y (by omega)] at h
    exact Bool.noConfusion h
theorem md_no {y m d n : Int} (h : rightB y m d = false) : mdY y m d n = 0 ∧ mdM y m d n = 0 ∧ mdD y m d n = 0 ∧ mdE y m d n = 1 := md_n (by simp [mdB, h])
theorem md_big {y m d n : Int} (h : ¬ (-100000000 ≤ n ∧ n ≤ 100000000)) : mdY y m d n = 0 ∧ mdM y m d n = 0 ∧ mdD y m d n = 0 ∧ mdE y m d n = 1 := by
  refine md_n ?_
  cases hr : rightB y m d
  · simp [mdB, hr]
  · obtain ⟨a, b, c, e, f, g⟩ := (right_iff y m d).1 hr
    have ml := mlen_bd y m
    obtain ⟨n0, n1⟩ := numb_bd y m d (by omega)
    have l := dt_iff (numb y m d)
    have := (numb_ok0 hr)
    have l2 := dt_iff (numb y m d + n)
    cases hd : dtOk (numb y m d + n)
    · simp [mdB, hd]
    · have := l2.1 hd
      have := l.1 (numb_ok0 hr)
      omega
set_option maxHeartbeats 2000000 in
theorem monthly_Days (y m d n : Int) (ky : I64 y) (kn : I64 n) (w : World) : Calls Tryd.prog 24 #[dat y m d, .int .i64 n] w fun e w' => e = .returned (.tuple #[dat (mdY y m d n) (mdM y m d n) (mdD y m d n), .int .i64 (mdE y m d n)]) ∧ Below w.heap.size w w' := by
  have hD := fun w => civil_Days y m d ky w
  cases hr : rightB y m d
  · obtain ⟨e1, e2, e3, e4⟩ := md_no (n := n) hr
    rw [e1, e2, e3, e4]
    rw [show dayV y m d = 0 by simp [dayV, hr], show dayE y m d = 1 by simp [dayE, hr]] at hD
    clear e1 e2 e3 e4 hr
    go_enter Tryd.func24, Tryd.ntmps24
    go_wp2_with (go_at_call 22; refine (hD _).mono ?_; rintro e w1 ⟨rfl, hb⟩; obtain ⟨hc, hf⟩ := bcell hb; have z := hb.size; (try simp at z); have z0 : w.heap.size < w1.heap.size := (by omega); have z1 : w.heap.size + 1 < w1.heap.size := (by omega); have d0 : w1.cell? ⟨w.heap.size + 1, 0, none⟩ = some (.int .i64 0) := (hb.cell (p := ⟨w.heap.size + 1, 0, none⟩) (by first | (simp; done) | (simp; omega) | omega)).trans (by go_simp); have g0 : w1.frozen? ⟨w.heap.size + 1, 0, none⟩ = false := (hb.frozen (p := ⟨w.heap.size + 1, 0, none⟩) (by first | (simp; done) | (simp; omega) | omega)).trans (by go_simp); have d1 : w1.cell? ⟨w.heap.size + 1, 1, none⟩ = some (.int .i64 0) := (hb.cell (p := ⟨w.heap.size + 1, 1, none⟩) (by first | (simp; done) | (simp; omega) | omega)).trans (by go_simp); have g1 : w1.frozen? ⟨w.heap.size + 1, 1, none⟩ = false := (hb.frozen (p := ⟨w.heap.size + 1, 1, none⟩) (by first | (simp; done) | (simp; omega) | omega)).trans (by go_simp); have d2 : w1.cell? ⟨w.heap.size + 1, 2, none⟩ = some (.int .i64 0) := (hb.cell (p := ⟨w.heap.size + 1, 2, none⟩) (by first | (simp; done) | (simp; omega) | omega)).trans (by go_simp); have g2 : w1.frozen? ⟨w.heap.size + 1, 2, none⟩ = false := (hb.frozen (p := ⟨w.heap.size + 1, 2, none⟩) (by first | (simp; done) | (simp; omega) | omega)).trans (by go_simp))
    refine bodyPost_ret (v := .tuple #[dat _ _ _, .int .i64 _]) (by simp [results, Tryd.results24, go_sem, *]) rfl ⟨rfl, ?_⟩
    (focus (repeat' (first | exact Below.refl _ _ | refine Below.alloc ?_ ?_ _ | refine Below.setCell ?_ ?_ _ | refine Below.drew ?_ | refine below_drewN ?_ _ | refine Below.trans ?_ (Below.mono (by assumption) ?_) | refine Below.trans ?_ (Below.mono (BW.below _) ?_) | (simp; done) | (simp; omega) | omega)))
  · rw [show dayV y m d = numb y m d by simp [dayV, hr], show dayE y m d = 0 by simp [dayE, hr]] at hD
    obtain ⟨a, b, c, e, f, g⟩ := (right_iff y m d).1 hr
    have ml := mlen_bd y m
    obtain ⟨n0, n1⟩ := numb_bd y m d (by omega)
    have hA := fun w => num_Add (numb y m d) n (I64.sm (by omega)) kn w
    cases ho : okI (numb y m d + n)
    · obtain ⟨e1, e2, e3, e4⟩ := md_big (y := y) (m := m) (d := d) (n := n) (by
        rintro ⟨h1, h2⟩
        rw [okI_y (by omega)] at ho
        exact Bool.noConfusion ho)
      rw [e1, e2, e3, e4]
      rw [(valI_n ho).1, (valI_n ho).2] at hA
      clear e1 e2 e3 e4 ho hr a b c e f g ml
      generalize numb y m d = N at *
      go_enter Tryd.func24, Tryd.ntmps24
      go_wp2_with (first | (go_at_call 22; refine (hD _).mono ?_; rintro e w1 ⟨rfl, hb⟩; obtain ⟨hc, hf⟩ := bcell hb; have z := hb.size; (try simp at z); have z0 : w.heap.size < w1.heap.size := (by omega); have z1 : w.heap.size + 1 < w1.heap.size := (by omega); have d0 : w1.cell? ⟨w.heap.size + 1, 0, none⟩ = some (.int .i64 0) := (hb.cell (p := ⟨w.heap.size + 1, 0, none⟩) (by first | (simp; done) | (simp; omega) | omega)).trans (by go_simp); have g0 : w1.frozen? ⟨w.heap.size + 1, 0, none⟩ = false := (hb.frozen (p := ⟨w.heap.size + 1, 0, none⟩) (by first | (simp; done) | (simp; omega) | omega)).trans (by go_simp); have d1 : w1.cell? ⟨w.heap.size + 1, 1, none⟩ = some (.int .i64 0) := (hb.cell (p := ⟨w.heap.size + 1, 1, none⟩) (by first | (simp; done) | (simp; omega) | omega)).trans (by go_simp); have g1 : w1.frozen? ⟨w.heap.size + 1, 1, none⟩ = false := (hb.frozen (p := ⟨w.heap.size + 1, 1, none⟩) (by first | (simp; done) | (simp; omega) | omega)).trans (by go_simp); have d2 : w1.cell? ⟨w.heap.size + 1, 2, none⟩ = some (.int .i64 0) := (hb.cell (p := ⟨w.heap.size + 1, 2, none⟩) (by first | (simp; done) | (simp; omega) | omega)).trans (by go_simp); have g2 : w1.frozen? ⟨w.heap.size + 1, 2, none⟩ = false := (hb.frozen (p := ⟨w.heap.size + 1, 2, none⟩) (by first | (simp; done) | (simp; omega) | omega)).trans (by go_simp)) | (go_at_call 32; refine (hA _).mono ?_; rintro e w' ⟨rfl, rfl⟩))
      refine bodyPost_ret (v := .tuple #[dat _ _ _, .int .i64 _]) (by simp [results, Tryd.results24, go_sem, *]) rfl ⟨rfl, ?_⟩
      (focus (repeat' (first | exact Below.refl _ _ | refine Below.alloc ?_ ?_ _ | refine Below.setCell ?_ ?_ _ | refine Below.drew ?_ | refine below_drewN ?_ _ | refine Below.trans ?_ (Below.mono (by assumption) ?_) | refine Below.trans ?_ (Below.mono (BW.below _) ?_) | (simp; done) | (simp; omega) | omega)))
    · obtain ⟨e1, e2, e3, e4⟩ := md_y (n := n) hr
      rw [e1, e2, e3, e4]
      rw [(valI_y ho).1, (valI_y ho).2] at hA
      have hT := fun w => civil_Date (numb y m d + n) w
      clear e1 e2 e3 e4 ho hr a b c e f g ml
      generalize dtY (numb y m d + n) = Y at *
      generalize dtM (numb y m d + n) = M at *
      generalize dtD (numb y m d + n) = D at *
      generalize dtE (numb y m d + n) = E at *
      generalize numb y m d + n = S at *
      generalize numb y m d = N at *
      go_enter Tryd.func24, Tryd.ntmps24
      go_wp2_with (first | (go_at_call 22; refine (hD _).mono ?_; rintro e w1 ⟨rfl, hb⟩; obtain ⟨hc, hf⟩ := bcell hb; have z := hb.size; (try simp at z); have z0 : w.heap.size < w1.heap.size := (by omega); have z1 : w.heap.size + 1 < w1.heap.size := (by omega); have d0 : w1.cell? ⟨w.heap.size + 1, 0, none⟩ = some (.int .i64 0) := (hb.cell (p := ⟨w.heap.size + 1, 0, none⟩) (by first | (simp; done) | (simp; omega) | omega)).trans (by go_simp); have g0 : w1.frozen? ⟨w.heap.size + 1, 0, none⟩ = false := (hb.frozen (p := ⟨w.heap.size + 1, 0, none⟩) (by first | (simp; done) | (simp; omega) | omega)).trans (by go_simp); have d1 : w1.cell? ⟨w.heap.size + 1, 1, none⟩ = some (.int .i64 0) := (hb.cell (p := ⟨w.heap.size + 1, 1, none⟩) (by first | (simp; done) | (simp; omega) | omega)).trans (by go_simp); have g1 : w1.frozen? ⟨w.heap.size + 1, 1, none⟩ = false := (hb.frozen (p := ⟨w.heap.size + 1, 1, none⟩) (by first | (simp; done) | (simp; omega) | omega)).trans (by go_simp); have d2 : w1.cell? ⟨w.heap.size + 1, 2, none⟩ = some (.int .i64 0) := (hb.cell (p := ⟨w.heap.size + 1, 2, none⟩) (by first | (simp; done) | (simp; omega) | omega)).trans (by go_simp); have g2 : w1.frozen? ⟨w.heap.size + 1, 2, none⟩ = false := (hb.frozen (p := ⟨w.heap.size + 1, 2, none⟩) (by first | (simp; done) | (simp; omega) | omega)).trans (by go_simp)) | (go_at_call 32; refine (hA _).mono ?_; rintro e w' ⟨rfl, rfl⟩) | (go_at_call 46; refine (hT _).mono ?_; rintro e w2 ⟨rfl, hb⟩; obtain ⟨hc, hf⟩ := bcell hb; have z := hb.size; (try simp at z); have z0 : w.heap.size < w2.heap.size := (by omega); have z1 : w.heap.size + 1 < w2.heap.size := (by omega); have d0 : w2.cell? ⟨w.heap.size + 1, 0, none⟩ = some (.int .i64 0) := (hb.cell (p := ⟨w.heap.size + 1, 0, none⟩) (by first | (simp; done) | (simp; omega) | omega)).trans (by go_simp); have g0 : w2.frozen? ⟨w.heap.size + 1, 0, none⟩ = false := (hb.frozen (p := ⟨w.heap.size + 1, 0, none⟩) (by first | (simp; done) | (simp; omega) | omega)).trans (by go_simp); have d1 : w2.cell? ⟨w.heap.size + 1, 1, none⟩ = some (.int .i64 0) := (hb.cell (p := ⟨w.heap.size + 1, 1, none⟩) (by first | (simp; done) | (simp; omega) | omega)).trans (by go_simp); have g1 : w2.frozen? ⟨w.heap.size + 1, 1, none⟩ = false := (hb.frozen (p := ⟨w.heap.size + 1, 1, none⟩) (by first | (simp; done) | (simp; omega) | omega)).trans (by go_simp); have d2 : w2.cell? ⟨w.heap.size + 1, 2, none⟩ = some (.int .i64 0) := (hb.cell (p := ⟨w.heap.size + 1, 2, none⟩) (by first | (simp; done) | (simp; omega) | omega)).trans (by go_simp); have g2 : w2.frozen? ⟨w.heap.size + 1, 2, none⟩ = false := (hb.frozen (p := ⟨w.heap.size + 1, 2, none⟩) (by first | (simp; done) | (simp; omega) | omega)).trans (by go_simp)))
      refine bodyPost_ret (v := .tuple #[dat _ _ _, .int .i64 _]) (by simp [results, Tryd.results24, go_sem, *]) rfl ⟨rfl, ?_⟩
      (focus (repeat' (first | exact Below.refl _ _ | refine Below.alloc ?_ ?_ _ | refine Below.setCell ?_ ?_ _ | refine Below.drew ?_ | refine below_drewN ?_ _ | refine Below.trans ?_ (Below.mono (by assumption) ?_) | refine Below.trans ?_ (Below.mono (BW.below _) ?_) | (simp; done) | (simp; omega) | omega)))
end Go.Proofs.YtblmlglkjmilkacDoor
