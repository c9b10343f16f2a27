/-
  Contracts of the days by their weeks: dates, and the reference.
-/
import Derived.Test.YtblmlglkjmilkacDoorWeeC
namespace Go.Proofs.YtblmlglkjmilkacDoor
open Go.RowKit Cal
attribute [local go_sem] BW.cell BW.frozen

set_option maxRecDepth 100000 in
set_option maxHeartbeats 1000000 in
theorem week_Date (y k d : Int) (w : World) : Calls Tryd.prog 13 #[dat y k d] w fun e w' => e = .returned (.tuple #[dat (wdY y k d) (wdM y k d) (wdD y k d), .int .i64 (wdE y k d)]) ∧ Below w.heap.size w w' := by
  have hR := fun w => week_Right y k d w
  cases h : wkB y k d
  · obtain ⟨e1, e2, e3, e4⟩ := wd_n h
    rw [e1, e2, e3, e4]
    rw [h] at hR
    clear h e1 e2 e3 e4
    go_enter Tryd.func13, Tryd.ntmps13
    go_wp2_with (go_at_call 17; refine (hR _).mono ?_; rintro e w1 ⟨rfl, hb⟩; obtain ⟨hc, hf⟩ := bcell hb; have z := hb.size; (try simp at z); have z0 : w.heap.size < w1.heap.size := (by omega); have z1 : w.heap.size + 1 < w1.heap.size := (by omega); have d0 : w1.cell? ⟨w.heap.size + 1, 0, none⟩ = some (.int .i64 0) := (hb.cell (p := ⟨w.heap.size + 1, 0, none⟩) (by first | (simp; done) | (simp; omega) | omega)).trans (by go_simp); have g0 : w1.frozen? ⟨w.heap.size + 1, 0, none⟩ = false := (hb.frozen (p := ⟨w.heap.size + 1, 0, none⟩) (by first | (simp; done) | (simp; omega) | omega)).trans (by go_simp); have d1 : w1.cell? ⟨w.heap.size + 1, 1, none⟩ = some (.int .i64 0) := (hb.cell (p := ⟨w.heap.size + 1, 1, none⟩) (by first | (simp; done) | (simp; omega) | omega)).trans (by go_simp); have g1 : w1.frozen? ⟨w.heap.size + 1, 1, none⟩ = false := (hb.frozen (p := ⟨w.heap.size + 1, 1, none⟩) (by first | (simp; done) | (simp; omega) | omega)).trans (by go_simp); have d2 : w1.cell? ⟨w.heap.size + 1, 2, none⟩ = some (.int .i64 0) := (hb.cell (p := ⟨w.heap.size + 1, 2, none⟩) (by first | (simp; done) | (simp; omega) | omega)).trans (by go_simp); have g2 : w1.frozen? ⟨w.heap.size + 1, 2, none⟩ = false := (hb.frozen (p := ⟨w.heap.size + 1, 2, none⟩) (by first | (simp; done) | (simp; omega) | omega)).trans (by go_simp))
    refine bodyPost_ret (v := .tuple #[dat _ _ _, .int .i64 _]) (by simp [results, Tryd.results13, go_sem, *]) rfl ⟨rfl, ?_⟩
    (focus (repeat' (first | exact Below.refl _ _ | refine Below.alloc ?_ ?_ _ | refine Below.setCell ?_ ?_ _ | refine Below.drew ?_ | refine below_drewN ?_ _ | refine Below.trans ?_ (Below.mono (by assumption) ?_) | refine Below.trans ?_ (Below.mono (BW.below _) ?_) | (simp; done) | (simp; omega) | omega)))
  · obtain ⟨e1, e2, e3, e4⟩ := wd_y h
    rw [e1, e2, e3, e4]
    rw [h] at hR
    obtain ⟨f0, f1, k0, k1, d0, d1, y0, y1⟩ := wk_small h
    have hF := fun w => week_first y y0 y1 w
    have hD := fun w => civil_Date (wkN y k d) w
    have eN : wkN y k d = wfst y + ((k - 1) * 7 + d - 1) := rfl
    rw [eN]
    rw [eN] at hD
    clear h e1 e2 e3 e4 eN
    generalize wfst y = f at *
    go_enter Tryd.func13, Tryd.ntmps13
    go_wp2_with (go_at_call 17; refine (hR _).mono ?_; rintro e w1 ⟨rfl, hb⟩; obtain ⟨hc, hf⟩ := bcell hb; have z := hb.size; (try simp at z); have z0 : w.heap.size < w1.heap.size := (by omega); have z1 : w.heap.size + 1 < w1.heap.size := (by omega); have d0 : w1.cell? ⟨w.heap.size + 1, 0, none⟩ = some (.int .i64 0) := (hb.cell (p := ⟨w.heap.size + 1, 0, none⟩) (by first | (simp; done) | (simp; omega) | omega)).trans (by go_simp); have g0 : w1.frozen? ⟨w.heap.size + 1, 0, none⟩ = false := (hb.frozen (p := ⟨w.heap.size + 1, 0, none⟩) (by first | (simp; done) | (simp; omega) | omega)).trans (by go_simp); have d1 : w1.cell? ⟨w.heap.size + 1, 1, none⟩ = some (.int .i64 0) := (hb.cell (p := ⟨w.heap.size + 1, 1, none⟩) (by first | (simp; done) | (simp; omega) | omega)).trans (by go_simp); have g1 : w1.frozen? ⟨w.heap.size + 1, 1, none⟩ = false := (hb.frozen (p := ⟨w.heap.size + 1, 1, none⟩) (by first | (simp; done) | (simp; omega) | omega)).trans (by go_simp); have d2 : w1.cell? ⟨w.heap.size + 1, 2, none⟩ = some (.int .i64 0) := (hb.cell (p := ⟨w.heap.size + 1, 2, none⟩) (by first | (simp; done) | (simp; omega) | omega)).trans (by go_simp); have g2 : w1.frozen? ⟨w.heap.size + 1, 2, none⟩ = false := (hb.frozen (p := ⟨w.heap.size + 1, 2, none⟩) (by first | (simp; done) | (simp; omega) | omega)).trans (by go_simp))
    have c0 : w1.cell? ⟨w.heap.size, 0, none⟩ = some (.int .i64 y) := (hb.cell (p := ⟨w.heap.size, 0, none⟩) (by simp; omega)).trans (by go_simp)
    have c1 : w1.cell? ⟨w.heap.size, 1, none⟩ = some (.int .i64 k) := (hb.cell (p := ⟨w.heap.size, 1, none⟩) (by simp; omega)).trans (by go_simp)
    have c2 : w1.cell? ⟨w.heap.size, 2, none⟩ = some (.int .i64 d) := (hb.cell (p := ⟨w.heap.size, 2, none⟩) (by simp; omega)).trans (by go_simp)
    refine wp_region_bw_tail 15 (by kernel_rfl) (by kernel_rfl) ?_; simp only [List.take_succ_cons, List.take_zero, List.drop_succ_cons, List.drop_zero]; (repeat (go_big_quiet_step ((first | (go_at_call 47; exact bw_call (hF _)) | (go_at_call 46; exact bw_call (hD _)))))); refine wpQuiet_nil ?_; intro _ hw'; obtain ⟨xq, hw''⟩ := hw'; subst hw''
    have zq : w.heap.size + 1 < xq.val.heap.size := Nat.lt_of_lt_of_le (by first | (simp; done) | (simp; omega) | omega) xq.below.size
    have cx0 : xq.val.cell? ⟨w.heap.size + 1, 0, none⟩ = some (.int .i64 0) := (xq.cell (w.heap.size + 1) 0 (by first | (simp; done) | (simp; omega) | omega)).trans (by go_simp)
    have fx0 : xq.val.frozen? ⟨w.heap.size + 1, 0, none⟩ = false := (xq.frozen (w.heap.size + 1) 0 (by first | (simp; done) | (simp; omega) | omega)).trans (by go_simp)
    have cx1 : xq.val.cell? ⟨w.heap.size + 1, 1, none⟩ = some (.int .i64 0) := (xq.cell (w.heap.size + 1) 1 (by first | (simp; done) | (simp; omega) | omega)).trans (by go_simp)
    have fx1 : xq.val.frozen? ⟨w.heap.size + 1, 1, none⟩ = false := (xq.frozen (w.heap.size + 1) 1 (by first | (simp; done) | (simp; omega) | omega)).trans (by go_simp)
    have cx2 : xq.val.cell? ⟨w.heap.size + 1, 2, none⟩ = some (.int .i64 0) := (xq.cell (w.heap.size + 1) 2 (by first | (simp; done) | (simp; omega) | omega)).trans (by go_simp)
    have fx2 : xq.val.frozen? ⟨w.heap.size + 1, 2, none⟩ = false := (xq.frozen (w.heap.size + 1) 2 (by first | (simp; done) | (simp; omega) | omega)).trans (by go_simp)
    go_wp2_with fail
    refine bodyPost_ret (v := .tuple #[dat _ _ _, .int .i64 _]) (by simp [results, Tryd.results13, go_sem, *]) rfl ⟨rfl, ?_⟩
    (focus (repeat' (first | exact Below.refl _ _ | refine Below.alloc ?_ ?_ _ | refine Below.setCell ?_ ?_ _ | refine Below.drew ?_ | refine below_drewN ?_ _ | refine Below.trans ?_ (Below.mono (by assumption) ?_) | refine Below.trans ?_ (Below.mono (BW.below _) ?_) | (simp; done) | (simp; omega) | omega)))

theorem rdays_is {y m d : Int} (ky : I64 y) (h : rightB y m d = true) (w : World) : Calls Tryd.prog 48 #[dat y m d] w fun e w' => e = .returned (.tuple #[.int .i64 (numb y m d), .int .i64 0]) ∧ Below w.heap.size w w' := by
  have hd := ref03_Days y m d ky w
  obtain ⟨_, e1, e2, _⟩ | ⟨r, _⟩ := day_cases y m d
  · rwa [e1, e2] at hd
  · rw [h] at r; cases r
theorem ref07_first (y : Int) (h0 : -40000 ≤ y) (h1 : y ≤ 40000) (w : World) : Calls Tryd.prog 49 #[.int .i64 y] w fun e w' => e = .returned (.int .i64 (wfst y)) ∧ Below w.heap.size w w' := by
  have hd := fun w => rdays_is (I64.sm (by omega)) (day_14 h0 h1 (d := 4) (by omega) (by omega)) w
  obtain ⟨b0, b1⟩ := numb_bd y 1 4 (by omega)
  obtain ⟨c0, c1⟩ := wday_bd (numb y 1 4)
  have hw := fun w => ref03_Weekday (numb y 1 4) (I64.sm (by omega)) w
  have e : wfst y = numb y 1 4 - (wday (numb y 1 4) + 6) % 7 := by unfold wfst mon; omega
  rw [e]
  clear e
  generalize wday (numb y 1 4) = x at *
  generalize numb y 1 4 = n at *
  go_enter Tryd.func49, Tryd.ntmps49
  go_wp2_with (first
    | (go_at_call 48; refine (hd _).mono ?_; rintro e w1 ⟨rfl, hb⟩; obtain ⟨hc, hf⟩ := bcell hb; have z := hb.size; (try simp at z))
    | (go_at_call 96; refine (hw _).mono ?_; rintro e w' ⟨rfl, rfl⟩))
  go_ret
  exact ⟨rfl, by (focus (repeat' (first | exact Below.refl _ _ | refine Below.alloc ?_ ?_ _ | refine Below.setCell ?_ ?_ _ | refine Below.drew ?_ | refine below_drewN ?_ _ | refine Below.trans ?_ (Below.mono (by assumption) ?_) | refine Below.trans ?_ (Below.mono (BW.below _) ?_) | (simp; done) | (simp; omega) | omega)))⟩
theorem ref07_Weeks (y : Int) (w : World) : Calls Tryd.prog 16 #[.int .i64 y] w fun e w' => e = .returned (.int .i64 (weeks y)) ∧ Below w.heap.size w w' := by
  by_cases h0 : -39999 ≤ y
  · by_cases h1 : y ≤ 39999
    · rw [weeks_y h0 h1]
      have hs := wfst_succ y
      have hc := wksOf_cases y
      have f1 := fun w => ref07_first y (by omega) (by omega) w
      have f2 := fun w => ref07_first (y + 1) (by omega) (by omega) w
      have wf := wfst_bd y
      have fb : -20000000 ≤ Cal.ahead y ∧ Cal.ahead y ≤ 20000000 := by
        unfold Cal.ahead Cal.leaps
        omega
      rw [hs] at f2
      have a0 : -30000000 ≤ wfst y := by omega
      have a1 : wfst y ≤ 30000000 := by omega
      have b0 : 0 ≤ wksOf y := by omega
      have b1 : wksOf y ≤ 60 := by omega
      clear hs hc wf fb
      generalize wfst y = f at *
      generalize wksOf y = k at *
      go_enter Tryd.func16, Tryd.ntmps16
      go_wp2_with fail
      refine (f2 _).mono ?_
      rintro e w1 ⟨rfl, hb1⟩
      go_wp2_with fail
      refine (f1 _).mono ?_
      rintro e w2 ⟨rfl, hb2⟩
      go_wp2_with fail
      go_ret
      exact ⟨ret_int (by omega), hb1.trans (hb2.mono hb1.size)⟩
    · rw [weeks_n (by omega)]
      have h1' : 39999 < y := by omega
      go_enter Tryd.func16, Tryd.ntmps16
      go_wp2
      go_ret
      exact ⟨rfl, by (focus (repeat' (first | exact Below.refl _ _ | refine Below.alloc ?_ ?_ _ | refine Below.setCell ?_ ?_ _ | refine Below.drew ?_ | refine below_drewN ?_ _ | refine Below.trans ?_ (Below.mono (by assumption) ?_) | refine Below.trans ?_ (Below.mono (BW.below _) ?_) | (simp; done) | (simp; omega) | omega)))⟩
  · rw [weeks_n (by omega)]
    have h0' : y < -39999 := by omega
    go_enter Tryd.func16, Tryd.ntmps16
    go_wp2
    go_ret
    exact ⟨rfl, by (focus (repeat' (first | exact Below.refl _ _ | refine Below.alloc ?_ ?_ _ | refine Below.setCell ?_ ?_ _ | refine Below.drew ?_ | refine below_drewN ?_ _ | refine Below.trans ?_ (Below.mono (by assumption) ?_) | refine Below.trans ?_ (Below.mono (BW.below _) ?_) | (simp; done) | (simp; omega) | omega)))⟩
theorem ref07_Right (y k d : Int) (w : World) : Calls Tryd.prog 18 #[dat y k d] w fun e w' => e = .returned (.bool (wkB y k d)) ∧ Below w.heap.size w w' := by
  have hW := fun w => ref07_Weeks y w
  rcases wk_cases y k d with ⟨h1, h2, h3, h4, e⟩ | ⟨h1, e⟩ | ⟨h1, h2, e⟩ | ⟨h1, h2, h3, e⟩ | ⟨h1, h2, h3, h4, e⟩
  all_goals
    rw [e]
    clear e
    generalize weeks y = n at *
    go_enter Tryd.func18, Tryd.ntmps18
    go_wp2_with (fail)
    refine wp_region_bw (by kernel_rfl) (by kernel_rfl) ?_; (repeat (go_big_quiet_step ((go_at_call 16; exact bw_call (hW _))))); refine wpQuiet_nil ?_; intro _ hw'; obtain ⟨xq, hw''⟩ := hw'; subst hw''
    go_wp2_with (fail)
    go_ret
    exact ⟨rfl, by (focus (repeat' (first | exact Below.refl _ _ | refine Below.alloc ?_ ?_ _ | refine Below.setCell ?_ ?_ _ | refine Below.drew ?_ | refine below_drewN ?_ _ | refine Below.trans ?_ (Below.mono (by assumption) ?_) | refine Below.trans ?_ (Below.mono (BW.below _) ?_) | (simp; done) | (simp; omega) | omega)))⟩
set_option maxRecDepth 100000 in
set_option maxHeartbeats 1000000 in
theorem ref07_Date (y k d : Int) (w : World) : Calls Tryd.prog 14 #[dat y k d] w fun e w' => e = .returned (.tuple #[dat (wdY y k d) (wdM y k d) (wdD y k d), .int .i64 (wdE y k d)]) ∧ Below w.heap.size w w' := by
  have hR := fun w => ref07_Right y k d w
  cases h : wkB y k d
  · obtain ⟨e1, e2, e3, e4⟩ := wd_n h
    rw [e1, e2, e3, e4]
    rw [h] at hR
    clear h e1 e2 e3 e4
    go_enter Tryd.func14, Tryd.ntmps14
    go_wp2_with (go_at_call 18; refine (hR _).mono ?_; rintro e w1 ⟨rfl, hb⟩; obtain ⟨hc, hf⟩ := bcell hb; have z := hb.size; (try simp at z); have z0 : w.heap.size < w1.heap.size := (by omega); have z1 : w.heap.size + 1 < w1.heap.size := (by omega); have d0 : w1.cell? ⟨w.heap.size + 1, 0, none⟩ = some (.int .i64 0) := (hb.cell (p := ⟨w.heap.size + 1, 0, none⟩) (by first | (simp; done) | (simp; omega) | omega)).trans (by go_simp); have g0 : w1.frozen? ⟨w.heap.size + 1, 0, none⟩ = false := (hb.frozen (p := ⟨w.heap.size + 1, 0, none⟩) (by first | (simp; done) | (simp; omega) | omega)).trans (by go_simp); have d1 : w1.cell? ⟨w.heap.size + 1, 1, none⟩ = some (.int .i64 0) := (hb.cell (p := ⟨w.heap.size + 1, 1, none⟩) (by first | (simp; done) | (simp; omega) | omega)).trans (by go_simp); have g1 : w1.frozen? ⟨w.heap.size + 1, 1, none⟩ = false := (hb.frozen (p := ⟨w.heap.size + 1, 1, none⟩) (by first | (simp; done) | (simp; omega) | omega)).trans (by go_simp); have d2 : w1.cell? ⟨w.heap.size + 1, 2, none⟩ = some (.int .i64 0) := (hb.cell (p := ⟨w.heap.size + 1, 2, none⟩) (by first | (simp; done) | (simp; omega) | omega)).trans (by go_simp); have g2 : w1.frozen? ⟨w.heap.size + 1, 2, none⟩ = false := (hb.frozen (p := ⟨w.heap.size + 1, 2, none⟩) (by first | (simp; done) | (simp; omega) | omega)).trans (by go_simp))
    refine bodyPost_ret (v := .tuple #[dat _ _ _, .int .i64 _]) (by simp [results, Tryd.results14, go_sem, *]) rfl ⟨rfl, ?_⟩
    (focus (repeat' (first | exact Below.refl _ _ | refine Below.alloc ?_ ?_ _ | refine Below.setCell ?_ ?_ _ | refine Below.drew ?_ | refine below_drewN ?_ _ | refine Below.trans ?_ (Below.mono (by assumption) ?_) | refine Below.trans ?_ (Below.mono (BW.below _) ?_) | (simp; done) | (simp; omega) | omega)))
  · obtain ⟨e1, e2, e3, e4⟩ := wd_y h
    rw [e1, e2, e3, e4]
    rw [h] at hR
    obtain ⟨f0, f1, k0, k1, d0, d1, y0, y1⟩ := wk_small h
    have hF := fun w => ref07_first y y0 y1 w
    have hD := fun w => ref03_Date (wkN y k d) w
    have eN : wkN y k d = wfst y + (k - 1) * 7 + (d - 1) := by unfold wkN; omega
    rw [eN]
    rw [eN] at hD
    clear h e1 e2 e3 e4 eN
    generalize wfst y = f at *
    go_enter Tryd.func14, Tryd.ntmps14
    go_wp2_with (go_at_call 18; refine (hR _).mono ?_; rintro e w1 ⟨rfl, hb⟩; obtain ⟨hc, hf⟩ := bcell hb; have z := hb.size; (try simp at z); have z0 : w.heap.size < w1.heap.size := (by omega); have z1 : w.heap.size + 1 < w1.heap.size := (by omega); have d0 : w1.cell? ⟨w.heap.size + 1, 0, none⟩ = some (.int .i64 0) := (hb.cell (p := ⟨w.heap.size + 1, 0, none⟩) (by first | (simp; done) | (simp; omega) | omega)).trans (by go_simp); have g0 : w1.frozen? ⟨w.heap.size + 1, 0, none⟩ = false := (hb.frozen (p := ⟨w.heap.size + 1, 0, none⟩) (by first | (simp; done) | (simp; omega) | omega)).trans (by go_simp); have d1 : w1.cell? ⟨w.heap.size + 1, 1, none⟩ = some (.int .i64 0) := (hb.cell (p := ⟨w.heap.size + 1, 1, none⟩) (by first | (simp; done) | (simp; omega) | omega)).trans (by go_simp); have g1 : w1.frozen? ⟨w.heap.size + 1, 1, none⟩ = false := (hb.frozen (p := ⟨w.heap.size + 1, 1, none⟩) (by first | (simp; done) | (simp; omega) | omega)).trans (by go_simp); have d2 : w1.cell? ⟨w.heap.size + 1, 2, none⟩ = some (.int .i64 0) := (hb.cell (p := ⟨w.heap.size + 1, 2, none⟩) (by first | (simp; done) | (simp; omega) | omega)).trans (by go_simp); have g2 : w1.frozen? ⟨w.heap.size + 1, 2, none⟩ = false := (hb.frozen (p := ⟨w.heap.size + 1, 2, none⟩) (by first | (simp; done) | (simp; omega) | omega)).trans (by go_simp))
    have c0 : w1.cell? ⟨w.heap.size, 0, none⟩ = some (.int .i64 y) := (hb.cell (p := ⟨w.heap.size, 0, none⟩) (by simp; omega)).trans (by go_simp)
    have c1 : w1.cell? ⟨w.heap.size, 1, none⟩ = some (.int .i64 k) := (hb.cell (p := ⟨w.heap.size, 1, none⟩) (by simp; omega)).trans (by go_simp)
    have c2 : w1.cell? ⟨w.heap.size, 2, none⟩ = some (.int .i64 d) := (hb.cell (p := ⟨w.heap.size, 2, none⟩) (by simp; omega)).trans (by go_simp)
    refine wp_region_bw_tail 15 (by kernel_rfl) (by kernel_rfl) ?_; simp only [List.take_succ_cons, List.take_zero, List.drop_succ_cons, List.drop_zero]; (repeat (go_big_quiet_step ((first | (go_at_call 49; exact bw_call (hF _)) | (go_at_call 50; exact bw_call (hD _)))))); refine wpQuiet_nil ?_; intro _ hw'; obtain ⟨xq, hw''⟩ := hw'; subst hw''
    have zq : w.heap.size + 1 < xq.val.heap.size := Nat.lt_of_lt_of_le (by first | (simp; done) | (simp; omega) | omega) xq.below.size
    have cx0 : xq.val.cell? ⟨w.heap.size + 1, 0, none⟩ = some (.int .i64 0) := (xq.cell (w.heap.size + 1) 0 (by first | (simp; done) | (simp; omega) | omega)).trans (by go_simp)
    have fx0 : xq.val.frozen? ⟨w.heap.size + 1, 0, none⟩ = false := (xq.frozen (w.heap.size + 1) 0 (by first | (simp; done) | (simp; omega) | omega)).trans (by go_simp)
    have cx1 : xq.val.cell? ⟨w.heap.size + 1, 1, none⟩ = some (.int .i64 0) := (xq.cell (w.heap.size + 1) 1 (by first | (simp; done) | (simp; omega) | omega)).trans (by go_simp)
    have fx1 : xq.val.frozen? ⟨w.heap.size + 1, 1, none⟩ = false := (xq.frozen (w.heap.size + 1) 1 (by first | (simp; done) | (simp; omega) | omega)).trans (by go_simp)
    have cx2 : xq.val.cell? ⟨w.heap.size + 1, 2, none⟩ = some (.int .i64 0) := (xq.cell (w.heap.size + 1) 2 (by first | (simp; done) | (simp; omega) | omega)).trans (by go_simp)
    have fx2 : xq.val.frozen? ⟨w.heap.size + 1, 2, none⟩ = false := (xq.frozen (w.heap.size + 1) 2 (by first | (simp; done) | (simp; omega) | omega)).trans (by go_simp)
    go_wp2_with fail
    refine bodyPost_ret (v := .tuple #[dat _ _ _, .int .i64 _]) (by simp [results, Tryd.results14, go_sem, *]) rfl ⟨rfl, ?_⟩
    (focus (repeat' (first | exact Below.refl _ _ | refine Below.alloc ?_ ?_ _ | refine Below.setCell ?_ ?_ _ | refine Below.drew ?_ | refine below_drewN ?_ _ | refine Below.trans ?_ (Below.mono (by assumption) ?_) | refine Below.trans ?_ (Below.mono (BW.below _) ?_) | (simp; done) | (simp; omega) | omega)))

end Go.Proofs.YtblmlglkjmilkacDoor
