/-
  Contracts of the names of days: within, Right, Fits, back, Window, Days.
-/
import Derived.Test.YtjddmcecllhlhaaDoorDayP
import Derived.Test.YtjddmcecllhlhaaDoorCivF
namespace Go.Proofs.YtjddmcecllhlhaaDoor
open Go.RowKit Cal
attribute [local go_sem] BW.cell BW.frozen
theorem dayrule_within (n l h : Int) (w : World) : Calls Tryd.prog 68 #[.int .i64 n, .int .i64 l, .int .i64 h] w fun e w' => e = .returned (.bool (inB n l h)) ∧ w = w' := by
  go_enter Tryd.func68, Tryd.ntmps68
  go_wp2
  all_goals go_ret
  all_goals exact ⟨ret_bool (by rw [Bool.eq_iff_iff]; simp [inB]; try omega), rfl⟩

theorem dayrule_Right_1 (k d : Int) (wk : Int) (hk : k = 1) (w : World) : Calls Tryd.prog 67 #[dat k wk d] w fun e w' => e = .returned (.bool (onOk k wk d)) ∧ Below w.heap.size w w' := by
  subst hk
  have hw := fun w => dayrule_within wk 0 6 w
  cases hc : inB wk 0 6
  · rw [hc] at hw
    have hc' := Lib.hid hc
    clear hc
    go_enter Tryd.func67, Tryd.ntmps67
    go_wp2_with (go_at_call 68; with_reducible refine (hw _).mono ?_; rintro e w' ⟨rfl, rfl⟩)
    go_ret
    exact ⟨ret_bool (by have := inB_no.1 hc'.out; symm; simp [onOk]; omega), by (focus (repeat' (first | exact Below.refl _ _ | refine Below.alloc ?_ ?_ _ | refine Below.setCell ?_ ?_ _ | refine Below.drew ?_ | refine below_drewN ?_ _ | refine Below.trans ?_ (Below.mono (by assumption) ?_) | refine Below.trans ?_ (Below.mono (BW.below _) ?_) | (simp; done) | (simp; omega) | omega)))⟩
  · rw [hc] at hw
    have hc' := Lib.hid hc
    clear hc
    go_enter Tryd.func67, Tryd.ntmps67
    go_wp2_with (go_at_call 68; with_reducible refine (hw _).mono ?_; rintro e w' ⟨rfl, rfl⟩)
    go_ret
    exact ⟨ret_bool (by have := inB_iff.1 hc'.out; rw [Bool.eq_iff_iff]; simp [onOk]; omega), by (focus (repeat' (first | exact Below.refl _ _ | refine Below.alloc ?_ ?_ _ | refine Below.setCell ?_ ?_ _ | refine Below.drew ?_ | refine below_drewN ?_ _ | refine Below.trans ?_ (Below.mono (by assumption) ?_) | refine Below.trans ?_ (Below.mono (BW.below _) ?_) | (simp; done) | (simp; omega) | omega)))⟩
theorem dayrule_Right_n (k d : Int) (wk : Int) (hk : (k == 1) = false) (w : World) : Calls Tryd.prog 67 #[dat k wk d] w fun e w' => e = .returned (.bool (onOk k wk d)) ∧ Below w.heap.size w w' := by
  have hk1 : k ≠ 1 := by simpa using hk
  have hA := fun w => dayrule_within k 0 3 w
  have hB := fun w => dayrule_within wk 0 6 w
  have hC := fun w => dayrule_within wk 0 0 w
  have hD := fun w => dayrule_within d 1 31 w
  cases ha : inB k 0 3
  · rw [ha] at hA
    have hk0 : (k == 0) = false := by have := inB_no.1 ha; simp; omega
    have ha' := Lib.hid ha
    clear ha
    go_enter Tryd.func67, Tryd.ntmps67
    go_wp2_with (go_at_call 68; with_reducible refine (hA _).mono ?_; rintro e w' ⟨rfl, rfl⟩)
    go_ret
    exact ⟨ret_bool (by have := inB_no.1 ha'.out; symm; simp [onOk]; omega), by (focus (repeat' (first | exact Below.refl _ _ | refine Below.alloc ?_ ?_ _ | refine Below.setCell ?_ ?_ _ | refine Below.drew ?_ | refine below_drewN ?_ _ | refine Below.trans ?_ (Below.mono (by assumption) ?_) | refine Below.trans ?_ (Below.mono (BW.below _) ?_) | (simp; done) | (simp; omega) | omega)))⟩
  · rw [ha] at hA
    have ha' := Lib.hid ha
    clear ha
    by_cases h0 : k = 0
    · subst h0
      cases hc : inB wk 0 0
      all_goals
        rw [hc] at hC
        have hc' := Lib.hid hc
        clear hc
        go_enter Tryd.func67, Tryd.ntmps67
        go_wp2_with (first | (go_at_call 68; with_reducible refine (hA _).mono ?_; rintro e w' ⟨rfl, rfl⟩) | (go_at_call 68; with_reducible refine (hC _).mono ?_; rintro e w' ⟨rfl, rfl⟩) | (go_at_call 68; with_reducible refine (hD _).mono ?_; rintro e w' ⟨rfl, rfl⟩))
        go_ret
        exact ⟨ret_bool (by rw [onOk_0, hc'.out]; rfl), by (focus (repeat' (first | exact Below.refl _ _ | refine Below.alloc ?_ ?_ _ | refine Below.setCell ?_ ?_ _ | refine Below.drew ?_ | refine below_drewN ?_ _ | refine Below.trans ?_ (Below.mono (by assumption) ?_) | refine Below.trans ?_ (Below.mono (BW.below _) ?_) | (simp; done) | (simp; omega) | omega)))⟩
    · have hk0 : (k == 0) = false := by simpa using h0
      cases hc : inB wk 0 6
      all_goals
        rw [hc] at hB
        have hc' := Lib.hid hc
        clear hc
        go_enter Tryd.func67, Tryd.ntmps67
        go_wp2_with (first | (go_at_call 68; with_reducible refine (hA _).mono ?_; rintro e w' ⟨rfl, rfl⟩) | (go_at_call 68; with_reducible refine (hB _).mono ?_; rintro e w' ⟨rfl, rfl⟩) | (go_at_call 68; with_reducible refine (hD _).mono ?_; rintro e w' ⟨rfl, rfl⟩))
        go_ret
        exact ⟨ret_bool (by rw [onOk_n k wk d ha'.out h0 hk1, hc'.out]; rfl), by (focus (repeat' (first | exact Below.refl _ _ | refine Below.alloc ?_ ?_ _ | refine Below.setCell ?_ ?_ _ | refine Below.drew ?_ | refine below_drewN ?_ _ | refine Below.trans ?_ (Below.mono (by assumption) ?_) | refine Below.trans ?_ (Below.mono (BW.below _) ?_) | (simp; done) | (simp; omega) | omega)))⟩
theorem dayrule_Right (k wk d : Int) (w : World) : Calls Tryd.prog 67 #[dat k wk d] w fun e w' => e = .returned (.bool (onOk k wk d)) ∧ Below w.heap.size w w' := by
  by_cases h : k = 1
  · exact dayrule_Right_1 k d wk h w
  · exact dayrule_Right_n k d wk (by simpa using h) w

theorem dayrule_Fits (k wk d m : Int) (w : World) : Calls Tryd.prog 40 #[dat k wk d, .int .i64 m] w fun e w' => e = .returned (.bool (onFits k wk d m)) ∧ Below w.heap.size w w' := by
  have hR := fun w => dayrule_Right k wk d w
  have hM := fun w => dayrule_within m 1 12 w
  have hL := fun w => civil_Len 1 m (I64.sm (by omega)) w
  have e : onFits k wk d m = (onOk k wk d && (inB m 1 12 && decide (d ≤ mlen 1 m))) := rfl
  rw [e]
  clear e
  generalize onOk k wk d = a at *
  generalize inB m 1 12 = b at *
  cases a
  all_goals cases b
  all_goals
    go_enter Tryd.func40, Tryd.ntmps40
    go_wp2_with (fail)
    refine wp_region_bw (by kernel_rfl) (by kernel_rfl) ?_; (repeat (go_big_quiet_step ((first | (go_at_call 67; exact bw_call (hR _)) | (go_at_call 68; exact bw_same (hM _)) | (go_at_call 69; exact bw_same (hL _)))))); refine wpQuiet_nil ?_; intro _ hw'; obtain ⟨xq, hw''⟩ := hw'; subst hw''
    go_wp2_with (fail)
    go_ret
    exact ⟨rfl, by (focus (repeat' (first | exact Below.refl _ _ | refine Below.alloc ?_ ?_ _ | refine Below.setCell ?_ ?_ _ | refine Below.drew ?_ | refine below_drewN ?_ _ | refine Below.trans ?_ (Below.mono (by assumption) ?_) | refine Below.trans ?_ (Below.mono (BW.below _) ?_) | (simp; done) | (simp; omega) | omega)))⟩

theorem dayrule_back (n wk : Int) (kn : I64 n) (h0 : 0 ≤ wk) (h1 : wk ≤ 6) (w : World) : Calls Tryd.prog 98 #[.int .i64 n, .int .i64 wk] w fun e w' => e = .returned (.int .i64 (backI n wk)) ∧ Below w.heap.size w w' := by
  have hW := fun w => civil_Weekday n kn w
  obtain ⟨b0, b1⟩ := wday_bd n
  have e : backI n wk = (wday n - wk + 7) % 7 := rfl
  rw [e]
  clear e
  generalize wday n = x at *
  have e : (x - wk + 7).tmod 7 = (x - wk + 7) % 7 := by rw [Int.tmod_eq_emod_of_nonneg (by omega)]
  have t0 : 0 ≤ (x - wk + 7) % 7 := by omega
  have t1 : (x - wk + 7) % 7 ≤ 6 := by omega
  have E := Lib.hid e
  rw [← e] at t0 t1
  clear e
  go_enter Tryd.func98, Tryd.ntmps98
  go_wp2_with (go_at_call 122; refine (hW _).mono ?_; rintro e w1 ⟨rfl, hb⟩; obtain ⟨hc, hf⟩ := bcell hb; have z := hb.size; (try simp at z))
  go_ret
  exact ⟨ret_int (by first | rfl | rw [E.out]), by (focus (repeat' (first | exact Below.refl _ _ | refine Below.alloc ?_ ?_ _ | refine Below.setCell ?_ ?_ _ | refine Below.drew ?_ | refine below_drewN ?_ _ | refine Below.trans ?_ (Below.mono (by assumption) ?_) | refine Below.trans ?_ (Below.mono (BW.below _) ?_) | (simp; done) | (simp; omega) | omega)))⟩

theorem win_y {k w d m : Int} (h : onFits k w d m = true) : winL k w d m = (if k = 1 then mlen 1 m - 6 else if k = 3 then d - 6 else d) ∧ winH k w d m = (if k = 1 then mlen 4 m else if k = 2 then d + 6 else d) ∧ winE k w d m = 0 := by simp [winL, winH, winE, h]
theorem win_n {k w d m : Int} (h : onFits k w d m = false) : winL k w d m = 0 ∧ winH k w d m = 0 ∧ winE k w d m = 4 := by simp [winL, winH, winE, h]
theorem rule_y {k w d y m : Int} (h : onFits k w d m = true) (hy : inB y (-39999) 39999 = true) : ruleV k w d y m = ruleN k w d y m ∧ ruleE k w d y m = 0 := by simp [ruleV, ruleE, h, hy]
theorem rule_r {k w d y m : Int} (h : onFits k w d m = true) (hy : inB y (-39999) 39999 = false) : ruleV k w d y m = 0 ∧ ruleE k w d y m = 1 := by simp [ruleV, ruleE, h, hy]
theorem rule_n {k w d y m : Int} (h : onFits k w d m = false) : ruleV k w d y m = 0 ∧ ruleE k w d y m = 4 := by simp [ruleV, ruleE, h]
/-- What fits, by its kind, with bounds. -/
theorem fit_kinds {k w d m : Int} (h : onFits k w d m = true) : 1 ≤ m ∧ m ≤ 12 ∧ 0 ≤ d ∧ d ≤ 31 ∧ 0 ≤ w ∧ w ≤ 6 ∧ d ≤ mlen 1 m ∧ (k = 1 ∨ k = 0 ∨ k = 2 ∨ k = 3) := by
  obtain ⟨a, b, c, e⟩ := (fits_iff k w d m).1 h
  have a := (ok_iff k w d).1 a
  have ml := mlen_bd 1 m
  omega

end Go.Proofs.YtjddmcecllhlhaaDoor
