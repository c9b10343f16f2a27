/-
  Contracts of the numbers of dates, and of the days of the year.
-/
import Derived.Test.YtjddmcecllhlhaaDoorCivB
namespace Go.Proofs.YtjddmcecllhlhaaDoor
open Go.RowKit Cal
attribute [local go_sem] BW.cell BW.frozen
theorem march_bd (m : Int) (h0 : 0 ≤ m) (h1 : m ≤ 12) : 0 ≤ march m ∧ march m ≤ 400 := by unfold march; omega
theorem cnum_lo (y m d : Int) (h : m - 3 < 0) : cnum y m d = (y - 1) / 400 * 146097 + (y - 1) % 400 * 365 + (y - 1) % 400 / 4 - (y - 1) % 400 / 100 + (march (m - 3 + 12) + d - 1) - 719468 := by
  unfold cnum; simp only [if_pos h]
theorem cnum_hi (y m d : Int) (h : ¬ m - 3 < 0) : cnum y m d = y / 400 * 146097 + y % 400 * 365 + y % 400 / 4 - y % 400 / 100 + (march (m - 3) + d - 1) - 719468 := by
  unfold cnum; simp only [if_neg h]
theorem civil_number (y m d : Int) (hy0 : -50000 ≤ y) (hy1 : y ≤ 50000) (hm0 : 1 ≤ m) (hm1 : m ≤ 12) (hd0 : 1 ≤ d) (hd1 : d ≤ 31) (w : World) :
    Calls Tryd.prog 121 #[dat y m d] w fun e w' => e = .returned (.int .i64 (numb y m d)) ∧ Below w.heap.size w w' := by
  rw [← cnum_eq y m d ⟨hm0, hm1⟩]
  by_cases h : m - 3 < 0
  · rw [cnum_lo y m d h]
    have ky : I64 (y - 1) := I64.sm (by omega)
    obtain ⟨k0, k1⟩ := march_bd (m - 3 + 12) (by omega) (by omega)
    have q0 : -130 ≤ (y - 1) / 400 := by omega
    have q1 : (y - 1) / 400 ≤ 130 := by omega
    have r0 : 0 ≤ (y - 1) % 400 := by omega
    have r1 : (y - 1) % 400 < 400 := by omega
    go_enter Tryd.func121, Tryd.ntmps121
    go_wp2_with (fail)
    go_quiet (fail)
    go_wp2_with (go_at_call 130; refine (num_Div _ _ ky (by omega) (by omega) _).mono ?_; rintro e w1 ⟨rfl, hb⟩; obtain ⟨hc, hf⟩ := bcell hb; have z := hb.size; (try simp at z); have z0 : w.heap.size < w1.heap.size := (by omega))
    refine wp_region_bw (by kernel_rfl) (by kernel_rfl) ?_; (repeat (go_big_quiet_step ((go_at_call 131; exact bw_same (civil_march _ (by omega) (by omega) _))))); refine wpQuiet_nil ?_; intro _ hw'; obtain ⟨xq, hw''⟩ := hw'; subst hw''
    go_wp2_with (fail)
    go_ret
    exact ⟨rfl, by (focus (repeat' (first | exact Below.refl _ _ | refine Below.alloc ?_ ?_ _ | refine Below.setCell ?_ ?_ _ | refine Below.drew ?_ | refine below_drewN ?_ _ | refine Below.trans ?_ (Below.mono (by assumption) ?_) | refine Below.trans ?_ (Below.mono (BW.below _) ?_) | (simp; done) | (simp; omega) | omega)))⟩
  · rw [cnum_hi y m d h]
    have ky : I64 y := I64.sm (by omega)
    obtain ⟨k0, k1⟩ := march_bd (m - 3) (by omega) (by omega)
    have q0 : -130 ≤ y / 400 := by omega
    have q1 : y / 400 ≤ 130 := by omega
    have r0 : 0 ≤ y % 400 := by omega
    have r1 : y % 400 < 400 := by omega
    go_enter Tryd.func121, Tryd.ntmps121
    go_wp2_with (fail)
    go_quiet (fail)
    go_wp2_with (go_at_call 130; refine (num_Div _ _ ky (by omega) (by omega) _).mono ?_; rintro e w1 ⟨rfl, hb⟩; obtain ⟨hc, hf⟩ := bcell hb; have z := hb.size; (try simp at z); have z0 : w.heap.size < w1.heap.size := (by omega))
    refine wp_region_bw (by kernel_rfl) (by kernel_rfl) ?_; (repeat (go_big_quiet_step ((go_at_call 131; exact bw_same (civil_march _ (by omega) (by omega) _))))); refine wpQuiet_nil ?_; intro _ hw'; obtain ⟨xq, hw''⟩ := hw'; subst hw''
    go_wp2_with (fail)
    go_ret
    exact ⟨rfl, by (focus (repeat' (first | exact Below.refl _ _ | refine Below.alloc ?_ ?_ _ | refine Below.setCell ?_ ?_ _ | refine Below.drew ?_ | refine below_drewN ?_ _ | refine Below.trans ?_ (Below.mono (by assumption) ?_) | refine Below.trans ?_ (Below.mono (BW.below _) ?_) | (simp; done) | (simp; omega) | omega)))⟩

/-- The number of a date, and the error. -/
def dayV (y m d : Int) : Int := if rightB y m d = true then numb y m d else 0
def dayE (y m d : Int) : Int := if rightB y m d = true then 0 else 1
theorem day_cases (y m d : Int) : (rightB y m d = true ∧ dayV y m d = numb y m d ∧ dayE y m d = 0 ∧ (-40000 ≤ y ∧ y ≤ 40000 ∧ 1 ≤ m ∧ m ≤ 12 ∧ 1 ≤ d ∧ d ≤ 31)) ∨ (rightB y m d = false ∧ dayV y m d = 0 ∧ dayE y m d = 1) := by
  cases h : rightB y m d
  · exact .inr ⟨rfl, by simp [dayV, h], by simp [dayE, h]⟩
  · have := (right_iff y m d).1 h
    have := mlen_bd y m
    exact .inl ⟨rfl, by simp [dayV, h], by simp [dayE, h], by omega⟩
theorem civil_Days (y m d : Int) (ky : I64 y) (w : World) : Calls Tryd.prog 97 #[dat y m d] w fun e w' => e = .returned (.tuple #[.int .i64 (dayV y m d), .int .i64 (dayE y m d)]) ∧ Below w.heap.size w w' := by
  have hr := fun w => civil_Right y m d ky w
  rcases day_cases y m d with ⟨h, e1, e2, b1, b2, b3, b4, b5, b6⟩ | ⟨h, e1, e2⟩
  all_goals
    rw [e1, e2]
    clear e1 e2
    rw [h] at hr
    clear h
    go_enter Tryd.func97, Tryd.ntmps97
    go_wp2_with (first
      | (go_at_call 120; refine (hr _).mono ?_; rintro e w1 ⟨rfl, hb⟩; obtain ⟨hc, hf⟩ := bcell hb; have z := hb.size; (try simp at z); have z0 : w.heap.size < w1.heap.size := (by omega))
      | (go_at_call 121; refine (civil_number _ _ _ (by omega) (by omega) b3 b4 b5 b6 _).mono ?_; rintro e w2 ⟨rfl, hb⟩; obtain ⟨hc, hf⟩ := bcell hb; have z := hb.size; (try simp at z); have z0 : w.heap.size < w2.heap.size := (by omega)))
    go_ret2
    exact ⟨rfl, by (focus (repeat' (first | exact Below.refl _ _ | refine Below.alloc ?_ ?_ _ | refine Below.setCell ?_ ?_ _ | refine Below.drew ?_ | refine below_drewN ?_ _ | refine Below.trans ?_ (Below.mono (by assumption) ?_) | refine Below.trans ?_ (Below.mono (BW.below _) ?_) | (simp; done) | (simp; omega) | omega)))⟩

/-- Which day of its year a date is. -/
def ydV (y m d : Int) : Int := if rightB y m d = true then cum y m + d else 0
theorem ydV_y {y m d : Int} (h : rightB y m d = true) : ydV y m d = cum y m + d := by simp [ydV, h]
theorem ydV_n {y m d : Int} (h : rightB y m d = false) : ydV y m d = 0 := by simp [ydV, h]
theorem numb_bd (y m d : Int) (h : -50000 ≤ y ∧ y ≤ 50000 ∧ 1 ≤ m ∧ m ≤ 12 ∧ 1 ≤ d ∧ d ≤ 31) : -100000000 ≤ numb y m d ∧ numb y m d ≤ 100000000 := by
  have := cum_bd y m (by omega) (by omega)
  have l := lp_01 y
  have k := leaps_bd (y - 1) (by omega) (by omega)
  have ml := mlen_bd y m
  unfold numb Cal.ahead
  omega
theorem numb_1 (y : Int) : numb y 1 1 = Cal.ahead y := by unfold numb; rw [cum_1]; omega
end Go.Proofs.YtjddmcecllhlhaaDoor
