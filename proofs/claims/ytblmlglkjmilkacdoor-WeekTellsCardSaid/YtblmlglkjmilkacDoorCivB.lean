/-
  Contracts of Right, of the numbers of dates, and of weekdays.
-/
import Derived.Test.YtblmlglkjmilkacDoorCivA
namespace Go.Proofs.YtblmlglkjmilkacDoor
open Go.RowKit Cal
attribute [local go_sem] BW.cell BW.frozen

abbrev dat (y m d : Int) : Value := .agg #[.int .i64 y, .int .i64 m, .int .i64 d]

theorem ref03_Len0 (y m : Int) (h : m < 1 ∨ 12 < m) (w : World) : Calls Tryd.prog 98 #[.int .i64 y, .int .i64 m] w fun e w' => e = .returned (.int .i64 0) ∧ Below w.heap.size w w' := by
  rcases h with h | h
  all_goals
    go_enter Tryd.func98, Tryd.ntmps98
    go_wp2
    go_ret
    exact ⟨rfl, by (focus (repeat' (first | exact Below.refl _ _ | refine Below.alloc ?_ ?_ _ | refine Below.setCell ?_ ?_ _ | refine Below.drew ?_ | refine below_drewN ?_ _ | refine Below.trans ?_ (Below.mono (by assumption) ?_) | refine Below.trans ?_ (Below.mono (BW.below _) ?_) | (simp; done) | (simp; omega) | omega)))⟩
theorem ref03_Len2a (y : Int) (ky : I64 y) (hl : lpB y = true) (w : World) : Calls Tryd.prog 98 #[.int .i64 y, .int .i64 2] w fun e w' => e = .returned (.int .i64 29) ∧ Below w.heap.size w w' := by
  have hc := fun w => ref03_Leap y ky w
  rw [hl] at hc
  clear hl
  go_enter Tryd.func98, Tryd.ntmps98
  go_wp2_with (go_at_call 146; refine (hc _).mono ?_; rintro e w' ⟨rfl, rfl⟩)
  go_ret
  exact ⟨rfl, by (focus (repeat' (first | exact Below.refl _ _ | refine Below.alloc ?_ ?_ _ | refine Below.setCell ?_ ?_ _ | refine Below.drew ?_ | refine below_drewN ?_ _ | refine Below.trans ?_ (Below.mono (by assumption) ?_) | refine Below.trans ?_ (Below.mono (BW.below _) ?_) | (simp; done) | (simp; omega) | omega)))⟩
theorem ref03_Len2b (y : Int) (ky : I64 y) (hl : lpB y = false) (w : World) : Calls Tryd.prog 98 #[.int .i64 y, .int .i64 2] w fun e w' => e = .returned (.int .i64 28) ∧ Below w.heap.size w w' := by
  have hc := fun w => ref03_Leap y ky w
  rw [hl] at hc
  clear hl
  go_enter Tryd.func98, Tryd.ntmps98
  go_wp2_with (go_at_call 146; refine (hc _).mono ?_; rintro e w' ⟨rfl, rfl⟩)
  go_ret
  exact ⟨rfl, by (focus (repeat' (first | exact Below.refl _ _ | refine Below.alloc ?_ ?_ _ | refine Below.setCell ?_ ?_ _ | refine Below.drew ?_ | refine below_drewN ?_ _ | refine Below.trans ?_ (Below.mono (by assumption) ?_) | refine Below.trans ?_ (Below.mono (BW.below _) ?_) | (simp; done) | (simp; omega) | omega)))⟩
theorem ref03_Len1 (y : Int) (w : World) : Calls Tryd.prog 98 #[.int .i64 y, .int .i64 1] w fun e w' => e = .returned (.int .i64 31) ∧ Below w.heap.size w w' := by
  go_enter Tryd.func98, Tryd.ntmps98
  go_wp2
  go_ret
  exact ⟨rfl, by (focus (repeat' (first | exact Below.refl _ _ | refine Below.alloc ?_ ?_ _ | refine Below.setCell ?_ ?_ _ | refine Below.drew ?_ | refine below_drewN ?_ _ | refine Below.trans ?_ (Below.mono (by assumption) ?_) | refine Below.trans ?_ (Below.mono (BW.below _) ?_) | (simp; done) | (simp; omega) | omega)))⟩

theorem right_cases (y m d : Int) : (∃ (_ : -40000 ≤ y) (_ : y ≤ 40000) (_ : 1 ≤ d) (_ : d ≤ mlen y m), rightB y m d = true) ∨ (∃ (_ : decide (-40000 ≤ y) = false), rightB y m d = false) ∨
    (∃ (_ : -40000 ≤ y) (_ : decide (y ≤ 40000) = false), rightB y m d = false) ∨ (∃ (_ : -40000 ≤ y) (_ : y ≤ 40000) (_ : decide (1 ≤ d) = false), rightB y m d = false) ∨
    (∃ (_ : -40000 ≤ y) (_ : y ≤ 40000) (_ : 1 ≤ d) (_ : decide (d ≤ mlen y m) = false), rightB y m d = false) := by
  by_cases h1 : -40000 ≤ y
  · by_cases h2 : y ≤ 40000
    · by_cases h3 : 1 ≤ d
      · by_cases h4 : d ≤ mlen y m
        · exact .inl ⟨h1, h2, h3, h4, by simp [rightB, h1, h2, h3, h4]⟩
        · exact .inr (.inr (.inr (.inr ⟨h1, h2, h3, decide_eq_false h4, by simp [rightB, h4]⟩)))
      · exact .inr (.inr (.inr (.inl ⟨h1, h2, decide_eq_false h3, by simp [rightB, h3]⟩)))
    · exact .inr (.inr (.inl ⟨h1, decide_eq_false h2, by simp [rightB, h2]⟩))
  · exact .inr (.inl ⟨decide_eq_false h1, by simp [rightB, h1]⟩)

theorem civil_Right (y m d : Int) (ky : I64 y) (w : World) : Calls Tryd.prog 55 #[dat y m d] w fun e w' => e = .returned (.bool (rightB y m d)) ∧ Below w.heap.size w w' := by
  rcases right_cases y m d with ⟨h1, h2, h3, h4, e⟩ | ⟨h1, e⟩ | ⟨h1, h2, e⟩ | ⟨h1, h2, h3, e⟩ | ⟨h1, h2, h3, h4, e⟩
  all_goals
    rw [e]
    clear e
    go_enter Tryd.func55, Tryd.ntmps55
    go_wp2_with (fail)
    refine wp_region_bw (by kernel_rfl) (by kernel_rfl) ?_; (repeat (go_big_quiet_step ((go_at_call 105; exact bw_same (civil_Len _ _ ky _))))); refine wpQuiet_nil ?_; intro _ hw'; obtain ⟨xq, hw''⟩ := hw'; subst hw''
    go_wp2_with (fail)
    go_ret
    exact ⟨rfl, by (focus (repeat' (first | exact Below.refl _ _ | refine Below.alloc ?_ ?_ _ | refine Below.setCell ?_ ?_ _ | refine Below.drew ?_ | refine below_drewN ?_ _ | refine Below.trans ?_ (Below.mono (by assumption) ?_) | refine Below.trans ?_ (Below.mono (BW.below _) ?_) | (simp; done) | (simp; omega) | omega)))⟩
theorem ref03_Len3 (y : Int) (w : World) : Calls Tryd.prog 98 #[.int .i64 y, .int .i64 3] w fun e w' => e = .returned (.int .i64 31) ∧ Below w.heap.size w w' := by
  go_enter Tryd.func98, Tryd.ntmps98
  go_wp2
  go_ret
  exact ⟨rfl, by (focus (repeat' (first | exact Below.refl _ _ | refine Below.alloc ?_ ?_ _ | refine Below.setCell ?_ ?_ _ | refine Below.drew ?_ | refine below_drewN ?_ _ | refine Below.trans ?_ (Below.mono (by assumption) ?_) | refine Below.trans ?_ (Below.mono (BW.below _) ?_) | (simp; done) | (simp; omega) | omega)))⟩
theorem ref03_Len4 (y : Int) (w : World) : Calls Tryd.prog 98 #[.int .i64 y, .int .i64 4] w fun e w' => e = .returned (.int .i64 30) ∧ Below w.heap.size w w' := by
  go_enter Tryd.func98, Tryd.ntmps98
  go_wp2
  go_ret
  exact ⟨rfl, by (focus (repeat' (first | exact Below.refl _ _ | refine Below.alloc ?_ ?_ _ | refine Below.setCell ?_ ?_ _ | refine Below.drew ?_ | refine below_drewN ?_ _ | refine Below.trans ?_ (Below.mono (by assumption) ?_) | refine Below.trans ?_ (Below.mono (BW.below _) ?_) | (simp; done) | (simp; omega) | omega)))⟩
theorem ref03_Len5 (y : Int) (w : World) : Calls Tryd.prog 98 #[.int .i64 y, .int .i64 5] w fun e w' => e = .returned (.int .i64 31) ∧ Below w.heap.size w w' := by
  go_enter Tryd.func98, Tryd.ntmps98
  go_wp2
  go_ret
  exact ⟨rfl, by (focus (repeat' (first | exact Below.refl _ _ | refine Below.alloc ?_ ?_ _ | refine Below.setCell ?_ ?_ _ | refine Below.drew ?_ | refine below_drewN ?_ _ | refine Below.trans ?_ (Below.mono (by assumption) ?_) | refine Below.trans ?_ (Below.mono (BW.below _) ?_) | (simp; done) | (simp; omega) | omega)))⟩
theorem ref03_Len6 (y : Int) (w : World) : Calls Tryd.prog 98 #[.int .i64 y, .int .i64 6] w fun e w' => e = .returned (.int .i64 30) ∧ Below w.heap.size w w' := by
  go_enter Tryd.func98, Tryd.ntmps98
  go_wp2
  go_ret
  exact ⟨rfl, by (focus (repeat' (first | exact Below.refl _ _ | refine Below.alloc ?_ ?_ _ | refine Below.setCell ?_ ?_ _ | refine Below.drew ?_ | refine below_drewN ?_ _ | refine Below.trans ?_ (Below.mono (by assumption) ?_) | refine Below.trans ?_ (Below.mono (BW.below _) ?_) | (simp; done) | (simp; omega) | omega)))⟩
theorem ref03_Len7 (y : Int) (w : World) : Calls Tryd.prog 98 #[.int .i64 y, .int .i64 7] w fun e w' => e = .returned (.int .i64 31) ∧ Below w.heap.size w w' := by
  go_enter Tryd.func98, Tryd.ntmps98
  go_wp2
  go_ret
  exact ⟨rfl, by (focus (repeat' (first | exact Below.refl _ _ | refine Below.alloc ?_ ?_ _ | refine Below.setCell ?_ ?_ _ | refine Below.drew ?_ | refine below_drewN ?_ _ | refine Below.trans ?_ (Below.mono (by assumption) ?_) | refine Below.trans ?_ (Below.mono (BW.below _) ?_) | (simp; done) | (simp; omega) | omega)))⟩
theorem ref03_Len8 (y : Int) (w : World) : Calls Tryd.prog 98 #[.int .i64 y, .int .i64 8] w fun e w' => e = .returned (.int .i64 31) ∧ Below w.heap.size w w' := by
  go_enter Tryd.func98, Tryd.ntmps98
  go_wp2
  go_ret
  exact ⟨rfl, by (focus (repeat' (first | exact Below.refl _ _ | refine Below.alloc ?_ ?_ _ | refine Below.setCell ?_ ?_ _ | refine Below.drew ?_ | refine below_drewN ?_ _ | refine Below.trans ?_ (Below.mono (by assumption) ?_) | refine Below.trans ?_ (Below.mono (BW.below _) ?_) | (simp; done) | (simp; omega) | omega)))⟩
theorem ref03_Len9 (y : Int) (w : World) : Calls Tryd.prog 98 #[.int .i64 y, .int .i64 9] w fun e w' => e = .returned (.int .i64 30) ∧ Below w.heap.size w w' := by
  go_enter Tryd.func98, Tryd.ntmps98
  go_wp2
  go_ret
  exact ⟨rfl, by (focus (repeat' (first | exact Below.refl _ _ | refine Below.alloc ?_ ?_ _ | refine Below.setCell ?_ ?_ _ | refine Below.drew ?_ | refine below_drewN ?_ _ | refine Below.trans ?_ (Below.mono (by assumption) ?_) | refine Below.trans ?_ (Below.mono (BW.below _) ?_) | (simp; done) | (simp; omega) | omega)))⟩
theorem ref03_Len10 (y : Int) (w : World) : Calls Tryd.prog 98 #[.int .i64 y, .int .i64 10] w fun e w' => e = .returned (.int .i64 31) ∧ Below w.heap.size w w' := by
  go_enter Tryd.func98, Tryd.ntmps98
  go_wp2
  go_ret
  exact ⟨rfl, by (focus (repeat' (first | exact Below.refl _ _ | refine Below.alloc ?_ ?_ _ | refine Below.setCell ?_ ?_ _ | refine Below.drew ?_ | refine below_drewN ?_ _ | refine Below.trans ?_ (Below.mono (by assumption) ?_) | refine Below.trans ?_ (Below.mono (BW.below _) ?_) | (simp; done) | (simp; omega) | omega)))⟩
theorem ref03_Len11 (y : Int) (w : World) : Calls Tryd.prog 98 #[.int .i64 y, .int .i64 11] w fun e w' => e = .returned (.int .i64 30) ∧ Below w.heap.size w w' := by
  go_enter Tryd.func98, Tryd.ntmps98
  go_wp2
  go_ret
  exact ⟨rfl, by (focus (repeat' (first | exact Below.refl _ _ | refine Below.alloc ?_ ?_ _ | refine Below.setCell ?_ ?_ _ | refine Below.drew ?_ | refine below_drewN ?_ _ | refine Below.trans ?_ (Below.mono (by assumption) ?_) | refine Below.trans ?_ (Below.mono (BW.below _) ?_) | (simp; done) | (simp; omega) | omega)))⟩
theorem ref03_Len12 (y : Int) (w : World) : Calls Tryd.prog 98 #[.int .i64 y, .int .i64 12] w fun e w' => e = .returned (.int .i64 31) ∧ Below w.heap.size w w' := by
  go_enter Tryd.func98, Tryd.ntmps98
  go_wp2
  go_ret
  exact ⟨rfl, by (focus (repeat' (first | exact Below.refl _ _ | refine Below.alloc ?_ ?_ _ | refine Below.setCell ?_ ?_ _ | refine Below.drew ?_ | refine below_drewN ?_ _ | refine Below.trans ?_ (Below.mono (by assumption) ?_) | refine Below.trans ?_ (Below.mono (BW.below _) ?_) | (simp; done) | (simp; omega) | omega)))⟩
theorem ref03_Len2 (y : Int) (ky : I64 y) (w : World) : Calls Tryd.prog 98 #[.int .i64 y, .int .i64 2] w fun e w' => e = .returned (.int .i64 (28 + lp y)) ∧ Below w.heap.size w w' := by
  rcases lp_01 y with ⟨e1, e2⟩ | ⟨e1, e2⟩
  · have e : 28 + lp y = 28 := by omega
    rw [e]; exact ref03_Len2b y ky e2 w
  · have e : 28 + lp y = 29 := by omega
    rw [e]; exact ref03_Len2a y ky e2 w
theorem ref03_Len (y m : Int) (ky : I64 y) (w : World) : Calls Tryd.prog 98 #[.int .i64 y, .int .i64 m] w fun e w' => e = .returned (.int .i64 (mlen y m)) ∧ Below w.heap.size w w' := by
  rcases mlen_cases y m with ⟨h, e⟩ | ⟨h, e⟩ | ⟨rfl, e⟩ | ⟨rfl, e⟩ | ⟨rfl, e⟩ | ⟨rfl, e⟩ | ⟨rfl, e⟩ | ⟨rfl, e⟩ | ⟨rfl, e⟩ | ⟨rfl, e⟩ | ⟨rfl, e⟩ | ⟨rfl, e⟩ | ⟨rfl, e⟩ | ⟨rfl, e⟩
  · rw [e]; exact ref03_Len0 y m (.inl h) w
  · rw [e]; exact ref03_Len0 y m (.inr h) w
  · rw [e]; exact ref03_Len1 y w
  · rw [e]; exact ref03_Len2 y ky w
  · rw [e]; exact ref03_Len3 y w
  · rw [e]; exact ref03_Len4 y w
  · rw [e]; exact ref03_Len5 y w
  · rw [e]; exact ref03_Len6 y w
  · rw [e]; exact ref03_Len7 y w
  · rw [e]; exact ref03_Len8 y w
  · rw [e]; exact ref03_Len9 y w
  · rw [e]; exact ref03_Len10 y w
  · rw [e]; exact ref03_Len11 y w
  · rw [e]; exact ref03_Len12 y w

theorem ref03_Right (y m d : Int) (ky : I64 y) (w : World) : Calls Tryd.prog 142 #[dat y m d] w fun e w' => e = .returned (.bool (rightB y m d)) ∧ Below w.heap.size w w' := by
  rcases right_cases y m d with ⟨h1, h2, h3, h4, e⟩ | ⟨h1, e⟩ | ⟨h1, h2, e⟩ | ⟨h1, h2, h3, e⟩ | ⟨h1, h2, h3, h4, e⟩
  all_goals
    rw [e]
    clear e
    go_enter Tryd.func142, Tryd.ntmps142
    go_wp2_with (fail)
    refine wp_region_bw (by kernel_rfl) (by kernel_rfl) ?_; (repeat (go_big_quiet_step ((go_at_call 98; exact bw_call (ref03_Len _ _ ky _))))); refine wpQuiet_nil ?_; intro _ hw'; obtain ⟨xq, hw''⟩ := hw'; subst hw''
    go_wp2_with (fail)
    go_ret
    exact ⟨rfl, by (focus (repeat' (first | exact Below.refl _ _ | refine Below.alloc ?_ ?_ _ | refine Below.setCell ?_ ?_ _ | refine Below.drew ?_ | refine below_drewN ?_ _ | refine Below.trans ?_ (Below.mono (by assumption) ?_) | refine Below.trans ?_ (Below.mono (BW.below _) ?_) | (simp; done) | (simp; omega) | omega)))⟩

theorem civil_march (m : Int) (h0 : 0 ≤ m) (h1 : m ≤ 1000) (w : World) : Calls Tryd.prog 106 #[.int .i64 m] w fun e w' => e = .returned (.int .i64 (march m)) ∧ w = w' := by
  go_enter Tryd.func106, Tryd.ntmps106
  go_wp2
  go_ret
  exact ⟨ret_int (by unfold march; rfl), rfl⟩
theorem ref03_leaps (y : Int) (h0 : -100000 ≤ y) (h1 : y ≤ 100000) (w : World) : Calls Tryd.prog 143 #[.int .i64 y] w fun e w' => e = .returned (.int .i64 (leaps y)) ∧ w = w' := by
  have ky : I64 y := I64.sm (by omega)
  have a0 : -25001 ≤ y / 4 := by omega
  have a1 : y / 4 ≤ 25001 := by omega
  have b0 : -1001 ≤ y / 100 := by omega
  have b1 : y / 100 ≤ 1001 := by omega
  have c0 : -251 ≤ y / 400 := by omega
  have c1 : y / 400 ≤ 251 := by omega
  go_enter Tryd.func143, Tryd.ntmps143
  go_wp2_with fail
  refine (ref01_Floor _ _ ky (by omega) (by omega) _).mono ?_
  rintro e w' ⟨rfl, rfl⟩
  go_wp2_with fail
  refine (ref01_Floor _ _ ky (by omega) (by omega) _).mono ?_
  rintro e w' ⟨rfl, rfl⟩
  go_wp2_with fail
  refine (ref01_Floor _ _ ky (by omega) (by omega) _).mono ?_
  rintro e w' ⟨rfl, rfl⟩
  go_wp2_with fail
  go_ret
  exact ⟨ret_int (by unfold leaps; rfl), rfl⟩
theorem leaps_bd (y : Int) (h0 : -100000 ≤ y) (h1 : y ≤ 100000) : -30000 ≤ leaps y ∧ leaps y ≤ 30000 := by unfold leaps; omega
theorem ref03_Ahead (y : Int) (h0 : -90000 ≤ y) (h1 : y ≤ 90000) (w : World) : Calls Tryd.prog 95 #[.int .i64 y] w fun e w' => e = .returned (.int .i64 (Cal.ahead y)) ∧ w = w' := by
  obtain ⟨l0, l1⟩ := leaps_bd (y - 1) (by omega) (by omega)
  have hl := fun w => ref03_leaps 1969 (by omega) (by omega) w
  rw [show leaps 1969 = 477 from by decide] at hl
  go_enter Tryd.func95, Tryd.ntmps95
  go_wp2_with fail
  refine (ref03_leaps _ (by omega) (by omega) _).mono ?_
  rintro e w' ⟨rfl, rfl⟩
  go_wp2_with fail
  refine (hl _).mono ?_
  rintro e w' ⟨rfl, rfl⟩
  go_wp2_with fail
  go_ret
  exact ⟨ret_int (by unfold Cal.ahead; rfl), rfl⟩

theorem civil_Weekday (n : Int) (kn : I64 n) (w : World) : Calls Tryd.prog 23 #[.int .i64 n] w fun e w' => e = .returned (.int .i64 (wday n)) ∧ Below w.heap.size w w' := by
  have a0 : 0 ≤ n % 7 := by omega
  have a1 : n % 7 ≤ 6 := by omega
  go_enter Tryd.func23, Tryd.ntmps23
  go_wp2_with (go_at_call 57; refine (num_Div _ _ kn (by omega) (by omega) _).mono ?_; rintro e w1 ⟨rfl, hb⟩; obtain ⟨hc, hf⟩ := bcell hb; have z := hb.size; (try simp at z))
  go_ret
  exact ⟨ret_int (by unfold wday; rfl), by (focus (repeat' (first | exact Below.refl _ _ | refine Below.alloc ?_ ?_ _ | refine Below.setCell ?_ ?_ _ | refine Below.drew ?_ | refine below_drewN ?_ _ | refine Below.trans ?_ (Below.mono (by assumption) ?_) | refine Below.trans ?_ (Below.mono (BW.below _) ?_) | (simp; done) | (simp; omega) | omega)))⟩
theorem ref03_Weekday (n : Int) (kn : I64 n) (w : World) : Calls Tryd.prog 96 #[.int .i64 n] w fun e w' => e = .returned (.int .i64 (wday n)) ∧ w = w' := by
  have a0 : 0 ≤ n % 7 := by omega
  have a1 : n % 7 ≤ 6 := by omega
  go_enter Tryd.func96, Tryd.ntmps96
  go_wp2_with (go_at_call 144; refine (ref01_Rest _ _ kn (by omega) (by omega) _).mono ?_; rintro e w' ⟨rfl, rfl⟩)
  go_ret
  exact ⟨ret_int (by unfold wday; rfl), rfl⟩
end Go.Proofs.YtblmlglkjmilkacDoor
