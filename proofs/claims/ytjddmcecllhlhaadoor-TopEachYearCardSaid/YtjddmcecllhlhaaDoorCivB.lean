/-
  Contracts of Right, of the numbers of dates, and of weekdays.
-/
import Derived.Test.YtjddmcecllhlhaaDoorCivA
namespace Go.Proofs.YtjddmcecllhlhaaDoor
open Go.RowKit Cal
attribute [local go_sem] BW.cell BW.frozen
abbrev dat (y m d : Int) : Value := .agg #[.int .i64 y, .int .i64 m, .int .i64 d]

theorem right_cases (y m d : Int) : (∃ (_ : -40000 ≤ y) (_ : y ≤ 40000) (_ : 1 ≤ d) (_ : d ≤ mlen y m), rightB y m d = true) ∨ (∃ (_ : decide (-40000 ≤ y) = false), rightB y m d = false) ∨
    (∃ (_ : -40000 ≤ y) (_ : decide (y ≤ 40000) = false), rightB y m d = false) ∨ (∃ (_ : -40000 ≤ y) (_ : y ≤ 40000) (_ : decide (1 ≤ d) = false), rightB y m d = false) ∨
    (∃ (_ : -40000 ≤ y) (_ : y ≤ 40000) (_ : 1 ≤ d) (_ : decide (d ≤ mlen y m) = false), rightB y m d = false) := by
  by_cases h1 : -40000 ≤ y
  · by_cases h2 : y ≤ 40000
    · by_cases h3 : 1 ≤ d
      · by_cases h4 : d ≤ mlen y m
        · exact .inl ⟨h1, h2, h3, h4, by simp [rightB, h1, h2, h3, h4]⟩
        · exact .inr (.inr (.inr (.inr ⟨h1, h2, h3, decide_eq_false h4, by simp [rightB, h4]⟩)))
      · exact .inr (.inr (.inr (.inl ⟨h1, h2, decide_eq_false h3, by simp [rightB, h3]⟩)))
    · exact .inr (.inr (.inl ⟨h1, decide_eq_false h2, by simp [rightB, h2]⟩))
  · exact .inr (.inl ⟨decide_eq_false h1, by simp [rightB, h1]⟩)

theorem civil_Right (y m d : Int) (ky : I64 y) (w : World) : Calls Tryd.prog 120 #[dat y m d] w fun e w' => e = .returned (.bool (rightB y m d)) ∧ Below w.heap.size w w' := by
  rcases right_cases y m d with ⟨h1, h2, h3, h4, e⟩ | ⟨h1, e⟩ | ⟨h1, h2, e⟩ | ⟨h1, h2, h3, e⟩ | ⟨h1, h2, h3, h4, e⟩
  all_goals
    rw [e]
    clear e
    go_enter Tryd.func120, Tryd.ntmps120
    go_wp2_with (fail)
    refine wp_region_bw (by kernel_rfl) (by kernel_rfl) ?_; (repeat (go_big_quiet_step ((go_at_call 69; exact bw_same (civil_Len _ _ ky _))))); refine wpQuiet_nil ?_; intro _ hw'; obtain ⟨xq, hw''⟩ := hw'; subst hw''
    go_wp2_with (fail)
    go_ret
    exact ⟨rfl, by (focus (repeat' (first | exact Below.refl _ _ | refine Below.alloc ?_ ?_ _ | refine Below.setCell ?_ ?_ _ | refine Below.drew ?_ | refine below_drewN ?_ _ | refine Below.trans ?_ (Below.mono (by assumption) ?_) | refine Below.trans ?_ (Below.mono (BW.below _) ?_) | (simp; done) | (simp; omega) | omega)))⟩
theorem civil_march (m : Int) (h0 : 0 ≤ m) (h1 : m ≤ 1000) (w : World) : Calls Tryd.prog 131 #[.int .i64 m] w fun e w' => e = .returned (.int .i64 (march m)) ∧ w = w' := by
  go_enter Tryd.func131, Tryd.ntmps131
  go_wp2
  go_ret
  exact ⟨ret_int (by unfold march; rfl), rfl⟩
theorem leaps_bd (y : Int) (h0 : -100000 ≤ y) (h1 : y ≤ 100000) : -30000 ≤ leaps y ∧ leaps y ≤ 30000 := by unfold leaps; omega
theorem civil_Weekday (n : Int) (kn : I64 n) (w : World) : Calls Tryd.prog 122 #[.int .i64 n] w fun e w' => e = .returned (.int .i64 (wday n)) ∧ Below w.heap.size w w' := by
  have a0 : 0 ≤ n % 7 := by omega
  have a1 : n % 7 ≤ 6 := by omega
  go_enter Tryd.func122, Tryd.ntmps122
  go_wp2_with (go_at_call 130; refine (num_Div _ _ kn (by omega) (by omega) _).mono ?_; rintro e w1 ⟨rfl, hb⟩; obtain ⟨hc, hf⟩ := bcell hb; have z := hb.size; (try simp at z))
  go_ret
  exact ⟨ret_int (by unfold wday; rfl), by (focus (repeat' (first | exact Below.refl _ _ | refine Below.alloc ?_ ?_ _ | refine Below.setCell ?_ ?_ _ | refine Below.drew ?_ | refine below_drewN ?_ _ | refine Below.trans ?_ (Below.mono (by assumption) ?_) | refine Below.trans ?_ (Below.mono (BW.below _) ?_) | (simp; done) | (simp; omega) | omega)))⟩
end Go.Proofs.YtjddmcecllhlhaaDoor
