/-
  Contracts of the reference's functions on spans: the same plain functions.
-/
import Derived.Test.YtlnfffenahjcnaaSpanA
namespace Go.Proofs.Ytlnfffenahjcnaa
open Go.RowKit

theorem ref10_Right (a b : Int) (w : World) : Calls Try.prog 33 #[spn a b] w fun e w' => e = .returned (.bool (decide (a < b))) ∧ Below w.heap.size w w' := by
  go_enter Try.func33, Try.ntmps33
  go_wp2
  go_ret
  exact ⟨rfl, by (focus (repeat' (first | exact Below.refl _ _ | refine Below.alloc ?_ ?_ _ | refine Below.setCell ?_ ?_ _ | refine Below.drew ?_ | refine below_drewN ?_ _ | refine Below.trans ?_ (Below.mono (by assumption) ?_) | refine Below.trans ?_ (Below.mono (BW.below _) ?_) | (simp; done) | (simp; omega) | omega)))⟩

theorem ref10_Has (a b t : Int) (w : World) : Calls Try.prog 48 #[spn a b, .int .i64 t] w fun e w' => e = .returned (.bool (decide (a ≤ t ∧ t < b))) ∧ Below w.heap.size w w' := by
  go_enter Try.func48, Try.ntmps48
  go_wp2
  all_goals go_ret
  all_goals exact ⟨ret_bool (by simp [*] <;> omega), by (focus (repeat' (first | exact Below.refl _ _ | refine Below.alloc ?_ ?_ _ | refine Below.setCell ?_ ?_ _ | refine Below.drew ?_ | refine below_drewN ?_ _ | refine Below.trans ?_ (Below.mono (by assumption) ?_) | refine Below.trans ?_ (Below.mono (BW.below _) ?_) | (simp; done) | (simp; omega) | omega)))⟩

theorem rmeet_cases (a b c d : Int) : (∃ (_ : a < b) (_ : c < d) (_ : decide (a ≤ c ∧ c < b) = true), meetB a b c d = true) ∨
    (∃ (_ : a < b) (_ : c < d) (_ : decide (a ≤ c ∧ c < b) = false) (_ : decide (c ≤ a ∧ a < d) = true), meetB a b c d = true) ∨
    (∃ (_ : decide (a < b) = false), meetB a b c d = false) ∨ (∃ (_ : a < b) (_ : decide (c < d) = false), meetB a b c d = false) ∨
    (∃ (_ : a < b) (_ : c < d) (_ : decide (a ≤ c ∧ c < b) = false) (_ : decide (c ≤ a ∧ a < d) = false), meetB a b c d = false) := by
  by_cases h1 : a < b
  · by_cases h2 : c < d
    · by_cases h3 : a ≤ c ∧ c < b
      · exact .inl ⟨h1, h2, by simpa using h3, by simp only [meetB, decide_eq_true_eq]; omega⟩
      · by_cases h4 : c ≤ a ∧ a < d
        · exact .inr (.inl ⟨h1, h2, decide_eq_false h3, decide_eq_true h4, by simp only [meetB, decide_eq_true_eq]; omega⟩)
        · exact .inr (.inr (.inr (.inr ⟨h1, h2, decide_eq_false h3, decide_eq_false h4, by simp only [meetB, decide_eq_false_iff_not]; omega⟩)))
    · exact .inr (.inr (.inr (.inl ⟨h1, by simpa using h2, by simp [meetB, h2]⟩)))
  · exact .inr (.inr (.inl ⟨by simpa using h1, by simp [meetB, h1]⟩))

theorem ref10_Meet (a b c d : Int) (w : World) : Calls Try.prog 30 #[spn a b, spn c d] w fun e w' => e = .returned (.bool (meetB a b c d)) ∧ Below w.heap.size w w' := by
  rcases rmeet_cases a b c d with ⟨h1, h2, h3, e1⟩ | ⟨h1, h2, h3, h4, e1⟩ | ⟨h1, e1⟩ | ⟨h1, h2, e1⟩ | ⟨h1, h2, h3, h4, e1⟩
  all_goals
    rw [e1]
    clear e1
    go_enter Try.func30, Try.ntmps30
    go_wp2_with (first
      | (go_at_call 33; refine (ref10_Right _ _ _).mono ?_; rintro e w1 ⟨rfl, hb⟩; obtain ⟨hc, hf⟩ := bcell hb; have z := hb.size; (try simp at z); have z0 : w.heap.size < w1.heap.size := (by omega); have z1 : w.heap.size + 1 < w1.heap.size := (by omega))
      | (go_at_call 48; refine (ref10_Has _ _ _ _).mono ?_; rintro e w2 ⟨rfl, hb⟩; obtain ⟨hc, hf⟩ := bcell hb; have z := hb.size; (try simp at z); have z0 : w.heap.size < w2.heap.size := (by omega); have z1 : w.heap.size + 1 < w2.heap.size := (by omega)))
    go_ret
    exact ⟨rfl, by (focus (repeat' (first | exact Below.refl _ _ | refine Below.alloc ?_ ?_ _ | refine Below.setCell ?_ ?_ _ | refine Below.drew ?_ | refine below_drewN ?_ _ | refine Below.trans ?_ (Below.mono (by assumption) ?_) | refine Below.trans ?_ (Below.mono (BW.below _) ?_) | (simp; done) | (simp; omega) | omega)))⟩

theorem rtouch_cases (a b c d : Int) : (∃ (_ : a < b) (_ : c < d) (_ : (b == c) = true), touchB a b c d = true) ∨
    (∃ (_ : a < b) (_ : c < d) (_ : (b == c) = false) (_ : (d == a) = true), touchB a b c d = true) ∨
    (∃ (_ : decide (a < b) = false), touchB a b c d = false) ∨ (∃ (_ : a < b) (_ : decide (c < d) = false), touchB a b c d = false) ∨
    (∃ (_ : a < b) (_ : c < d) (_ : (b == c) = false) (_ : (d == a) = false), touchB a b c d = false) := by
  by_cases h1 : a < b
  · by_cases h2 : c < d
    · by_cases h3 : b = c
      · exact .inl ⟨h1, h2, by simpa using h3, by simp only [touchB, decide_eq_true_eq]; omega⟩
      · by_cases h4 : d = a
        · exact .inr (.inl ⟨h1, h2, by simpa using h3, by simpa using h4, by simp only [touchB, decide_eq_true_eq]; omega⟩)
        · exact .inr (.inr (.inr (.inr ⟨h1, h2, by simpa using h3, by simpa using h4, by simp only [touchB, decide_eq_false_iff_not]; omega⟩)))
    · exact .inr (.inr (.inr (.inl ⟨h1, by simpa using h2, by simp [touchB, h2]⟩)))
  · exact .inr (.inr (.inl ⟨by simpa using h1, by simp [touchB, h1]⟩))

theorem both_val (a b c d : Int) : (meetB a b c d = true ∧ bothF a b c d = max a c ∧ bothT a b c d = min b d) ∨ (meetB a b c d = false ∧ bothF a b c d = 0 ∧ bothT a b c d = 0) := by
  cases h : meetB a b c d
  · exact .inr ⟨rfl, by simp [bothF, h], by simp [bothT, h]⟩
  · exact .inl ⟨rfl, by simp [bothF, h], by simp [bothT, h]⟩

theorem ref10_Both (a b c d : Int) (w : World) : Calls Try.prog 45 #[spn a b, spn c d] w fun e w' => e = .returned (.tuple #[spn (bothF a b c d) (bothT a b c d), .bool (meetB a b c d)]) ∧ Below w.heap.size w w' := by
  rcases both_val a b c d with ⟨e3, e1, e2⟩ | ⟨e3, e1, e2⟩
  all_goals
    rw [e1, e2]
    clear e1 e2
    have E := Lib.hid e3
    rw [e3]
    clear e3
    go_enter Try.func45, Try.ntmps45
    go_wp2_with (go_at_call 30; have hm := ref10_Meet a b c d; rw [E.out] at hm; refine (hm _).mono ?_; rintro e w1 ⟨rfl, hb⟩; obtain ⟨hc, hf⟩ := bcell hb; have z := hb.size; (try simp at z); have z0 : w.heap.size < w1.heap.size := (by omega); have z1 : w.heap.size + 1 < w1.heap.size := (by omega); have z2 : w.heap.size + 1 + 1 < w1.heap.size := (by omega))
    all_goals
      refine bodyPost_ret (v := .tuple #[spn _ _, .bool _]) ?_ rfl ⟨rfl, by (focus (repeat' (first | exact Below.refl _ _ | refine Below.alloc ?_ ?_ _ | refine Below.setCell ?_ ?_ _ | refine Below.drew ?_ | refine below_drewN ?_ _ | refine Below.trans ?_ (Below.mono (by assumption) ?_) | refine Below.trans ?_ (Below.mono (BW.below _) ?_) | (simp; done) | (simp; omega) | omega)))⟩
      simp [results, Try.results45, go_sem, *]
      try omega

theorem rjoin_cases (a b c d : Int) : (∃ (_ : meetB a b c d = true), joinF a b c d = min a c ∧ joinT a b c d = max b d ∧ joinB a b c d = true) ∨
    (∃ (_ : meetB a b c d = false) (_ : touchB a b c d = true), joinF a b c d = min a c ∧ joinT a b c d = max b d ∧ joinB a b c d = true) ∨
    (∃ (_ : meetB a b c d = false) (_ : touchB a b c d = false), joinF a b c d = 0 ∧ joinT a b c d = 0 ∧ joinB a b c d = false) := by
  have hm : meetB a b c d = decide (a < b ∧ c < d ∧ max a c < min b d) := rfl
  have ht : touchB a b c d = decide (a < b ∧ c < d ∧ max a c = min b d) := rfl
  have hn : joinB a b c d = false → joinF a b c d = 0 ∧ joinT a b c d = 0 ∧ joinB a b c d = false := fun h => by simpa using join_val false h
  have hy : joinB a b c d = true → joinF a b c d = min a c ∧ joinT a b c d = max b d ∧ joinB a b c d = true := fun h => by simpa using join_val true h
  cases h1 : meetB a b c d
  · rw [h1, eq_comm, decide_eq_false_iff_not] at hm
    cases h2 : touchB a b c d
    · rw [h2, eq_comm, decide_eq_false_iff_not] at ht
      exact .inr (.inr ⟨rfl, rfl, hn (by simp only [joinB, decide_eq_false_iff_not]; omega)⟩)
    · rw [h2, eq_comm, decide_eq_true_eq] at ht
      exact .inr (.inl ⟨rfl, rfl, hy (by simp only [joinB, decide_eq_true_eq]; omega)⟩)
  · rw [h1, eq_comm, decide_eq_true_eq] at hm
    exact .inl ⟨rfl, hy (by simp only [joinB, decide_eq_true_eq]; omega)⟩

end Go.Proofs.Ytlnfffenahjcnaa
