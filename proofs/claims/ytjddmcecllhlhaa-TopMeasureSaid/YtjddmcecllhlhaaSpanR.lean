/-
  Contracts of the reference's functions on spans: the same plain functions.
-/
import Derived.Test.YtjddmcecllhlhaaSpanA
namespace Go.Proofs.Ytjddmcecllhlhaa
open Go.RowKit

theorem rmeet_cases (a b c d : Int) : (∃ (_ : a < b) (_ : c < d) (_ : decide (a ≤ c ∧ c < b) = true), meetB a b c d = true) ∨
    (∃ (_ : a < b) (_ : c < d) (_ : decide (a ≤ c ∧ c < b) = false) (_ : decide (c ≤ a ∧ a < d) = true), meetB a b c d = true) ∨
    (∃ (_ : decide (a < b) = false), meetB a b c d = false) ∨ (∃ (_ : a < b) (_ : decide (c < d) = false), meetB a b c d = false) ∨
    (∃ (_ : a < b) (_ : c < d) (_ : decide (a ≤ c ∧ c < b) = false) (_ : decide (c ≤ a ∧ a < d) = false), meetB a b c d = false) := by
  by_cases h1 : a < b
  · by_cases h2 : c < d
    · by_cases h3 : a ≤ c ∧ c < b
      · exact .inl ⟨h1, h2, by simpa using h3, by simp only [meetB, decide_eq_true_eq]; omega⟩
      · by_cases h4 : c ≤ a ∧ a < d
        · exact .inr (.inl ⟨h1, h2, decide_eq_false h3, decide_eq_true h4, by simp only [meetB, decide_eq_true_eq]; omega⟩)
        · exact .inr (.inr (.inr (.inr ⟨h1, h2, decide_eq_false h3, decide_eq_false h4, by simp only [meetB, decide_eq_false_iff_not]; omega⟩)))
    · exact .inr (.inr (.inr (.inl ⟨h1, by simpa using h2, by simp [meetB, h2]⟩)))
  · exact .inr (.inr (.inl ⟨by simpa using h1, by simp [meetB, h1]⟩))

theorem rtouch_cases (a b c d : Int) : (∃ (_ : a < b) (_ : c < d) (_ : (b == c) = true), touchB a b c d = true) ∨
    (∃ (_ : a < b) (_ : c < d) (_ : (b == c) = false) (_ : (d == a) = true), touchB a b c d = true) ∨
    (∃ (_ : decide (a < b) = false), touchB a b c d = false) ∨ (∃ (_ : a < b) (_ : decide (c < d) = false), touchB a b c d = false) ∨
    (∃ (_ : a < b) (_ : c < d) (_ : (b == c) = false) (_ : (d == a) = false), touchB a b c d = false) := by
  by_cases h1 : a < b
  · by_cases h2 : c < d
    · by_cases h3 : b = c
      · exact .inl ⟨h1, h2, by simpa using h3, by simp only [touchB, decide_eq_true_eq]; omega⟩
      · by_cases h4 : d = a
        · exact .inr (.inl ⟨h1, h2, by simpa using h3, by simpa using h4, by simp only [touchB, decide_eq_true_eq]; omega⟩)
        · exact .inr (.inr (.inr (.inr ⟨h1, h2, by simpa using h3, by simpa using h4, by simp only [touchB, decide_eq_false_iff_not]; omega⟩)))
    · exact .inr (.inr (.inr (.inl ⟨h1, by simpa using h2, by simp [touchB, h2]⟩)))
  · exact .inr (.inr (.inl ⟨by simpa using h1, by simp [touchB, h1]⟩))

theorem both_val (a b c d : Int) : (meetB a b c d = true ∧ bothF a b c d = max a c ∧ bothT a b c d = min b d) ∨ (meetB a b c d = false ∧ bothF a b c d = 0 ∧ bothT a b c d = 0) := by
  cases h : meetB a b c d
  · exact .inr ⟨rfl, by simp [bothF, h], by simp [bothT, h]⟩
  · exact .inl ⟨rfl, by simp [bothF, h], by simp [bothT, h]⟩

theorem rjoin_cases (a b c d : Int) : (∃ (_ : meetB a b c d = true), joinF a b c d = min a c ∧ joinT a b c d = max b d ∧ joinB a b c d = true) ∨
    (∃ (_ : meetB a b c d = false) (_ : touchB a b c d = true), joinF a b c d = min a c ∧ joinT a b c d = max b d ∧ joinB a b c d = true) ∨
    (∃ (_ : meetB a b c d = false) (_ : touchB a b c d = false), joinF a b c d = 0 ∧ joinT a b c d = 0 ∧ joinB a b c d = false) := by
  have hm : meetB a b c d = decide (a < b ∧ c < d ∧ max a c < min b d) := rfl
  have ht : touchB a b c d = decide (a < b ∧ c < d ∧ max a c = min b d) := rfl
  have hn : joinB a b c d = false → joinF a b c d = 0 ∧ joinT a b c d = 0 ∧ joinB a b c d = false := fun h => by simpa using join_val false h
  have hy : joinB a b c d = true → joinF a b c d = min a c ∧ joinT a b c d = max b d ∧ joinB a b c d = true := fun h => by simpa using join_val true h
  cases h1 : meetB a b c d
  · rw [h1, eq_comm, decide_eq_false_iff_not] at hm
    cases h2 : touchB a b c d
    · rw [h2, eq_comm, decide_eq_false_iff_not] at ht
      exact .inr (.inr ⟨rfl, rfl, hn (by simp only [joinB, decide_eq_false_iff_not]; omega)⟩)
    · rw [h2, eq_comm, decide_eq_true_eq] at ht
      exact .inr (.inl ⟨rfl, rfl, hy (by simp only [joinB, decide_eq_true_eq]; omega)⟩)
  · rw [h1, eq_comm, decide_eq_true_eq] at hm
    exact .inl ⟨rfl, hy (by simp only [joinB, decide_eq_true_eq]; omega)⟩

end Go.Proofs.Ytjddmcecllhlhaa
