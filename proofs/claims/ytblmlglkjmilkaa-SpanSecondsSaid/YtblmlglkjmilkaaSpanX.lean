/-
  noontidelaw10.SpanSeconds: the walk.
-/
import Derived.Test.YtblmlglkjmilkaaSpanZ
namespace Go.Proofs.Ytblmlglkjmilkaa
open Go.RowKit
attribute [local go_sem] BW.cell BW.frozen

theorem has_is {p q t : Int} {v : Bool} (h : decide (p ≤ t ∧ t < q) = v) : ∀ w : World, Calls Try.prog 25 #[spn p q, .int .i64 t] w fun e w' => e = .returned (.bool v) ∧ Below w.heap.size w w' := fun w => by subst h; exact span_Has p q t w
theorem meet_is {a b c d : Int} {v : Bool} (h : meetB a b c d = v) : ∀ w : World, Calls Try.prog 27 #[spn a b, spn c d] w fun e w' => e = .returned (.bool v) ∧ Below w.heap.size w w' := fun w => by subst h; exact span_Meet a b c d w
theorem touch_is {a b c d : Int} {v : Bool} (h : touchB a b c d = v) : ∀ w : World, Calls Try.prog 29 #[spn a b, spn c d] w fun e w' => e = .returned (.bool v) ∧ Below w.heap.size w w' := fun w => by subst h; exact span_Touch a b c d w
theorem both_is {a b c d : Int} {v : Bool} (h : meetB a b c d = v) : ∀ w : World, Calls Try.prog 15 #[spn a b, spn c d] w fun e w' => e = .returned (.tuple #[spn (bothF a b c d) (bothT a b c d), .bool v]) ∧ Below w.heap.size w w' := fun w => by subst h; exact span_Both a b c d w
theorem join_is {a b c d : Int} {v : Bool} (h : joinB a b c d = v) : ∀ w : World, Calls Try.prog 17 #[spn a b, spn c d] w fun e w' => e = .returned (.tuple #[spn (joinF a b c d) (joinT a b c d), .bool v]) ∧ Below w.heap.size w w' := fun w => by subst h; exact span_Join a b c d w
theorem right_is {p q : Int} {v : Bool} (h : decide (p < q) = v) : ∀ w : World, Calls Try.prog 23 #[spn p q] w fun e w' => e = .returned (.bool v) ∧ Below w.heap.size w w' := fun w => by subst h; exact span_Right p q w
theorem meet_iff {a b c d : Int} : meetB a b c d = true ↔ a < b ∧ c < d ∧ max a c < min b d := by simp [meetB]
theorem touch_iff {a b c d : Int} : touchB a b c d = true ↔ a < b ∧ c < d ∧ max a c = min b d := by simp [touchB]
theorem join_iff {a b c d : Int} : joinB a b c d = true ↔ a < b ∧ c < d ∧ max a c ≤ min b d := by simp [joinB]
theorem SpanSeconds_walk (a b c d t : Int) (w : World) : Calls Try.prog 4 #[spn a b, spn c d, .int .i64 t] w fun e w' => e = .returned (.bool true) ∧ Below w.heap.size w w' := by
  have hL := fun w => span_Less a b c d w
  rcases less_cases a b c d with ⟨⟨hm, h1, h2⟩, e⟩ | ⟨⟨hm, h1, h2⟩, e⟩ | ⟨⟨hm, h1, h2⟩, e⟩ | ⟨⟨hm, h1, h2⟩, e⟩ | ⟨⟨hm, h1⟩, e⟩ | ⟨⟨hm, h1⟩, e⟩
  · rw [e] at hL
    clear e
    have mt := meet_iff.1 hm
    obtain ⟨ef, et, _⟩ := meetB_y mt
    have hj : joinB a b c d = true := join_iff.2 (by omega)
    have m2 : meetB c d a b = true := meet_iff.2 (by omega)
    obtain ⟨jf, jt, _⟩ := join_val true hj
    rw [if_pos rfl] at jf jt
    by_cases hi : a ≤ t ∧ t < b <;> by_cases ho : c ≤ t ∧ t < d
    · exact SpanSeconds_2_111000 _ _ _ _ _ _ _ _ _ _ _ _ _ (has_is (decide_eq_true (by omega))) (has_is (decide_eq_true (by omega))) (both_is hm) (meet_is hm) (meet_is m2) (has_is (decide_eq_true (by omega))) (join_is hj) (has_is (decide_eq_true (by omega))) hL (right_is (decide_eq_true (by omega))) (has_is (decide_eq_false (by omega))) (right_is (decide_eq_true (by omega))) (has_is (decide_eq_false (by omega))) w
    · by_cases hp : t < c
      · exact SpanSeconds_2_101010 _ _ _ _ _ _ _ _ _ _ _ _ _ (has_is (decide_eq_true (by omega))) (has_is (decide_eq_false (by omega))) (both_is hm) (meet_is hm) (meet_is m2) (has_is (decide_eq_false (by omega))) (join_is hj) (has_is (decide_eq_true (by omega))) hL (right_is (decide_eq_true (by omega))) (has_is (decide_eq_true (by omega))) (right_is (decide_eq_true (by omega))) (has_is (decide_eq_false (by omega))) w
      · exact SpanSeconds_2_101001 _ _ _ _ _ _ _ _ _ _ _ _ _ (has_is (decide_eq_true (by omega))) (has_is (decide_eq_false (by omega))) (both_is hm) (meet_is hm) (meet_is m2) (has_is (decide_eq_false (by omega))) (join_is hj) (has_is (decide_eq_true (by omega))) hL (right_is (decide_eq_true (by omega))) (has_is (decide_eq_false (by omega))) (right_is (decide_eq_true (by omega))) (has_is (decide_eq_true (by omega))) w
    · exact SpanSeconds_2_011000 _ _ _ _ _ _ _ _ _ _ _ _ _ (has_is (decide_eq_false (by omega))) (has_is (decide_eq_true (by omega))) (both_is hm) (meet_is hm) (meet_is m2) (has_is (decide_eq_false (by omega))) (join_is hj) (has_is (decide_eq_true (by omega))) hL (right_is (decide_eq_true (by omega))) (has_is (decide_eq_false (by omega))) (right_is (decide_eq_true (by omega))) (has_is (decide_eq_false (by omega))) w
    · exact SpanSeconds_2_001000 _ _ _ _ _ _ _ _ _ _ _ _ _ (has_is (decide_eq_false (by omega))) (has_is (decide_eq_false (by omega))) (both_is hm) (meet_is hm) (meet_is m2) (has_is (decide_eq_false (by omega))) (join_is hj) (has_is (decide_eq_false (by omega))) hL (right_is (decide_eq_true (by omega))) (has_is (decide_eq_false (by omega))) (right_is (decide_eq_true (by omega))) (has_is (decide_eq_false (by omega))) w
  · rw [e] at hL
    clear e
    have mt := meet_iff.1 hm
    obtain ⟨ef, et, _⟩ := meetB_y mt
    have hj : joinB a b c d = true := join_iff.2 (by omega)
    have m2 : meetB c d a b = true := meet_iff.2 (by omega)
    obtain ⟨jf, jt, _⟩ := join_val true hj
    rw [if_pos rfl] at jf jt
    by_cases hi : a ≤ t ∧ t < b <;> by_cases ho : c ≤ t ∧ t < d
    · exact SpanSeconds_1_11100 _ _ _ _ _ _ _ _ _ _ _ (has_is (decide_eq_true (by omega))) (has_is (decide_eq_true (by omega))) (both_is hm) (meet_is hm) (meet_is m2) (has_is (decide_eq_true (by omega))) (join_is hj) (has_is (decide_eq_true (by omega))) hL (right_is (decide_eq_true (by omega))) (has_is (decide_eq_false (by omega))) w
    · exact SpanSeconds_1_10101 _ _ _ _ _ _ _ _ _ _ _ (has_is (decide_eq_true (by omega))) (has_is (decide_eq_false (by omega))) (both_is hm) (meet_is hm) (meet_is m2) (has_is (decide_eq_false (by omega))) (join_is hj) (has_is (decide_eq_true (by omega))) hL (right_is (decide_eq_true (by omega))) (has_is (decide_eq_true (by omega))) w
    · exact SpanSeconds_1_01100 _ _ _ _ _ _ _ _ _ _ _ (has_is (decide_eq_false (by omega))) (has_is (decide_eq_true (by omega))) (both_is hm) (meet_is hm) (meet_is m2) (has_is (decide_eq_false (by omega))) (join_is hj) (has_is (decide_eq_true (by omega))) hL (right_is (decide_eq_true (by omega))) (has_is (decide_eq_false (by omega))) w
    · exact SpanSeconds_1_00100 _ _ _ _ _ _ _ _ _ _ _ (has_is (decide_eq_false (by omega))) (has_is (decide_eq_false (by omega))) (both_is hm) (meet_is hm) (meet_is m2) (has_is (decide_eq_false (by omega))) (join_is hj) (has_is (decide_eq_false (by omega))) hL (right_is (decide_eq_true (by omega))) (has_is (decide_eq_false (by omega))) w
  · rw [e] at hL
    clear e
    have mt := meet_iff.1 hm
    obtain ⟨ef, et, _⟩ := meetB_y mt
    have hj : joinB a b c d = true := join_iff.2 (by omega)
    have m2 : meetB c d a b = true := meet_iff.2 (by omega)
    obtain ⟨jf, jt, _⟩ := join_val true hj
    rw [if_pos rfl] at jf jt
    by_cases hi : a ≤ t ∧ t < b <;> by_cases ho : c ≤ t ∧ t < d
    · exact SpanSeconds_1_11100 _ _ _ _ _ _ _ _ _ _ _ (has_is (decide_eq_true (by omega))) (has_is (decide_eq_true (by omega))) (both_is hm) (meet_is hm) (meet_is m2) (has_is (decide_eq_true (by omega))) (join_is hj) (has_is (decide_eq_true (by omega))) hL (right_is (decide_eq_true (by omega))) (has_is (decide_eq_false (by omega))) w
    · exact SpanSeconds_1_10101 _ _ _ _ _ _ _ _ _ _ _ (has_is (decide_eq_true (by omega))) (has_is (decide_eq_false (by omega))) (both_is hm) (meet_is hm) (meet_is m2) (has_is (decide_eq_false (by omega))) (join_is hj) (has_is (decide_eq_true (by omega))) hL (right_is (decide_eq_true (by omega))) (has_is (decide_eq_true (by omega))) w
    · exact SpanSeconds_1_01100 _ _ _ _ _ _ _ _ _ _ _ (has_is (decide_eq_false (by omega))) (has_is (decide_eq_true (by omega))) (both_is hm) (meet_is hm) (meet_is m2) (has_is (decide_eq_false (by omega))) (join_is hj) (has_is (decide_eq_true (by omega))) hL (right_is (decide_eq_true (by omega))) (has_is (decide_eq_false (by omega))) w
    · exact SpanSeconds_1_00100 _ _ _ _ _ _ _ _ _ _ _ (has_is (decide_eq_false (by omega))) (has_is (decide_eq_false (by omega))) (both_is hm) (meet_is hm) (meet_is m2) (has_is (decide_eq_false (by omega))) (join_is hj) (has_is (decide_eq_false (by omega))) hL (right_is (decide_eq_true (by omega))) (has_is (decide_eq_false (by omega))) w
  · rw [e] at hL
    clear e
    have mt := meet_iff.1 hm
    obtain ⟨ef, et, _⟩ := meetB_y mt
    have hj : joinB a b c d = true := join_iff.2 (by omega)
    have m2 : meetB c d a b = true := meet_iff.2 (by omega)
    obtain ⟨jf, jt, _⟩ := join_val true hj
    rw [if_pos rfl] at jf jt
    by_cases hi : a ≤ t ∧ t < b <;> by_cases ho : c ≤ t ∧ t < d
    · exact SpanSeconds_0_1110 _ _ _ _ _ _ _ _ _ (has_is (decide_eq_true (by omega))) (has_is (decide_eq_true (by omega))) (both_is hm) (meet_is hm) (meet_is m2) (has_is (decide_eq_true (by omega))) (join_is hj) (has_is (decide_eq_true (by omega))) hL w
    · exfalso; omega
    · exact SpanSeconds_0_0110 _ _ _ _ _ _ _ _ _ (has_is (decide_eq_false (by omega))) (has_is (decide_eq_true (by omega))) (both_is hm) (meet_is hm) (meet_is m2) (has_is (decide_eq_false (by omega))) (join_is hj) (has_is (decide_eq_true (by omega))) hL w
    · exact SpanSeconds_0_0010 _ _ _ _ _ _ _ _ _ (has_is (decide_eq_false (by omega))) (has_is (decide_eq_false (by omega))) (both_is hm) (meet_is hm) (meet_is m2) (has_is (decide_eq_false (by omega))) (join_is hj) (has_is (decide_eq_false (by omega))) hL w
  · rw [e] at hL
    clear e
    have mt : ¬ (a < b ∧ c < d ∧ max a c < min b d) := fun h => by rw [meet_iff.2 h] at hm; cases hm
    obtain ⟨ef, et, _⟩ := meetB_f mt
    have m2 : meetB c d a b = false := by cases h : meetB c d a b; rfl; exact absurd (meet_iff.1 h) (by omega)
    cases ht : touchB a b c d
    · have tt : ¬ (a < b ∧ c < d ∧ max a c = min b d) := fun h => by rw [touch_iff.2 h] at ht; cases ht
      have hj : joinB a b c d = false := by cases h : joinB a b c d; rfl; exact absurd (join_iff.1 h) (by omega)
      by_cases hi : a ≤ t ∧ t < b <;> by_cases ho : c ≤ t ∧ t < d
      · exfalso; omega
      · exact SpanSeconds_1_10001 _ _ _ _ _ _ _ _ _ _ _ (has_is (decide_eq_true (by omega))) (has_is (decide_eq_false (by omega))) (both_is hm) (meet_is hm) (meet_is m2) (has_is (decide_eq_false (by omega))) (join_is hj) (touch_is ht) hL (right_is (decide_eq_true (by omega))) (has_is (decide_eq_true (by omega))) w
      · exact SpanSeconds_1_01000 _ _ _ _ _ _ _ _ _ _ _ (has_is (decide_eq_false (by omega))) (has_is (decide_eq_true (by omega))) (both_is hm) (meet_is hm) (meet_is m2) (has_is (decide_eq_false (by omega))) (join_is hj) (touch_is ht) hL (right_is (decide_eq_true (by omega))) (has_is (decide_eq_false (by omega))) w
      · exact SpanSeconds_1_00000 _ _ _ _ _ _ _ _ _ _ _ (has_is (decide_eq_false (by omega))) (has_is (decide_eq_false (by omega))) (both_is hm) (meet_is hm) (meet_is m2) (has_is (decide_eq_false (by omega))) (join_is hj) (touch_is ht) hL (right_is (decide_eq_true (by omega))) (has_is (decide_eq_false (by omega))) w
    · have tt := touch_iff.1 ht
      have hj : joinB a b c d = true := join_iff.2 (by omega)
      obtain ⟨jf, jt, _⟩ := join_val true hj
      rw [if_pos rfl] at jf jt
      by_cases hi : a ≤ t ∧ t < b <;> by_cases ho : c ≤ t ∧ t < d
      · exfalso; omega
      · exact SpanSeconds_1_10011 _ _ _ _ _ _ _ _ _ _ _ (has_is (decide_eq_true (by omega))) (has_is (decide_eq_false (by omega))) (both_is hm) (meet_is hm) (meet_is m2) (has_is (decide_eq_false (by omega))) (join_is hj) (touch_is ht) (has_is (decide_eq_true (by omega))) hL (right_is (decide_eq_true (by omega))) (has_is (decide_eq_true (by omega))) w
      · exact SpanSeconds_1_01010 _ _ _ _ _ _ _ _ _ _ _ (has_is (decide_eq_false (by omega))) (has_is (decide_eq_true (by omega))) (both_is hm) (meet_is hm) (meet_is m2) (has_is (decide_eq_false (by omega))) (join_is hj) (touch_is ht) (has_is (decide_eq_true (by omega))) hL (right_is (decide_eq_true (by omega))) (has_is (decide_eq_false (by omega))) w
      · exact SpanSeconds_1_00010 _ _ _ _ _ _ _ _ _ _ _ (has_is (decide_eq_false (by omega))) (has_is (decide_eq_false (by omega))) (both_is hm) (meet_is hm) (meet_is m2) (has_is (decide_eq_false (by omega))) (join_is hj) (touch_is ht) (has_is (decide_eq_false (by omega))) hL (right_is (decide_eq_true (by omega))) (has_is (decide_eq_false (by omega))) w
  · rw [e] at hL
    clear e
    have mt : ¬ (a < b ∧ c < d ∧ max a c < min b d) := fun h => by rw [meet_iff.2 h] at hm; cases hm
    obtain ⟨ef, et, _⟩ := meetB_f mt
    have m2 : meetB c d a b = false := by cases h : meetB c d a b; rfl; exact absurd (meet_iff.1 h) (by omega)
    cases ht : touchB a b c d
    · have tt : ¬ (a < b ∧ c < d ∧ max a c = min b d) := fun h => by rw [touch_iff.2 h] at ht; cases ht
      have hj : joinB a b c d = false := by cases h : joinB a b c d; rfl; exact absurd (join_iff.1 h) (by omega)
      by_cases hi : a ≤ t ∧ t < b <;> by_cases ho : c ≤ t ∧ t < d
      · exfalso; omega
      · exfalso; omega
      · exact SpanSeconds_0_0100 _ _ _ _ _ _ _ _ _ (has_is (decide_eq_false (by omega))) (has_is (decide_eq_true (by omega))) (both_is hm) (meet_is hm) (meet_is m2) (has_is (decide_eq_false (by omega))) (join_is hj) (touch_is ht) hL w
      · exact SpanSeconds_0_0000 _ _ _ _ _ _ _ _ _ (has_is (decide_eq_false (by omega))) (has_is (decide_eq_false (by omega))) (both_is hm) (meet_is hm) (meet_is m2) (has_is (decide_eq_false (by omega))) (join_is hj) (touch_is ht) hL w
    · have tt := touch_iff.1 ht
      have hj : joinB a b c d = true := join_iff.2 (by omega)
      obtain ⟨jf, jt, _⟩ := join_val true hj
      rw [if_pos rfl] at jf jt
      by_cases hi : a ≤ t ∧ t < b <;> by_cases ho : c ≤ t ∧ t < d
      · exfalso; omega
      · exfalso; omega
      · exact SpanSeconds_0_0101 _ _ _ _ _ _ _ _ _ (has_is (decide_eq_false (by omega))) (has_is (decide_eq_true (by omega))) (both_is hm) (meet_is hm) (meet_is m2) (has_is (decide_eq_false (by omega))) (join_is hj) (touch_is ht) (has_is (decide_eq_true (by omega))) hL w
      · exact SpanSeconds_0_0001 _ _ _ _ _ _ _ _ _ (has_is (decide_eq_false (by omega))) (has_is (decide_eq_false (by omega))) (both_is hm) (meet_is hm) (meet_is m2) (has_is (decide_eq_false (by omega))) (join_is hj) (touch_is ht) (has_is (decide_eq_false (by omega))) hL w
end Go.Proofs.Ytblmlglkjmilkaa
