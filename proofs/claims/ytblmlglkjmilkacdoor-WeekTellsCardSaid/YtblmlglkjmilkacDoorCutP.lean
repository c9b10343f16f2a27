/-
  Where a text is cut.
-/
import Derived.Lib.Index
import Derived.Lib.IndexMore
namespace Go.Proofs.YtblmlglkjmilkacDoor
open Go.Lib
theorem cut_T (Y R : List UInt8) (hY : ∀ b ∈ Y, b ≠ 84) : Lib.cut (Y ++ ([45, 48, 49, 45, 48, 49, 84] ++ R)) [45, 48, 49, 45, 48, 49, 84] = (Y, R, true) := by
  have hi : Lib.index (Y ++ ([45, 48, 49, 45, 48, 49, 84] ++ R)) [45, 48, 49, 45, 48, 49, 84] = (Y.length : Int) := by
    refine index_first (by simp) ?_ ?_
    · unfold occAt
      rw [List.drop_left]
      exact List.isPrefixOf_iff_prefix.2 (List.prefix_append _ _)
    · intro j hj
      unfold occAt
      cases h : ([45, 48, 49, 45, 48, 49, 84] : List UInt8).isPrefixOf (List.drop j (Y ++ ([45, 48, 49, 45, 48, 49, 84] ++ R))) with
      | false => rfl
      | true =>
        exfalso
        obtain ⟨t, ht⟩ := List.isPrefixOf_iff_prefix.1 h
        have h6 : (List.drop j (Y ++ ([45, 48, 49, 45, 48, 49, 84] ++ R)))[6]? = some 84 := by rw [← ht]; rfl
        rw [List.getElem?_drop] at h6
        by_cases hl : j + 6 < Y.length
        · rw [List.getElem?_append_left hl] at h6
          exact hY 84 (List.mem_of_getElem? h6) rfl
        · rw [List.getElem?_append_right (by omega)] at h6
          have : j + 6 - Y.length = 0 ∨ j + 6 - Y.length = 1 ∨ j + 6 - Y.length = 2 ∨ j + 6 - Y.length = 3 ∨ j + 6 - Y.length = 4 ∨ j + 6 - Y.length = 5 := by omega
          rcases this with e | e | e | e | e | e <;> rw [e] at h6 <;> simp at h6
  unfold Lib.cut
  rw [hi, if_pos (by omega)]
  simp
end Go.Proofs.YtblmlglkjmilkacDoor
