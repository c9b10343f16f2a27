/-
  A row that was written is cut again, field by field.
-/
import Derived.Test.YtjddmcecllhlhaaDoorNxv
namespace Go.Proofs.YtjddmcecllhlhaaDoor
open Go.RowKit
/-- What stands behind a field. -/
def tl : List (List UInt8) → List UInt8
  | [] => []
  | u :: us => 32 :: Lib.join (u :: us) [32]
theorem join_tl (t : List UInt8) (us : List (List UInt8)) : Lib.join (t :: us) [32] = t ++ tl us := by
  cases us with
  | nil => rw [join_one, tl, List.append_nil]
  | cons u us => rw [join_cc, tl]; rfl
/-- What is left of a row when k of its fields are read. -/
def lft (ts : List (List UInt8)) (k : Nat) : List UInt8 := if k = 0 then Lib.join ts [32] else tl (ts.drop k)
theorem tl_drop (j : Nat) : ∀ us : List (List UInt8), (tl (us.drop j)).length ≤ (tl us).length := by
  induction j with
  | zero => intro us; exact Nat.le_refl _
  | succ j ih =>
    intro us
    cases us with
    | nil => exact Nat.le_refl _
    | cons u us =>
      refine Nat.le_trans (ih us) ?_
      rw [tl, join_tl, List.length_cons, List.length_append]
      omega
theorem lft_at {ts : List (List UInt8)} {k : Nat} {t : List UInt8} (hk : ts[k]? = some t) : ∃ sep, (sep = [] ∨ sep = [32]) ∧ lft ts k = sep ++ (t ++ lft ts (k + 1)) ∧ t.length + (lft ts (k + 1)).length ≤ (Lib.join ts [32]).length := by
  have hlt : k < ts.length := (List.getElem?_eq_some_iff.1 hk).1
  have ht : ts[k] = t := (List.getElem?_eq_some_iff.1 hk).2
  have hd : ts.drop k = t :: ts.drop (k + 1) := by rw [List.drop_eq_getElem_cons hlt, ht]
  have h1 : lft ts (k + 1) = tl (ts.drop (k + 1)) := by unfold lft; rw [if_neg (by omega)]
  rw [h1]
  by_cases h0 : k = 0
  · subst h0
    rw [List.drop_zero] at hd
    have e : lft ts 0 = t ++ tl (ts.drop (0 + 1)) := by
      unfold lft
      rw [if_pos rfl]
      conv => lhs; rw [hd]
      rw [join_tl]
    have e2 : Lib.join ts [32] = t ++ tl (ts.drop (0 + 1)) := by
      conv => lhs; rw [hd]
      rw [join_tl]
    exact ⟨[], .inl rfl, e, by rw [e2, List.length_append]; exact Nat.le_refl _⟩
  · have e : lft ts k = [32] ++ (t ++ tl (ts.drop (k + 1))) := by
      unfold lft
      rw [if_neg h0, hd, tl, join_tl]
      rfl
    refine ⟨[32], .inr rfl, e, ?_⟩
    cases ts with
    | nil => cases hlt
    | cons u us =>
      obtain ⟨j, rfl⟩ : ∃ j, k = j + 1 := ⟨k - 1, by omega⟩
      simp only [List.drop_succ_cons] at hd ⊢
      have h2 := tl_drop j us
      rw [hd, tl, join_tl, List.length_cons, List.length_append] at h2
      rw [join_tl, List.length_append]
      omega
theorem lft_next (ts : List (List UInt8)) (k : Nat) : lft ts (k + 1) = [] ∨ ∃ r, lft ts (k + 1) = 32 :: r := by
  unfold lft
  rw [if_neg (by omega)]
  cases ts.drop (k + 1) with
  | nil => exact .inl rfl
  | cons u us => exact .inr ⟨_, rfl⟩
theorem lft_end (ts : List (List UInt8)) : lft ts ts.length = [] := by
  unfold lft
  by_cases h : ts.length = 0
  · rw [if_pos h]
    rw [List.eq_nil_of_length_eq_zero h]
    rfl
  · rw [if_neg h, List.drop_length]
    rfl
theorem next_row (c : Nat) (ts : List (List UInt8)) (k : Nat) (f t : List UInt8) (hk : ts[k]? = some t) (hF : Ft f t) (hlen : (Lib.join ts [32]).length ≤ 2000) (w : World) (h : w.cell? ⟨c, 0, none⟩ = some (.string (bts (lft ts k))))
    (hz : w.frozen? ⟨c, 0, none⟩ = false) (hc : c < w.heap.size) : Calls Tryd.prog 20 #[.pointer (some ⟨c, 0, none⟩)] w (NextGives w c f true (lft ts (k + 1))) := by
  obtain ⟨sep, hs, e, hl⟩ := lft_at hk
  have hr := lft_next ts k
  generalize lft ts (k + 1) = rest at *
  rw [e] at h
  obtain ⟨hq, hF⟩ := hF
  rcases hF with rfl | ⟨rfl, h0, hp⟩
  · rw [show sep ++ (34 :: (f ++ [34]) ++ rest) = sep ++ 34 :: (f ++ 34 :: rest) by simp] at h
    simp only [List.length_cons, List.length_append, List.length_nil] at hl
    exact next_quoted c sep f rest hs hq hr (by omega) w h hz hc
  · exact next_plain c sep t rest hs h0 (fun b hb => ⟨hq b hb, hp b hb⟩) hr (by omega) w h hz hc
end Go.Proofs.YtjddmcecllhlhaaDoor
