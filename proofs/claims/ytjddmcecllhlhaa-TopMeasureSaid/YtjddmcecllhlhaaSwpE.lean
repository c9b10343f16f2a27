/-
  A sweep along edges in order: what holds from round to round. Plain.
-/
import Derived.Test.YtjddmcecllhlhaaSwpB
import Derived.Test.YtjddmcecllhlhaaMenA
namespace Go.Proofs.Ytjddmcecllhlhaa
open Swp
theorem pt_mem {e : List Pt} {k : Nat} (h : k < e.length) : pt e k ∈ e := by rw [pt_get h]; exact List.getElem_mem h
theorem mem_pt {e : List Pt} {x : Pt} (h : x ∈ e) : ∃ k, k < e.length ∧ pt e k = x := by
  obtain ⟨k, hk, rfl⟩ := List.mem_iff_getElem.1 h
  exact ⟨k, hk, pt_get hk⟩
theorem mem_take {e : List Pt} {x : Pt} {i : Nat} (h : x ∈ e.take i) : ∃ k, k < e.length ∧ k < i ∧ pt e k = x := by
  obtain ⟨k, hk, rfl⟩ := List.mem_iff_getElem.1 h
  rw [List.length_take] at hk
  exact ⟨k, by omega, by omega, by rw [pt_get (by omega), List.getElem_take]⟩
theorem mem_drop {e : List Pt} {x : Pt} {i : Nat} (h : x ∈ e.drop i) : ∃ k, k < e.length ∧ i ≤ k ∧ pt e k = x := by
  obtain ⟨k, hk, rfl⟩ := List.mem_iff_getElem.1 h
  rw [List.length_drop] at hk
  exact ⟨i + k, by omega, by omega, by rw [pt_get (by omega), List.getElem_drop]⟩
theorem take_mem {e : List Pt} {m i : Nat} (h1 : m < e.length) (h : m < i) : pt e m ∈ e.take i := by
  rw [pt_get h1]
  exact List.mem_iff_getElem.2 ⟨m, by rw [List.length_take]; omega, by rw [List.getElem_take]⟩
theorem drop_mem {e : List Pt} {m i : Nat} (h1 : m < e.length) (h : i ≤ m) : pt e m ∈ e.drop i := by
  rw [pt_get h1]
  exact List.mem_iff_getElem.2 ⟨m - i, by rw [List.length_drop]; omega, by simp only [List.getElem_drop]; congr 1; omega⟩
theorem ed_shape {a b : List (Int × Int)} {e : List Pt} (h : e.Perm (edg 0 a ++ edg 1 b)) {k : Nat} (hk : k < e.length) : ((pt e k).2.2 = 0 ∨ (pt e k).2.2 = 1) ∧ ((pt e k).2.1 = 1 ∨ (pt e k).2.1 = -1) := by
  have hm := h.mem_iff.1 (pt_mem hk)
  have : ∀ (k : Int) (l : List (Int × Int)) (x : Pt), x ∈ edg k l → x.2.2 = k ∧ (x.2.1 = 1 ∨ x.2.1 = -1) := by
    intro k l x hx
    unfold edg at hx
    obtain ⟨s, _, hs⟩ := List.mem_flatMap.1 hx
    split at hs
    · simp at hs
      rcases hs with rfl | rfl
      · exact ⟨rfl, .inl rfl⟩
      · exact ⟨rfl, .inr rfl⟩
    · cases hs
  rcases List.mem_append.1 hm with hm | hm
  · have := this _ _ _ hm
    exact ⟨.inl this.1, this.2⟩
  · have := this _ _ _ hm
    exact ⟨.inr this.1, this.2⟩
theorem ed_len {a b : List (Int × Int)} {e : List Pt} (h : e.Perm (edg 0 a ++ edg 1 b)) : e.length ≤ 2 * (a.length + b.length) := by
  rw [h.length_eq, List.length_append]
  have := edg_len 0 a
  have := edg_len 1 b
  omega
theorem dpE_succ {e : List Pt} {k : Int} {i : Nat} (h : i < e.length) : dpE e k (i + 1) = dpE e k i + if (pt e i).2.2 = k then (pt e i).2.1 else 0 := by
  unfold dpE
  rw [List.take_succ_eq_append_getElem h, List.map_append, List.sum_append, pt_get h]
  simp
theorem dpE_zero (e : List Pt) (k : Int) : dpE e k 0 = 0 := by simp [dpE]
theorem dpE_bd {e : List Pt} (hs : ∀ k, k < e.length → (pt e k).2.1 = 1 ∨ (pt e k).2.1 = -1) (k : Int) : ∀ i, i ≤ e.length → -(i : Int) ≤ dpE e k i ∧ dpE e k i ≤ i := by
  intro i
  induction i with
  | zero => intro _; rw [dpE_zero]; omega
  | succ i ih =>
    intro h
    obtain ⟨h1, h2⟩ := ih (by omega)
    rw [dpE_succ (by omega)]
    rcases hs i (by omega) with e | e <;> rw [e] <;> split <;> omega
/-- From i to k all edges lie at one second. -/
structure Run (e : List Pt) (i k : Nat) (at_ : Int) : Prop where
  lo : i ≤ k
  hi : k ≤ e.length
  all : ∀ j, i ≤ j → j < k → (pt e j).1 = at_
theorem Run.start {e : List Pt} {i : Nat} (h : i ≤ e.length) (at_ : Int) : Run e i i at_ := ⟨Nat.le_refl _, h, fun j h1 h2 => by omega⟩
theorem Run.next {e : List Pt} {i k : Nat} {at_ : Int} (h : Run e i k at_) (hk : k < e.length) (ha : (pt e k).1 = at_) : Run e i (k + 1) at_ := ⟨Nat.le_succ_of_le h.lo, hk, fun j h1 h2 => by
  by_cases e : j = k
  · rw [e]; exact ha
  · exact h.all j h1 (by omega)⟩
/-- All ahead of i lie ahead of all from i on. -/
def Prt (e : List Pt) (i : Nat) : Prop := ∀ x ∈ e.take i, ∀ y ∈ e.drop i, x.1 < y.1
theorem Prt.zero (e : List Pt) : Prt e 0 := fun x hx => by simp at hx
theorem Run.grp {e : List Pt} (hs : e.Pairwise fun x y => x.1 ≤ y.1) {i k : Nat} (hi : i < e.length) (ho : Prt e i) (r : Run e i k (pt e i).1) (hend : k = e.length ∨ (pt e k).1 ≠ (pt e i).1) : Grp e i k (pt e i).1 ∧ Prt e k := by
  have hs' : ∀ j m, j < m → m < e.length → (pt e j).1 ≤ (pt e m).1 := fun j m h1 h2 => by
    have := (List.pairwise_iff_getElem.1 hs) j m (by omega) h2 h1
    rwa [pt_get (by omega), pt_get h2]
  have hlt : i < k := by
    rcases Nat.lt_or_ge i k with h | h
    · exact h
    · have : k = i := Nat.le_antisymm h r.lo
      subst this
      rcases hend with h | h
      · omega
      · exact absurd rfl h
  have hnew : ∀ x ∈ e.drop k, (pt e i).1 < x.1 := fun x hx => by
    obtain ⟨m, h1, h2, rfl⟩ := mem_drop hx
    have hk : (pt e k).1 ≠ (pt e i).1 := by
      rcases hend with h | h
      · omega
      · exact h
    have a1 := hs' i k hlt (by omega)
    rcases Nat.eq_or_lt_of_le h2 with h | h
    · subst h; omega
    · have := hs' k m h h1; omega
  have hold : ∀ x ∈ e.take i, x.1 < (pt e i).1 := fun x hx => ho x hx _ (drop_mem hi (Nat.le_refl _))
  refine ⟨⟨hlt, r.hi, hold, fun j h1 h2 x hx => ?_, hnew⟩, fun x hx y hy => ?_⟩
  · have hj : j < e.length := by have := r.hi; omega
    rw [List.getElem?_eq_getElem hj] at hx
    rw [← r.all j h1 h2, pt_get hj, Option.some.inj hx]
  · have hy' := hnew y hy
    obtain ⟨m, h1, h2, rfl⟩ := mem_take hx
    rcases Nat.lt_or_ge m i with h | h
    · have := hold _ (take_mem h1 h)
      omega
    · rw [r.all m h h2]
      exact hy'
/-- What is wanted behind a group. -/
theorem wanted {keep : Bool → Bool → Bool} {a b : List (Int × Int)} {e : List Pt} (h : e.Perm (edg 0 a ++ edg 1 b)) {i k : Nat} {at_ : Int} (g : Grp e i k at_) {want : Bool} (hw : keep (decide (0 < dpE e 0 k)) (decide (0 < dpE e 1 k)) = want) :
    ∀ t, at_ ≤ t → (∀ x ∈ e.drop k, t < x.1) → wnt keep a b t = want := by
  intro t h1 h2
  have hle : ∀ x ∈ e.take k, x.1 ≤ t := fun x hx => by
    obtain ⟨m, h3, h4, rfl⟩ := mem_take hx
    rcases Nat.lt_or_ge m i with h | h
    · have := g.old _ (take_mem h3 h)
      omega
    · have := g.all m h h4 (pt e m) (by rw [List.getElem?_eq_getElem h3, pt_get h3])
      omega
  rw [← wnt_dp h, dp_at hle h2, dp_at hle h2]
  exact hw
theorem first_false {keep : Bool → Bool → Bool} (hf : keep false false = false) {a b : List (Int × Int)} {e : List Pt} (h : e.Perm (edg 0 a ++ edg 1 b)) : OutInv e (wnt keep a b) 0 false [] := by
  refine OutInv.start fun t ht => ?_
  rw [← wnt_dp h, dp_at (i := 0) (by simp) (by simpa using ht), dp_at (i := 0) (by simp) (by simpa using ht), dpE_zero, dpE_zero]
  exact hf
theorem last_false {keep : Bool → Bool → Bool} (hf : keep false false = false) {a b : List (Int × Int)} {e : List Pt} (h : e.Perm (edg 0 a ++ edg 1 b)) : keep (decide (0 < dpE e 0 e.length)) (decide (0 < dpE e 1 e.length)) = false := by
  obtain ⟨h1, h2⟩ := dpE_all h
  rw [h1, h2]
  exact hf
end Go.Proofs.Ytjddmcecllhlhaa
