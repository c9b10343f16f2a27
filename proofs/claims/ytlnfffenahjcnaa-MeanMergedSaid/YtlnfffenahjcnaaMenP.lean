/-
  Parts that touch and are alike made one; what that keeps. Plain.
-/
import Derived.Test.YtlnfffenahjcnaaMenE
import Derived.Test.YtlnfffenahjcnaaMeaG
namespace Go.Proofs.Ytlnfffenahjcnaa
open Go.RowKit Flo

/-- q goes on as p. -/
def alike (q p : Pt) : Bool := (q.2.2 == p.2.2) && (q.2.1 == p.1)
/-- One part more. -/
def mrgS (out : List Pt) (p : Pt) : List Pt :=
  match out.getLast? with
  | some q => if alike q p = true then out.dropLast ++ [(q.1, p.2.1, q.2.2)] else out ++ [p]
  | none => [p]
def mergeL (l : List Pt) : List Pt := l.foldl mrgS []
def mergeX (l : List Pt) : List Pt := if rightL l = true then mergeL l else []
theorem mergeL_snoc (l : List Pt) (p : Pt) : mergeL (l ++ [p]) = mrgS (mergeL l) p := by simp [mergeL]
theorem mrgS_nil (p : Pt) : mrgS [] p = [p] := rfl
theorem mrgS_snoc (o : List Pt) (q p : Pt) : mrgS (o ++ [q]) p = if alike q p = true then o ++ [(q.1, p.2.1, q.2.2)] else o ++ [q] ++ [p] := by
  unfold mrgS
  rw [List.getLast?_concat, List.dropLast_concat]
theorem snoc_of {α : Type} {l : List α} (h : l ≠ []) : ∃ o q, l = o ++ [q] := ⟨l.dropLast, l.getLast h, (List.dropLast_concat_getLast h).symm⟩
theorem mrgS_ne (o : List Pt) (p : Pt) : mrgS o p ≠ [] := by
  by_cases h : o = []
  · subst h; rw [mrgS_nil]; simp
  · obtain ⟨o, q, rfl⟩ := snoc_of h
    rw [mrgS_snoc]
    split <;> simp
theorem mergeL_len (l : List Pt) : (mergeL l).length ≤ l.length ∧ (l ≠ [] → mergeL l ≠ []) := by
  suffices h : ∀ n, ∀ l : List Pt, l.length = n → (mergeL l).length ≤ l.length ∧ (l ≠ [] → mergeL l ≠ []) from h _ l rfl
  intro n
  induction n with
  | zero =>
    intro l hl
    rw [List.length_eq_zero_iff.1 hl]
    exact ⟨Nat.le_refl _, fun h => h⟩
  | succ n ih =>
    intro l hl
    obtain ⟨m, p, rfl⟩ := snoc_of (l := l) (by rintro rfl; simp at hl)
    rw [mergeL_snoc]
    refine ⟨?_, fun _ => mrgS_ne _ _⟩
    have := (ih m (by simpa using hl)).1
    by_cases h : mergeL m = []
    · rw [h, mrgS_nil]; simp
    · obtain ⟨o, q, e⟩ := snoc_of h
      rw [e] at this ⊢
      rw [mrgS_snoc]
      split <;> simp at * <;> omega
/-- Parts that are right, as pairs. -/
def PW (l : List Pt) : Prop := l.Pairwise (fun x y => x.2.1 ≤ y.1) ∧ ∀ x ∈ l, x.1 < x.2.1
theorem PW.of {l : List Pt} (h : rightL l = true) : PW l := by
  suffices hh : ∀ n, ∀ l : List Pt, l.length = n → rightL l = true → PW l ∧ ∀ x ∈ l, x.2.1 ≤ (pt l (l.length - 1)).2.1 from (hh _ l rfl h).1
  intro n
  induction n with
  | zero =>
    intro l hl _
    rw [List.length_eq_zero_iff.1 hl]
    exact ⟨⟨List.Pairwise.nil, fun x h => by cases h⟩, fun x h => by cases h⟩
  | succ n ih =>
    intro l hl hr
    obtain ⟨m, p, rfl⟩ := snoc_of (l := l) (by rintro rfl; simp at hl)
    have hm : m.length = n := by simpa using hl
    have lo : ∀ k, k < n → pt (m ++ [p]) k = pt m k := fun k hk => by unfold pt; rw [List.getElem?_append_left (by omega)]
    have hi : pt (m ++ [p]) n = p := by unfold pt; subst hm; rw [List.getElem?_concat_length]; rfl
    have hm2 : rightL m = true := rightL_y fun k hk => by
      have := right_at hr (k := k) (by simp; omega)
      unfold goodAt at *
      rw [lo k (by omega)] at this
      by_cases k0 : k = 0
      · subst k0; simpa using this
      · rw [lo (k - 1) (by omega)] at this
        exact this
    obtain ⟨⟨h1, h2⟩, h3⟩ := ih m hm hm2
    have g := right_at hr (k := n) (by simp; omega)
    unfold goodAt at g
    rw [hi] at g
    simp only [Bool.and_eq_true, Bool.or_eq_true, decide_eq_true_eq] at g
    obtain ⟨g1, g2⟩ := g
    have g3 : ∀ x ∈ m, x.2.1 ≤ p.1 := fun x hx => by
      have := h3 x hx
      have hn : n ≠ 0 := by rintro rfl; rw [List.length_eq_zero_iff.1 hm] at hx; cases hx
      rcases g2 with g2 | g2
      · exact absurd g2 hn
      · rw [lo (n - 1) (by omega)] at g2
        rw [hm] at this
        omega
    refine ⟨⟨List.pairwise_append.2 ⟨h1, List.pairwise_singleton _ _, fun x hx y hy => ?_⟩, fun x hx => ?_⟩, fun x hx => ?_⟩
    · rw [List.mem_singleton] at hy; subst hy; exact g3 x hx
    · rcases List.mem_append.1 hx with hx | hx
      · exact h2 x hx
      · rw [List.mem_singleton] at hx; subst hx; exact g1
    · rw [show (m ++ [p]).length - 1 = n by simp; omega, hi]
      rcases List.mem_append.1 hx with hx | hx
      · have := g3 x hx; omega
      · rw [List.mem_singleton] at hx; subst hx; exact Int.le_refl _
theorem PW.right {l : List Pt} (h : PW l) : rightL l = true := rightL_y fun k hk => by
  unfold goodAt
  rw [pt_get hk]
  have h1 := h.2 l[k] (List.getElem_mem hk)
  rw [decide_eq_true h1, Bool.true_and]
  by_cases k0 : k = 0
  · subst k0; rfl
  · rw [pt_get (show k - 1 < l.length by omega)]
    have := List.pairwise_iff_getElem.1 h.1 (k - 1) k (by omega) hk (by omega)
    rw [decide_eq_true this, Bool.or_true]
theorem PW.init {l : List Pt} {p : Pt} (h : PW (l ++ [p])) : PW l ∧ p.1 < p.2.1 ∧ ∀ x ∈ l, x.2.1 ≤ p.1 := by
  obtain ⟨h1, h2⟩ := h
  obtain ⟨a, _, c⟩ := List.pairwise_append.1 h1
  exact ⟨⟨a, fun x hx => h2 x (List.mem_append.2 (.inl hx))⟩, h2 p (by simp), fun x hx => c x hx p (by simp)⟩
theorem PW.snoc {l : List Pt} {p : Pt} (h : PW l) (h1 : p.1 < p.2.1) (h2 : ∀ x ∈ l, x.2.1 ≤ p.1) : PW (l ++ [p]) := by
  refine ⟨List.pairwise_append.2 ⟨h.1, List.pairwise_singleton _ _, fun x hx y hy => ?_⟩, fun x hx => ?_⟩
  · rw [List.mem_singleton] at hy; subst hy; exact h2 x hx
  · rcases List.mem_append.1 hx with hx | hx
    · exact h.2 x hx
    · rw [List.mem_singleton] at hx; subst hx; exact h1
/-- How long a part counts in a span. -/
def lenIn (a b : Int) (p : Pt) : Int := if meetP a b p = true then bothT p.1 p.2.1 a b - bothF p.1 p.2.1 a b else 0
def lensIn (a b : Int) (l : List Pt) : Int := (l.map (lenIn a b)).sum
/-- The ends, a part more. -/
def endP (a b : Int) (s : Int × Int × Bool) (p : Pt) : Int × Int × Bool := if meetP a b p = true then endF s p.2.2 else s
def endsP (a b : Int) (l : List Pt) : Int × Int × Bool := l.foldl (endP a b) (0, 0, false)
theorem endF_twice (s : Int × Int × Bool) (v : Int) : endF (endF s v) v = endF s v := by
  obtain ⟨l, h, is⟩ := s
  unfold endF
  cases is
  · simp
  · simp only [if_true]
    refine Prod.ext ?_ (Prod.ext ?_ rfl)
    · by_cases c : v < l <;> simp [c]
    · by_cases c : h < v <;> simp [c]
/-- Two that go on as one: how long, and the ends. -/
theorem join_two {a b : Int} {q p : Pt} (hq : q.1 < q.2.1) (hp : p.1 < p.2.1) (h : alike q p = true) (s : Int × Int × Bool) :
    lenIn a b (q.1, p.2.1, q.2.2) = lenIn a b q + lenIn a b p ∧ endP a b s (q.1, p.2.1, q.2.2) = endP a b (endP a b s q) p := by
  unfold alike at h
  simp only [Bool.and_eq_true, beq_iff_eq] at h
  obtain ⟨hv, ht⟩ := h
  obtain ⟨f, t, v⟩ := q
  obtain ⟨f', t', v'⟩ := p
  simp only at hv ht hq hp
  subst hv
  subst ht
  have key : meetP a b (f, t', v) = (meetP a b (f, t, v) || meetP a b (t, t', v)) := by
    unfold meetP meetB
    rw [Bool.eq_iff_iff]
    simp only [Bool.or_eq_true, decide_eq_true_eq]
    omega
  constructor
  · unfold lenIn
    rw [key]
    cases h1 : meetP a b (f, t, v) <;> cases h2 : meetP a b (t, t', v) <;> simp only [Bool.or_self, Bool.or_true, Bool.true_or, Bool.false_or, Bool.or_false, if_true, Bool.false_eq_true, if_false]
    · rfl
    all_goals
      have k : meetB f t' a b = true := by
        have e : meetP a b (f, t', v) = meetB f t' a b := rfl
        rw [← e, key, h1, h2]; rfl
      unfold meetP at h1 h2
      simp only at h1 h2
      unfold bothT bothF
      rw [k]
      simp only [h1, h2, if_true]
      unfold meetB at h1 h2
      simp only [decide_eq_true_eq, decide_eq_false_iff_not] at h1 h2
      omega
  · unfold endP
    rw [key]
    cases h1 : meetP a b (f, t, v) <;> cases h2 : meetP a b (t, t', v) <;> simp [endF_twice]
/-- No two that touch are alike. -/
def NT (m : List Pt) : Prop := ∀ i, i + 1 < m.length → alike (pt m i) (pt m (i + 1)) = false
theorem pt_app {m : List Pt} {p : Pt} {k : Nat} (h : k < m.length) : pt (m ++ [p]) k = pt m k := by unfold pt; rw [List.getElem?_append_left h]
theorem pt_last (m : List Pt) (p : Pt) : pt (m ++ [p]) m.length = p := by unfold pt; rw [List.getElem?_concat_length]; rfl
theorem NT.snoc {o : List Pt} {q p : Pt} (h : NT (o ++ [q])) (h1 : alike q p = false) : NT (o ++ [q] ++ [p]) := fun i hi => by
  rw [List.length_append, List.length_singleton] at hi
  by_cases e : i + 1 < (o ++ [q]).length
  · rw [pt_app e, pt_app (by omega)]
    exact h i e
  · obtain rfl : i = o.length := by simp at e hi; omega
    rw [show o.length + 1 = (o ++ [q]).length by simp, pt_last, pt_app (by simp), pt_last]
    exact h1
theorem NT.init {o : List Pt} {q : Pt} (h : NT (o ++ [q])) : NT o := fun i hi => by
  have := h i (by simp; omega)
  rwa [pt_app hi, pt_app (by omega)] at this
theorem NT.last {o : List Pt} {q p : Pt} (h : NT (o ++ [q] ++ [p])) : alike q p = false := by
  have := h o.length (by simp)
  rwa [show o.length + 1 = (o ++ [q]).length by simp, pt_last, pt_app (by simp), pt_last] at this
theorem NT.turn {o : List Pt} {q q' : Pt} (h : NT (o ++ [q])) (h1 : q'.1 = q.1) (h2 : q'.2.2 = q.2.2) : NT (o ++ [q']) := fun i hi => by
  rw [List.length_append, List.length_singleton] at hi
  have hh := h i (by simp; omega)
  by_cases e : i + 1 < o.length
  · rw [pt_app e, pt_app (by omega)] at *
    exact hh
  · have e2 : i + 1 = o.length := by omega
    rw [e2, pt_last] at hh ⊢
    rw [pt_app (show i < o.length by omega)] at hh ⊢
    unfold alike at hh ⊢
    rw [h1, h2]
    exact hh
/-- All that is held of what is merged. -/
theorem merge_facts (a b : Int) : ∀ n, ∀ l : List Pt, l.length = n → PW l →
    PW (mergeL l) ∧ NT (mergeL l) ∧ lensIn a b (mergeL l) = lensIn a b l ∧ endsP a b (mergeL l) = endsP a b l ∧ ∀ x ∈ (mergeL l), ∃ y ∈ l, ∃ z ∈ l, x.1 = y.1 ∧ x.2.1 = z.2.1 ∧ x.2.2 = y.2.2 := by
  intro n
  induction n with
  | zero =>
    intro l hl h
    rw [List.length_eq_zero_iff.1 hl]
    exact ⟨⟨List.Pairwise.nil, fun x h => by cases h⟩, fun i hi => by simp [mergeL] at hi, rfl, rfl, fun x h => by cases h⟩
  | succ n ih =>
    intro l hl h
    obtain ⟨m, p, rfl⟩ := snoc_of (l := l) (by rintro rfl; simp at hl)
    obtain ⟨p1, p2, p3⟩ := h.init
    obtain ⟨i1, i2, i3, i4, i5⟩ := ih m (by simpa using hl) p1
    rw [mergeL_snoc]
    have eL : lensIn a b (m ++ [p]) = lensIn a b m + lenIn a b p := by unfold lensIn; simp
    have eE : endsP a b (m ++ [p]) = endP a b (endsP a b m) p := by unfold endsP; simp
    have hto : ∀ x ∈ mergeL m, x.2.1 ≤ p.1 := fun x hx => by
      obtain ⟨_, _, z, hz, _, e, _⟩ := i5 x hx
      rw [e]
      exact p3 z hz
    by_cases hm : mergeL m = []
    · rw [hm] at i3 i4 ⊢
      rw [mrgS_nil, eL, eE, ← i3, ← i4]
      refine ⟨(PW.snoc (l := []) ⟨List.Pairwise.nil, fun x h => by cases h⟩ p2 (fun x h => by cases h)), fun i hi => by simp at hi, by simp [lensIn], by simp [endsP], fun x hx => ?_⟩
      rw [List.mem_singleton] at hx
      subst hx
      exact ⟨x, by simp, x, by simp, rfl, rfl, rfl⟩
    · obtain ⟨o, q, e⟩ := snoc_of hm
      rw [e] at i1 i2 i3 i4 i5 hto ⊢
      obtain ⟨q1, q2, q3⟩ := i1.init
      rw [mrgS_snoc, eL, eE, ← i3, ← i4]
      by_cases ha : alike q p = true
      · rw [if_pos ha]
        have hj := join_two (a := a) (b := b) q2 p2 ha (endsP a b o)
        have hqp : q.2.1 ≤ p.1 := hto q (by simp)
        refine ⟨q1.snoc (by simp; omega) q3, i2.turn rfl rfl, ?_, ?_, fun x hx => ?_⟩
        · unfold lensIn
          simp [hj.1]
          omega
        · unfold endsP at *
          simp [hj.2]
        · rcases List.mem_append.1 hx with hx | hx
          · obtain ⟨y, hy, z, hz, h⟩ := i5 x (by simp [hx])
            exact ⟨y, by simp [hy], z, by simp [hz], h⟩
          · rw [List.mem_singleton] at hx
            subst hx
            obtain ⟨y, hy, z, hz, h1, h2, h3⟩ := i5 q (by simp)
            exact ⟨y, by simp [hy], p, by simp, h1, rfl, h3⟩
      · rw [if_neg ha]
        refine ⟨i1.snoc p2 hto, i2.snoc (by simpa using ha), ?_, ?_, fun x hx => ?_⟩
        · unfold lensIn; simp; omega
        · unfold endsP; simp
        · rcases List.mem_append.1 hx with hx | hx
          · obtain ⟨y, hy, z, hz, h⟩ := i5 x hx
            exact ⟨y, by simp [hy], z, by simp [hz], h⟩
          · rw [List.mem_singleton] at hx
            subst hx
            exact ⟨x, by simp, x, by simp, rfl, rfl, rfl⟩
/-- Merged again the same. -/
theorem merge_again : ∀ n, ∀ m : List Pt, m.length = n → NT m → mergeL m = m := by
  intro n
  induction n with
  | zero => intro m hm _; rw [List.length_eq_zero_iff.1 hm]; rfl
  | succ n ih =>
    intro m hm h
    obtain ⟨o, p, rfl⟩ := snoc_of (l := m) (by rintro rfl; simp at hm)
    have e := ih o (by simpa using hm) h.init
    rw [mergeL_snoc, e]
    by_cases ho : o = []
    · subst ho; rfl
    · obtain ⟨r, q, rfl⟩ := snoc_of ho
      rw [mrgS_snoc, if_neg (by rw [h.last]; decide)]
theorem cnt_snoc (l : List Pt) (p : Pt) (a b : Int) : cnt (l ++ [p]) a b (l ++ [p]).length = cnt l a b l.length ++ (if meetP a b p = true then [ct a b p] else []) := by
  unfold cnt
  rw [List.take_length, List.take_length, List.filter_append, List.map_append]
  congr 1
  by_cases h : meetP a b p = true
  · rw [if_pos h]; simp [h]
  · rw [if_neg h]; simp [h]
theorem endsP_is (a b : Int) : ∀ n, ∀ l : List Pt, l.length = n → (∀ k, k < l.length → PtI (pt l k)) → endL (cnt l a b l.length) = endsP a b l := by
  intro n
  induction n with
  | zero => intro l hl _; rw [List.length_eq_zero_iff.1 hl]; rfl
  | succ n ih =>
    intro l hl hI
    obtain ⟨m, p, rfl⟩ := snoc_of (l := l) (by rintro rfl; simp at hl)
    have e := ih m (by simpa using hl) (fun k hk => by rw [← pt_app hk (p := p)]; exact hI k (by simp; omega))
    have hp : PtI p := by have := hI m.length (by simp); rwa [pt_last] at this
    rw [cnt_snoc, show endsP a b (m ++ [p]) = endP a b (endsP a b m) p by unfold endsP; simp, ← e]
    unfold endP
    by_cases h : meetP a b p = true
    · rw [if_pos h, if_pos h, endL_snoc, ct_val h hp]
      rfl
    · rw [if_neg h, if_neg h, List.append_nil]
end Go.Proofs.Ytlnfffenahjcnaa
