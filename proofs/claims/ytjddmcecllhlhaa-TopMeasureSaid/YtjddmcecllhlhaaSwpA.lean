/-
  Spans as sets of seconds: edges in order, and what a sweep over them covers. Plain.
-/
import Derived.Lib.Hide
namespace Go.Proofs.Ytjddmcecllhlhaa
namespace Swp
abbrev Sp := Int × Int
abbrev Ed := Int × Int × Int
def inL (l : List Sp) (t : Int) : Bool := l.any fun s => decide (s.1 ≤ t) && decide (t < s.2)
theorem inL_nil (t : Int) : inL [] t = false := rfl
theorem inL_cons (s : Sp) (l : List Sp) (t : Int) : inL (s :: l) t = ((decide (s.1 ≤ t) && decide (t < s.2)) || inL l t) := rfl
theorem inL_append (l m : List Sp) (t : Int) : inL (l ++ m) t = (inL l t || inL m t) := by unfold inL; rw [List.any_append]
theorem inL_off {l : List Sp} {t : Int} (h : ∀ s ∈ l, s.2 ≤ t) : inL l t = false := by
  unfold inL
  rw [List.any_eq_false]
  intro s hs
  have := h s hs
  simp
  intro _
  omega
def Sep (R : List Sp) : Prop := R.Pairwise (fun s u => s.2 < u.1) ∧ ∀ s ∈ R, s.1 < s.2
theorem Sep.nil : Sep [] := ⟨List.Pairwise.nil, fun s h => by cases h⟩
theorem Sep.tail {s : Sp} {R : List Sp} (h : Sep (s :: R)) : Sep R ∧ s.1 < s.2 ∧ ∀ u ∈ R, s.2 < u.1 :=
  ⟨⟨(List.pairwise_cons.1 h.1).2, fun u hu => h.2 u (List.mem_cons_of_mem _ hu)⟩, h.2 s List.mem_cons_self, (List.pairwise_cons.1 h.1).1⟩
theorem Sep.snoc {C : List Sp} {x y : Int} (h : Sep C) (h1 : ∀ s ∈ C, s.2 < x) (h2 : x < y) : Sep (C ++ [(x, y)]) := by
  refine ⟨List.pairwise_append.2 ⟨h.1, List.pairwise_singleton _ _, fun s hs u hu => ?_⟩, fun s hs => ?_⟩
  · rw [List.mem_singleton] at hu
    subst hu
    exact h1 s hs
  · rcases List.mem_append.1 hs with h' | h'
    · exact h.2 s h'
    · rw [List.mem_singleton] at h'
      subst h'
      exact h2

/-- What is held behind i edges: f the seconds that are wanted; op: the last span is open. -/
structure OutInv (e : List Ed) (f : Int → Bool) (i : Nat) (op : Bool) (R : List Sp) : Prop where
  no : op = false → Sep R ∧ (∀ s ∈ R, ∃ y ∈ e.take i, s.2 ≤ y.1) ∧ ∀ t, (∀ x ∈ e.drop i, t < x.1) → inL R t = f t
  yes : op = true → ∃ C x, R = C ++ [(x, 0)] ∧ Sep C ∧ (∀ s ∈ C, s.2 < x) ∧ (∃ y ∈ e.take i, x ≤ y.1) ∧ ∀ t, (∀ x ∈ e.drop i, t < x.1) → (inL C t || decide (x ≤ t)) = f t
/-- A group of edges at one second: from i to j. -/
structure Grp (e : List Ed) (i j : Nat) (at_ : Int) : Prop where
  lt : i < j
  le : j ≤ e.length
  old : ∀ x ∈ e.take i, x.1 < at_
  all : ∀ k, i ≤ k → k < j → ∀ x, e[k]? = some x → x.1 = at_
  new : ∀ x ∈ e.drop j, at_ < x.1
theorem Grp.drop {e : List Ed} {i j : Nat} {a : Int} (g : Grp e i j a) {t : Int} (h : t < a) : ∀ x ∈ e.drop i, t < x.1 := by
  intro x hx
  obtain ⟨k, hx⟩ := List.mem_iff_getElem?.1 hx
  rw [List.getElem?_drop] at hx
  by_cases h1 : i + k < j
  · rw [g.all (i + k) (by omega) h1 x hx]
    exact h
  · have : x ∈ e.drop j := by
      refine List.mem_iff_getElem?.2 ⟨i + k - j, ?_⟩
      rw [List.getElem?_drop, show j + (i + k - j) = i + k by omega]
      exact hx
    have := g.new x this
    omega
theorem Grp.mem {e : List Ed} {i j : Nat} {a : Int} (g : Grp e i j a) : ∃ y ∈ e.take j, a ≤ y.1 := by
  have hl : i < e.length := Nat.lt_of_lt_of_le g.lt g.le
  refine ⟨e[i], ?_, ?_⟩
  · refine List.mem_iff_getElem?.2 ⟨i, ?_⟩
    rw [List.getElem?_take, if_pos g.lt, List.getElem?_eq_getElem hl]
  · rw [g.all i (Nat.le_refl _) g.lt e[i] (List.getElem?_eq_getElem hl)]
    omega
theorem take_mono {e : List Ed} {i j : Nat} (h : i ≤ j) {y : Ed} (hy : y ∈ e.take i) : y ∈ e.take j := by
  obtain ⟨k, hk⟩ := List.mem_iff_getElem?.1 hy
  rw [List.getElem?_take] at hk
  split at hk
  · refine List.mem_iff_getElem?.2 ⟨k, ?_⟩
    rw [List.getElem?_take, if_pos (by omega)]
    exact hk
  · cases hk
/-- A span begins. -/
theorem OutInv.open_ {e : List Ed} {f : Int → Bool} {i j : Nat} {a : Int} {R : List Sp} (h : OutInv e f i false R) (g : Grp e i j a) (hf : ∀ t, a ≤ t → (∀ x ∈ e.drop j, t < x.1) → f t = true) : OutInv e f j true (R ++ [(a, 0)]) := by
  obtain ⟨h1, h2, h3⟩ := h.no rfl
  refine ⟨(fun h => by cases h), fun _ => ⟨R, a, rfl, h1, fun s hs => ?_, g.mem, fun t ht => ?_⟩⟩
  · obtain ⟨y, hy, hle⟩ := h2 s hs
    have := g.old y hy
    omega
  · by_cases hta : a ≤ t
    · rw [decide_eq_true hta, Bool.or_true, hf t hta ht]
    · rw [decide_eq_false hta, Bool.or_false, h3 t (g.drop (by omega))]
theorem OutInv.close {e : List Ed} {f : Int → Bool} {i j : Nat} {a : Int} {R : List Sp} (h : OutInv e f i true R) (g : Grp e i j a) (hf : ∀ t, a ≤ t → (∀ x ∈ e.drop j, t < x.1) → f t = false) :
    ∃ C x, R = C ++ [(x, 0)] ∧ OutInv e f j false (C ++ [(x, a)]) := by
  obtain ⟨C, x, rfl, h1, h2, ⟨y, hy, hxy⟩, h3⟩ := h.yes rfl
  have hya := g.old y hy
  refine ⟨C, x, rfl, fun _ => ⟨h1.snoc h2 (by omega), fun s hs => ?_, fun t ht => ?_⟩, fun h => by cases h⟩
  · obtain ⟨z, hz, hza⟩ := g.mem
    refine ⟨z, hz, ?_⟩
    rcases List.mem_append.1 hs with h' | h'
    · have := h2 s h'
      omega
    · rw [List.mem_singleton] at h'
      subst h'
      exact hza
  · rw [inL_append]
    by_cases hta : a ≤ t
    · rw [hf t hta ht, inL_off (fun s hs => by have := h2 s hs; omega), inL_cons, inL_nil, decide_eq_false (show ¬ t < a by omega), Bool.and_false]
      rfl
    · rw [← h3 t (g.drop (by omega)), inL_cons, inL_nil, decide_eq_true (show t < a by omega), Bool.and_true, Bool.or_false]
theorem OutInv.keep {e : List Ed} {f : Int → Bool} {i j : Nat} {a : Int} {R : List Sp} {op : Bool} (h : OutInv e f i op R) (g : Grp e i j a) (hf : ∀ t, a ≤ t → (∀ x ∈ e.drop j, t < x.1) → f t = op) : OutInv e f j op R := by
  have hij := Nat.le_of_lt g.lt
  refine ⟨fun ho => ?_, fun ho => ?_⟩
  · subst ho
    obtain ⟨h1, h2, h3⟩ := h.no rfl
    refine ⟨h1, fun s hs => ?_, fun t ht => ?_⟩
    · obtain ⟨y, hy, hle⟩ := h2 s hs
      exact ⟨y, take_mono hij hy, hle⟩
    · by_cases hta : a ≤ t
      · rw [hf t hta ht]
        exact inL_off fun s hs => by
          obtain ⟨y, hy, hle⟩ := h2 s hs
          have := g.old y hy
          omega
      · exact h3 t (g.drop (by omega))
  · subst ho
    obtain ⟨C, x, rfl, h1, h2, ⟨y, hy, hxy⟩, h3⟩ := h.yes rfl
    refine ⟨C, x, rfl, h1, h2, ⟨y, take_mono hij hy, hxy⟩, fun t ht => ?_⟩
    by_cases hta : a ≤ t
    · have := g.old y hy
      rw [hf t hta ht, decide_eq_true (show x ≤ t by omega), Bool.or_true]
    · exact h3 t (g.drop (by omega))
theorem OutInv.start {e : List Ed} {f : Int → Bool} (h : ∀ t, (∀ x ∈ e, t < x.1) → f t = false) : OutInv e f 0 false [] :=
  ⟨fun _ => ⟨Sep.nil, (fun s hs => by cases hs), (fun t ht => by rw [h t (by simpa using ht)]; rfl)⟩, (fun h => by cases h)⟩
theorem OutInv.done {e : List Ed} {f : Int → Bool} {R : List Sp} (h : OutInv e f e.length false R) : Sep R ∧ ∀ t, inL R t = f t := by
  obtain ⟨h1, _, h3⟩ := h.no rfl
  exact ⟨h1, fun t => h3 t (by simp)⟩

/-- How deep a second lies. -/
def dp (e : List Ed) (k t : Int) : Int := (e.map fun x => if x.1 ≤ t ∧ x.2.2 = k then x.2.1 else 0).sum
def dpE (e : List Ed) (k : Int) (i : Nat) : Int := ((e.take i).map fun x => if x.2.2 = k then x.2.1 else 0).sum
theorem dp_at {e : List Ed} {i : Nat} {k t : Int} (h1 : ∀ x ∈ e.take i, x.1 ≤ t) (h2 : ∀ x ∈ e.drop i, t < x.1) : dp e k t = dpE e k i := by
  unfold dp dpE
  have e0 : e = e.take i ++ e.drop i := (List.take_append_drop i e).symm
  conv => lhs; rw [e0]
  rw [List.map_append, List.sum_append]
  have a : (e.take i).map (fun x : Ed => if x.1 ≤ t ∧ x.2.2 = k then x.2.1 else 0) = (e.take i).map fun x => if x.2.2 = k then x.2.1 else 0 := List.map_congr_left fun x hx => by
    by_cases hk : x.2.2 = k
    · rw [if_pos ⟨h1 x hx, hk⟩, if_pos hk]
    · rw [if_neg (fun h => hk h.2), if_neg hk]
  have b : ((e.drop i).map (fun x : Ed => if x.1 ≤ t ∧ x.2.2 = k then x.2.1 else 0)).sum = 0 := by
    have : ∀ l : List Ed, (∀ x ∈ l, t < x.1) → (l.map (fun x : Ed => if x.1 ≤ t ∧ x.2.2 = k then x.2.1 else 0)).sum = 0 := by
      intro l
      induction l with
      | nil => intro _; rfl
      | cons x l ih =>
        intro h
        rw [List.map_cons, List.sum_cons, ih (fun y hy => h y (List.mem_cons_of_mem _ hy)), if_neg (fun hh => by have := h x List.mem_cons_self; omega)]
        rfl
    exact this _ h2
  rw [a, b, Int.add_zero]
theorem dp_perm {e e' : List Ed} (h : e.Perm e') (k t : Int) : dp e k t = dp e' k t := by
  unfold dp
  have hp := h.map fun x : Ed => if x.1 ≤ t ∧ x.2.2 = k then x.2.1 else 0
  generalize e.map (fun x : Ed => if x.1 ≤ t ∧ x.2.2 = k then x.2.1 else 0) = l at *
  generalize e'.map (fun x : Ed => if x.1 ≤ t ∧ x.2.2 = k then x.2.1 else 0) = l' at *
  clear h
  induction hp with
  | nil => rfl
  | cons x _ ih => rw [List.sum_cons, List.sum_cons, ih]
  | swap x y l => simp only [List.sum_cons]; omega
  | trans _ _ ih1 ih2 => rw [ih1, ih2]
def edg (k : Int) (l : List Sp) : List Ed := l.flatMap fun s => if s.1 < s.2 then [(s.1, 1, k), (s.2, -1, k)] else []
theorem edg_cons (k : Int) (s : Sp) (l : List Sp) : edg k (s :: l) = (if s.1 < s.2 then [(s.1, 1, k), (s.2, -1, k)] else []) ++ edg k l := by unfold edg; rw [List.flatMap_cons]
theorem dp_append (e e' : List Ed) (k t : Int) : dp (e ++ e') k t = dp e k t + dp e' k t := by unfold dp; rw [List.map_append, List.sum_append]
theorem dp_edg_other {k k' : Int} (h : k' ≠ k) (l : List Sp) (t : Int) : dp (edg k' l) k t = 0 := by
  induction l with
  | nil => rfl
  | cons s l ih =>
    rw [edg_cons, dp_append, ih]
    by_cases hs : s.1 < s.2
    · rw [if_pos hs]
      simp [dp, h]
    · rw [if_neg hs]
      rfl
theorem dp_edg (k : Int) (l : List Sp) (t : Int) : 0 ≤ dp (edg k l) k t ∧ (decide (0 < dp (edg k l) k t) = inL l t) := by
  induction l with
  | nil => exact ⟨Int.le_refl _, rfl⟩
  | cons s l ih =>
    obtain ⟨i1, i2⟩ := ih
    rw [edg_cons, dp_append, inL_cons, ← i2]
    generalize dp (edg k l) k t = X at *
    by_cases hs : s.1 < s.2
    · rw [if_pos hs]
      have e1 : dp [(s.1, 1, k), (s.2, -1, k)] k t = if s.1 ≤ t ∧ t < s.2 then 1 else 0 := by
        unfold dp
        by_cases h1 : s.1 ≤ t <;> by_cases h2 : s.2 ≤ t <;> simp [h1, h2] <;> omega
      rw [e1]
      by_cases h : s.1 ≤ t ∧ t < s.2
      · rw [if_pos h, decide_eq_true h.1, decide_eq_true h.2, decide_eq_true (show 0 < 1 + X by omega)]
        exact ⟨by omega, rfl⟩
      · rw [if_neg h]
        have : (decide (s.1 ≤ t) && decide (t < s.2)) = false := by simpa using h
        rw [this, Int.zero_add, Bool.false_or]
        exact ⟨i1, rfl⟩
    · rw [if_neg hs]
      have : (decide (s.1 ≤ t) && decide (t < s.2)) = false := by simp; omega
      rw [this, show dp [] k t = 0 from rfl, Int.zero_add, Bool.false_or]
      exact ⟨i1, rfl⟩
theorem edg_len (k : Int) (l : List Sp) : (edg k l).length ≤ 2 * l.length := by
  induction l with
  | nil => exact Nat.le_refl _
  | cons s l ih =>
    rw [edg_cons, List.length_append, List.length_cons]
    split <;> simp <;> omega
/-- The seconds that are wanted of two lists. -/
def wnt (keep : Bool → Bool → Bool) (a b : List Sp) (t : Int) : Bool := keep (inL a t) (inL b t)
theorem wnt_dp {keep : Bool → Bool → Bool} {a b : List Sp} {e : List Ed} (h : e.Perm (edg 0 a ++ edg 1 b)) (t : Int) : keep (decide (0 < dp e 0 t)) (decide (0 < dp e 1 t)) = wnt keep a b t := by
  unfold wnt
  rw [dp_perm h, dp_perm h, dp_append, dp_append, dp_edg_other (k := 0) (k' := 1) (by decide), dp_edg_other (k := 1) (k' := 0) (by decide), Int.add_zero, Int.zero_add, (dp_edg 0 a t).2, (dp_edg 1 b t).2]
/-- Behind all edges nothing is deep. -/
theorem dpE_all {a b : List Sp} {e : List Ed} (h : e.Perm (edg 0 a ++ edg 1 b)) : dpE e 0 e.length = 0 ∧ dpE e 1 e.length = 0 := by
  have hb : ∃ t : Int, (∀ x ∈ e, x.1 ≤ t) ∧ (∀ s ∈ a, s.2 ≤ t) ∧ ∀ s ∈ b, s.2 ≤ t := by
    have m : ∀ l : List Int, ∃ t : Int, ∀ x ∈ l, x ≤ t := fun l => by
      induction l with
      | nil => exact ⟨0, fun x h => by cases h⟩
      | cons x l ih =>
        obtain ⟨t, ht⟩ := ih
        refine ⟨max x t, fun y hy => ?_⟩
        rcases List.mem_cons.1 hy with rfl | hy
        · omega
        · have := ht y hy
          omega
    obtain ⟨t, ht⟩ := m (e.map (·.1) ++ (a.map (·.2) ++ b.map (·.2)))
    refine ⟨t, fun x hx => ht _ ?_, fun s hs => ht _ ?_, fun s hs => ht _ ?_⟩
    · exact List.mem_append.2 (.inl (List.mem_map.2 ⟨x, hx, rfl⟩))
    · exact List.mem_append.2 (.inr (List.mem_append.2 (.inl (List.mem_map.2 ⟨s, hs, rfl⟩))))
    · exact List.mem_append.2 (.inr (List.mem_append.2 (.inr (List.mem_map.2 ⟨s, hs, rfl⟩))))
  obtain ⟨t, h1, h2, h3⟩ := hb
  have z : ∀ k, dp e k t = dpE e k e.length := fun k => dp_at (by simpa using h1) (by simp)
  have q0 := dp_edg 0 a t
  have q1 := dp_edg 1 b t
  rw [inL_off h2] at q0
  rw [inL_off h3] at q1
  rw [← z, ← z, dp_perm h, dp_perm h, dp_append, dp_append, dp_edg_other (k := 0) (k' := 1) (by decide), dp_edg_other (k := 1) (k' := 0) (by decide)]
  simp only [decide_eq_false_iff_not] at q0 q1
  omega

/-- How many of n seconds. -/
def cntF (f : Int → Bool) (a : Int) : Nat → Nat
  | 0 => 0
  | n + 1 => cntF f a n + if f (a + n) = true then 1 else 0
theorem cntF_congr {f g : Int → Bool} {a : Int} {n : Nat} (h : ∀ k : Nat, k < n → f (a + k) = g (a + k)) : cntF f a n = cntF g a n := by
  induction n with
  | zero => rfl
  | succ n ih => unfold cntF; rw [ih (fun k hk => h k (by omega)), h n (by omega)]
theorem cntF_add {f g : Int → Bool} {a : Int} {n : Nat} (h : ∀ k : Nat, k < n → (f (a + k) && g (a + k)) = false) : cntF (fun t => f t || g t) a n = cntF f a n + cntF g a n := by
  induction n with
  | zero => rfl
  | succ n ih =>
    unfold cntF
    rw [ih (fun k hk => h k (by omega))]
    have := h n (by omega)
    revert this
    cases f (a + n) <;> cases g (a + n) <;> simp <;> omega
theorem cntF_all {f : Int → Bool} {a : Int} {n : Nat} (h : ∀ k : Nat, k < n → f (a + k) = true) : cntF f a n = n := by
  induction n with
  | zero => rfl
  | succ n ih => unfold cntF; rw [ih (fun k hk => h k (by omega)), h n (by omega)]; rfl
theorem cntF_none {f : Int → Bool} {a : Int} {n : Nat} (h : ∀ k : Nat, k < n → f (a + k) = false) : cntF f a n = 0 := by
  induction n with
  | zero => rfl
  | succ n ih => unfold cntF; rw [ih (fun k hk => h k (by omega)), h n (by omega)]; rfl
theorem cntF_one {a x y : Int} {n : Nat} (h0 : a ≤ x) (h1 : x ≤ y) (h2 : y ≤ a + n) : (cntF (fun t => decide (x ≤ t) && decide (t < y)) a n : Int) = y - x := by
  induction n generalizing y with
  | zero => simp [cntF]; omega
  | succ n ih =>
    unfold cntF
    by_cases hy : y ≤ a + n
    · rw [decide_eq_false (show ¬ (a + (n : Int)) < y by omega), Bool.and_false]
      simp only [Bool.false_eq_true, if_false, Nat.add_zero]
      exact ih h1 hy
    · by_cases hx : x ≤ a + n
      · rw [decide_eq_true hx, decide_eq_true (show (a + (n : Int)) < y by omega)]
        have e : cntF (fun t => decide (x ≤ t) && decide (t < y)) a n = cntF (fun t => decide (x ≤ t) && decide (t < a + n)) a n := cntF_congr fun k hk => by
          rw [decide_eq_true (show a + (k : Int) < y by omega), decide_eq_true (show a + (k : Int) < a + n by omega)]
        rw [e]
        have := ih (y := a + n) hx (by omega)
        simp
        omega
      · rw [decide_eq_false hx]
        have e : cntF (fun t => decide (x ≤ t) && decide (t < y)) a n = 0 := cntF_none fun k hk => by
          rw [decide_eq_false (show ¬ x ≤ a + (k : Int) by omega)]
          rfl
        rw [e]
        simp
        omega
def lenL (R : List Sp) : Int := (R.map fun s => s.2 - s.1).sum
theorem lenL_cons (s : Sp) (R : List Sp) : lenL (s :: R) = (s.2 - s.1) + lenL R := by unfold lenL; rw [List.map_cons, List.sum_cons]
theorem cntF_sep {R : List Sp} (h : Sep R) {a : Int} {n : Nat} (hb : ∀ s ∈ R, a ≤ s.1 ∧ s.2 ≤ a + n) : (cntF (inL R) a n : Int) = lenL R := by
  induction R with
  | nil => rw [cntF_none (fun k _ => rfl)]; rfl
  | cons s R ih =>
    obtain ⟨h1, h2, h3⟩ := h.tail
    have e : cntF (inL (s :: R)) a n = cntF (fun t => decide (s.1 ≤ t) && decide (t < s.2)) a n + cntF (inL R) a n := by
      rw [← cntF_add]
      · exact cntF_congr fun k _ => inL_cons _ _ _
      · intro k _
        by_cases hk : a + (k : Int) < s.2
        · have : inL R (a + k) = false := by
            unfold inL
            rw [List.any_eq_false]
            intro u hu
            have := h3 u hu
            simp
            omega
          rw [this, Bool.and_false]
        · rw [decide_eq_false hk, Bool.and_false, Bool.false_and]
    obtain ⟨b1, b2⟩ := hb s List.mem_cons_self
    rw [e, lenL_cons, ← ih h1 (fun u hu => hb u (List.mem_cons_of_mem _ hu)), ← cntF_one b1 (by omega) b2]
    omega
end Swp
end Go.Proofs.Ytjddmcecllhlhaa
