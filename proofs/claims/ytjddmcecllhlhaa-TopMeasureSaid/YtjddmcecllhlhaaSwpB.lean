/-
  Two sets of seconds that share none, laid in order as parts. Plain.
-/
import Derived.Test.YtjddmcecllhlhaaSwpA
namespace Go.Proofs.Ytjddmcecllhlhaa
namespace Swp
/-- Parts in order: 1 of the first list, 0 of the second one. -/
def mrg : List Sp → List Sp → List (Int × Int × Int)
  | [], [] => []
  | x :: l, [] => (x.1, x.2, 1) :: mrg l []
  | [], y :: m => (y.1, y.2, 0) :: mrg [] m
  | x :: l, y :: m => if x.1 < y.1 then (x.1, x.2, 1) :: mrg l (y :: m) else (y.1, y.2, 0) :: mrg (x :: l) m
termination_by l m => l.length + m.length
theorem mrg_left {x : Sp} {l m : List Sp} (h : ∀ y ∈ m.head?, x.1 < y.1) : mrg (x :: l) m = (x.1, x.2, 1) :: mrg l m := by
  cases m with
  | nil => rw [mrg]
  | cons y m => rw [mrg, if_pos (h y rfl)]
theorem mrg_right {y : Sp} {l m : List Sp} (h : ∀ x ∈ l.head?, ¬ x.1 < y.1) : mrg l (y :: m) = (y.1, y.2, 0) :: mrg l m := by
  cases l with
  | nil => rw [mrg]
  | cons x l => rw [mrg, if_neg (h x rfl)]
/-- No second lies in both. -/
def Apart (l m : List Sp) : Prop := ∀ t, inL l t = true → inL m t = true → False
theorem inL_mem {l : List Sp} {s : Sp} (h : s ∈ l) {t : Int} (h1 : s.1 ≤ t) (h2 : t < s.2) : inL l t = true := by
  unfold inL
  rw [List.any_eq_true]
  exact ⟨s, h, by simp [h1, h2]⟩
theorem Apart.sub {l l' m m' : List Sp} (h : Apart l m) (h1 : ∀ s ∈ l', s ∈ l) (h2 : ∀ s ∈ m', s ∈ m) : Apart l' m' := by
  intro t a b
  unfold inL at a b
  rw [List.any_eq_true] at a b
  obtain ⟨x, hx, ex⟩ := a
  obtain ⟨y, hy, ey⟩ := b
  simp at ex ey
  exact h t (inL_mem (h1 x hx) ex.1 ex.2) (inL_mem (h2 y hy) ey.1 ey.2)
/-- What is held of parts: each is right, and none begins ahead of the end of one ahead of it; they begin from a on, and end up to b. -/
structure Parts (a b : Int) (p : List (Int × Int × Int)) : Prop where
  pw : p.Pairwise fun x y => x.2.1 ≤ y.1
  ok : ∀ x ∈ p, x.1 < x.2.1 ∧ a ≤ x.1 ∧ x.2.1 ≤ b
theorem Parts.cons {a b : Int} {x : Int × Int × Int} {p : List (Int × Int × Int)} (h : Parts x.2.1 b p) (h1 : x.1 < x.2.1) (h2 : a ≤ x.1) (h3 : x.2.1 ≤ b) : Parts a b (x :: p) := by
  refine ⟨List.pairwise_cons.2 ⟨fun y hy => (h.ok y hy).2.1, h.pw⟩, fun y hy => ?_⟩
  rcases List.mem_cons.1 hy with rfl | hy
  · exact ⟨h1, h2, h3⟩
  · obtain ⟨k1, k2, k3⟩ := h.ok y hy
    exact ⟨k1, by omega, k3⟩
theorem mrg_parts : ∀ n : Nat, ∀ (l m : List Sp) (a b : Int), l.length + m.length = n → Sep l → Sep m → Apart l m → (∀ s ∈ l, a ≤ s.1 ∧ s.2 ≤ b) → (∀ s ∈ m, a ≤ s.1 ∧ s.2 ≤ b) → Parts a b (mrg l m) := by
  intro n
  induction n with
  | zero =>
    intro l m a b hn _ _ _ _ _
    obtain rfl : l = [] := List.length_eq_zero_iff.1 (by omega)
    obtain rfl : m = [] := List.length_eq_zero_iff.1 (by omega)
    rw [mrg]
    exact ⟨List.Pairwise.nil, fun x h => by cases h⟩
  | succ n ih =>
    intro l m a b hn hl hm hA bl bm
    by_cases hx : ∃ x l', l = x :: l' ∧ ∀ y ∈ m.head?, x.1 < y.1
    · obtain ⟨x, l', rfl, hh⟩ := hx
      rw [mrg_left hh]
      obtain ⟨t1, t2, t3⟩ := hl.tail
      have bx := bl x List.mem_cons_self
      refine Parts.cons (ih l' m x.2 b (by simp at hn; omega) t1 hm (hA.sub (fun s hs => List.mem_cons_of_mem _ hs) fun s hs => hs) (fun s hs => ?_) (fun s hs => ?_)) t2 bx.1 bx.2
      · have := t3 s hs
        have := bl s (List.mem_cons_of_mem _ hs)
        omega
      · refine ⟨?_, (bm s hs).2⟩
        cases m with
        | nil => cases hs
        | cons y m =>
          have h1 := hh y rfl
          have hy : x.2 ≤ y.1 := by
            apply Classical.byContradiction
            intro hc
            exact hA y.1 (inL_mem List.mem_cons_self (by omega) (by omega)) (inL_mem List.mem_cons_self (Int.le_refl _) (hm.2 y List.mem_cons_self))
          rcases List.mem_cons.1 hs with rfl | hs
          · exact hy
          · have := hm.tail.2.2 s hs
            have := hm.2 y List.mem_cons_self
            omega
    · cases m with
      | nil =>
        cases l with
        | nil => simp at hn
        | cons x l => exact absurd ⟨x, l, rfl, fun y hy => by cases hy⟩ hx
      | cons y m =>
        have hh : ∀ x ∈ l.head?, ¬ x.1 < y.1 := by
          intro x hx' hlt
          cases l with
          | nil => cases hx'
          | cons z l =>
            simp at hx'
            subst hx'
            exact hx ⟨z, l, rfl, fun w hw => by simp at hw; subst hw; exact hlt⟩
        rw [mrg_right hh]
        obtain ⟨t1, t2, t3⟩ := hm.tail
        have by_ := bm y List.mem_cons_self
        refine Parts.cons (ih l m y.2 b (by simp at hn; omega) hl t1 (hA.sub (fun s hs => hs) fun s hs => List.mem_cons_of_mem _ hs) (fun s hs => ?_) (fun s hs => ?_)) t2 by_.1 by_.2
        · refine ⟨?_, (bl s hs).2⟩
          cases l with
          | nil => cases hs
          | cons x l =>
            have h1 := hh x rfl
            have hy : y.2 ≤ x.1 := by
              apply Classical.byContradiction
              intro hc
              exact hA x.1 (inL_mem List.mem_cons_self (Int.le_refl _) (hl.2 x List.mem_cons_self)) (inL_mem List.mem_cons_self (by omega) (by omega))
            rcases List.mem_cons.1 hs with rfl | hs
            · exact hy
            · have := hl.tail.2.2 s hs
              have := hl.2 x List.mem_cons_self
              omega
        · have := t3 s hs
          have := bm s (List.mem_cons_of_mem _ hs)
          omega
/-- How long parts are; and those of value 1. -/
def lenP (p : List (Int × Int × Int)) : Int := (p.map fun x => x.2.1 - x.1).sum
def oneP (p : List (Int × Int × Int)) : Int := (p.map fun x => x.2.2 * (x.2.1 - x.1)).sum
theorem mrg_sums : ∀ n : Nat, ∀ l m : List Sp, l.length + m.length = n → lenP (mrg l m) = lenL l + lenL m ∧ oneP (mrg l m) = lenL l ∧ (mrg l m).length = n ∧ ∀ x ∈ mrg l m, x.2.2 = 0 ∨ x.2.2 = 1 := by
  intro n
  induction n with
  | zero =>
    intro l m hn
    obtain rfl : l = [] := List.length_eq_zero_iff.1 (by omega)
    obtain rfl : m = [] := List.length_eq_zero_iff.1 (by omega)
    rw [mrg]
    exact ⟨rfl, rfl, rfl, fun x h => by cases h⟩
  | succ n ih =>
    intro l m hn
    by_cases hx : ∃ x l', l = x :: l' ∧ ∀ y ∈ m.head?, x.1 < y.1
    · obtain ⟨x, l', rfl, hh⟩ := hx
      rw [mrg_left hh]
      obtain ⟨i1, i2, i3, i4⟩ := ih l' m (by simp at hn; omega)
      unfold lenP oneP at *
      rw [List.map_cons, List.map_cons, List.sum_cons, List.sum_cons, i1, i2, lenL_cons, List.length_cons, i3]
      refine ⟨by simp; omega, by simp, rfl, fun z hz => ?_⟩
      rcases List.mem_cons.1 hz with rfl | hz
      · exact .inr rfl
      · exact i4 z hz
    · cases m with
      | nil =>
        cases l with
        | nil => simp at hn
        | cons x l => exact absurd ⟨x, l, rfl, fun y hy => by cases hy⟩ hx
      | cons y m =>
        have hh : ∀ x ∈ l.head?, ¬ x.1 < y.1 := by
          intro x hx' hlt
          cases l with
          | nil => cases hx'
          | cons z l =>
            simp at hx'
            subst hx'
            exact hx ⟨z, l, rfl, fun w hw => by simp at hw; subst hw; exact hlt⟩
        rw [mrg_right hh]
        obtain ⟨i1, i2, i3, i4⟩ := ih l m (by simp at hn; omega)
        unfold lenP oneP at *
        rw [List.map_cons, List.map_cons, List.sum_cons, List.sum_cons, i1, i2, lenL_cons, List.length_cons, i3]
        refine ⟨by simp; omega, by simp, rfl, fun z hz => ?_⟩
        rcases List.mem_cons.1 hz with rfl | hz
        · exact .inl rfl
        · exact i4 z hz
/-- What a set has of a span, and what is left of the span, are as long as the span. -/
theorem lens_add {l : List Sp} {a b : Int} {R G : List Sp} (hab : a < b) (hR : Sep R) (fR : ∀ t, inL R t = wnt (fun x y => x && y) l [(a, b)] t) (hG : Sep G) (fG : ∀ t, inL G t = wnt (fun x y => x && !y) [(a, b)] l t) :
    (∀ s ∈ R, a ≤ s.1 ∧ s.2 ≤ b) ∧ (∀ s ∈ G, a ≤ s.1 ∧ s.2 ≤ b) ∧ Apart R G ∧ lenL R + lenL G = b - a := by
  have one : ∀ t, inL [(a, b)] t = (decide (a ≤ t) && decide (t < b)) := fun t => by rw [inL_cons, inL_nil, Bool.or_false]
  have eR : ∀ t, inL R t = (inL l t && (decide (a ≤ t) && decide (t < b))) := fun t => by rw [fR, wnt, one]
  have eG : ∀ t, inL G t = ((decide (a ≤ t) && decide (t < b)) && !inL l t) := fun t => by rw [fG, wnt, one]
  have bd : ∀ X : List Sp, Sep X → (∀ t, inL X t = true → a ≤ t ∧ t < b) → ∀ s ∈ X, a ≤ s.1 ∧ s.2 ≤ b := fun X hX h s hs => by
    have hlt := hX.2 s hs
    have h1 := h s.1 (inL_mem hs (Int.le_refl _) hlt)
    have h2 := h (s.2 - 1) (inL_mem hs (by omega) (by omega))
    omega
  have bR := bd R hR (fun t h => by rw [eR] at h; simp at h; exact h.2)
  have bG := bd G hG (fun t h => by rw [eG] at h; simp at h; exact h.1)
  refine ⟨bR, bG, fun t h1 h2 => ?_, ?_⟩
  · rw [eR] at h1
    rw [eG] at h2
    simp at h1 h2
    rw [h1.1] at h2
    cases h2.2
  · have hn : a + ((b - a).toNat : Int) = b := by omega
    have c1 := cntF_sep hR (a := a) (n := (b - a).toNat) (by rw [hn]; exact bR)
    have c2 := cntF_sep hG (a := a) (n := (b - a).toNat) (by rw [hn]; exact bG)
    have c3 := cntF_add (f := inL R) (g := inL G) (a := a) (n := (b - a).toNat) (fun k _ => by rw [eR, eG]; cases inL l (a + k) <;> simp)
    have c4 := cntF_all (f := fun t => inL R t || inL G t) (a := a) (n := (b - a).toNat) (fun k hk => by
      show (inL R (a + k) || inL G (a + k)) = true
      rw [eR, eG, decide_eq_true (show a ≤ a + (k : Int) by omega), decide_eq_true (show a + (k : Int) < b by omega)]
      cases inL l (a + k) <;> rfl)
    omega
/-- The set of a set is as long. -/
theorem lens_of {R G : List Sp} {a b : Int} (hab : a ≤ b) (hR : Sep R) (bR : ∀ s ∈ R, a ≤ s.1 ∧ s.2 ≤ b) (hG : Sep G) (fG : ∀ t, inL G t = inL R t) : lenL G = lenL R ∧ ∀ s ∈ G, a ≤ s.1 ∧ s.2 ≤ b := by
  have bG : ∀ s ∈ G, a ≤ s.1 ∧ s.2 ≤ b := fun s hs => by
    have hlt := hG.2 s hs
    have k : ∀ t, inL R t = true → a ≤ t ∧ t < b := fun t h => by
      unfold inL at h
      rw [List.any_eq_true] at h
      obtain ⟨x, hx, ex⟩ := h
      have := bR x hx
      simp at ex
      omega
    have h1 := k s.1 (by rw [← fG]; exact inL_mem hs (Int.le_refl _) hlt)
    have h2 := k (s.2 - 1) (by rw [← fG]; exact inL_mem hs (by omega) (by omega))
    omega
  have hn : a + ((b - a).toNat : Int) = b := by omega
  have c1 := cntF_sep hR (a := a) (n := (b - a).toNat) (by rw [hn]; exact bR)
  have c2 := cntF_sep hG (a := a) (n := (b - a).toNat) (by rw [hn]; exact bG)
  have c3 := cntF_congr (f := inL G) (g := inL R) (a := a) (n := (b - a).toNat) (fun k _ => fG _)
  exact ⟨by omega, bG⟩
end Swp
end Go.Proofs.Ytjddmcecllhlhaa
