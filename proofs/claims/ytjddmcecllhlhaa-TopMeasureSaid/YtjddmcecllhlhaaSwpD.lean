/-
  The mean of the parts of a set and of its gaps: plain.
-/
import Derived.Test.YtjddmcecllhlhaaSwpB
import Derived.Test.YtjddmcecllhlhaaSwpC
import Derived.Test.YtjddmcecllhlhaaMenD
namespace Go.Proofs.Ytjddmcecllhlhaa
open Go.RowKit Flo Swp
/-- Of (0, 3) and (3, 5) the set is one span. -/
theorem one_set {G : List (Int × Int)} (hG : Sep G) (f : ∀ t, inL G t = inL [(0, 3), (3, 5)] t) : G.length = 1 := by
  have e : ∀ t, inL G t = (decide (0 ≤ t) && decide (t < 5)) := fun t => by
    rw [f, inL_cons, inL_cons, inL_nil]
    by_cases h1 : 0 ≤ t <;> by_cases h2 : t < 3 <;> by_cases h3 : 3 ≤ t <;> by_cases h4 : t < 5 <;> simp [h1, h2, h3, h4] <;> omega
  cases G with
  | nil =>
    have := e 0
    rw [inL_nil] at this
    simp at this
  | cons s R =>
    obtain ⟨t1, t2, t3⟩ := hG.tail
    cases R with
    | nil => rfl
    | cons u R =>
      have h1 := inL_mem (l := s :: u :: R) (s := s) List.mem_cons_self (Int.le_refl _) t2
      have hu := hG.2 u (List.mem_cons_of_mem _ List.mem_cons_self)
      have h2 := inL_mem (l := s :: u :: R) (s := u) (List.mem_cons_of_mem _ List.mem_cons_self) (Int.le_refl _) hu
      have h3 := t3 u List.mem_cons_self
      have h4 : inL (s :: u :: R) s.2 = false := by
        rw [inL_cons, decide_eq_false (show ¬ s.2 < s.2 by omega), Bool.and_false, Bool.false_or]
        unfold inL
        rw [List.any_eq_false]
        intro x hx
        have := t3 x hx
        simp
        omega
      rw [e] at h1 h2 h4
      simp at h1 h2 h4
      omega
/-- Parts that lie in a span are right, and count whole. -/
theorem parts_right {a b : Int} {p : List Pt} (h : Parts a b p) : rightL p = true := rightL_y fun k hk => by
  unfold goodAt
  have h1 := h.ok (pt p k) (by rw [pt_get hk]; exact List.getElem_mem hk)
  rw [decide_eq_true h1.1, Bool.true_and]
  by_cases h0 : k = 0
  · rw [decide_eq_true h0]; rfl
  · have := (List.pairwise_iff_getElem.1 h.pw) (k - 1) k (by omega) hk (by omega)
    rw [pt_get (k := k - 1) (by omega), pt_get hk, decide_eq_true this, Bool.or_true]
theorem parts_cnt {a b : Int} {p : List Pt} (ha : I64 a) (hb : I64 b) (hv : ∀ x ∈ p, x.2.2 = 0 ∨ x.2.2 = 1) (hab : a < b) (h : ∀ x ∈ p, x.1 < x.2.1 ∧ a ≤ x.1 ∧ x.2.1 ≤ b) :
    (cnt p a b p.length).map (fun x => x.1) = p.map fun x => (x.2.1 - x.1, x.2.2) := by
  unfold cnt
  rw [List.take_length]
  induction p with
  | nil => rfl
  | cons x p ih =>
    obtain ⟨h1, h2, h3⟩ := h x List.mem_cons_self
    have hm : meetP a b x = true := by
      unfold meetP meetB
      exact decide_eq_true ⟨h1, hab, by omega⟩
    have hi : PtI x := by
      have := hv x List.mem_cons_self
      unfold PtI I64 at *
      omega
    rw [List.filter_cons, hm]
    simp only [if_true, List.map_cons]
    rw [ih (fun y hy => hv y (List.mem_cons_of_mem _ hy)) (fun y hy => h y (List.mem_cons_of_mem _ hy)), ct_val hm hi]
    congr 1
    unfold ctRaw bothT bothF
    rw [show meetB x.1 x.2.1 a b = true from hm]
    simp only [if_true]
    rw [show min x.2.1 b = x.2.1 by omega, show max x.1 a = x.1 by omega]
theorem sum_nats {L : List Int} (h0 : L ≠ []) (h : ∀ y ∈ L, 0 ≤ y) (hs : L.sum ≤ 9007199254740992) : sumX (L.map (Go.floatOfInt .f64)) = some (Go.floatOfInt .f64 L.sum) := by
  obtain ⟨x, l, rfl⟩ : ∃ x l, L = x :: l := by
    cases L with
    | nil => exact absurd rfl h0
    | cons x l => exact ⟨x, l, rfl⟩
  have hl : ∀ l : List Int, (∀ x ∈ l, 0 ≤ x) → 0 ≤ l.sum := fun l => by
    induction l with
    | nil => intro _; decide
    | cons y l ih => intro h; rw [List.sum_cons]; have := h y List.mem_cons_self; have := ih (fun z hz => h z (List.mem_cons_of_mem _ hz)); omega
  rw [List.map_cons]
  show (l.map (Go.floatOfInt .f64)).foldl (fun s y => fop .add s (nz y)) (nz (Go.floatOfInt .f64 x)) = _
  rw [nz_some (int_rnd x).nan]
  rw [List.sum_cons] at *
  exact foldl_nats l x (h x List.mem_cons_self) (fun y hy => h y (List.mem_cons_of_mem _ hy)) hs
/-- The mean: the share. -/
theorem mean_parts {a b : Int} {p : List Pt} (ha : I64 a) (hb : I64 b) (hab : a < b) (hn : b - a ≤ 1125899906842624) (h : Parts a b p) (hv : ∀ x ∈ p, x.2.2 = 0 ∨ x.2.2 = 1) (hl : lenP p = b - a) :
    meanX p a b = Go.floatBits .quo .f64 (Go.floatOfInt .f64 (oneP p)) (Go.floatOfInt .f64 (b - a)) ∧ 0 ≤ oneP p ∧ oneP p ≤ b - a := by
  have hc := parts_cnt ha hb hv hab h.ok
  have hsum : 0 ≤ oneP p ∧ oneP p ≤ lenP p := by
    have : ∀ p : List Pt, (∀ x ∈ p, x.2.2 = 0 ∨ x.2.2 = 1) → (∀ x ∈ p, x.1 < x.2.1 ∧ a ≤ x.1 ∧ x.2.1 ≤ b) → 0 ≤ oneP p ∧ oneP p ≤ lenP p := fun p => by
      induction p with
      | nil => intro _ _; exact ⟨Int.le_refl _, Int.le_refl _⟩
      | cons x p ih =>
        intro h1 h2
        obtain ⟨i1, i2⟩ := ih (fun y hy => h1 y (List.mem_cons_of_mem _ hy)) (fun y hy => h2 y (List.mem_cons_of_mem _ hy))
        unfold oneP lenP at *
        rw [List.map_cons, List.map_cons, List.sum_cons, List.sum_cons]
        have := h2 x List.mem_cons_self
        rcases h1 x List.mem_cons_self with e | e <;> rw [e] <;> omega
    exact this p hv h.ok
  have hle : ∀ x ∈ p, 0 ≤ x.2.1 - x.1 ∧ x.2.1 - x.1 ≤ 1125899906842624 := fun x hx => by have := h.ok x hx; omega
  have et : tms p a b = (p.map fun x => x.2.1 - x.1).map (Go.floatOfInt .f64) := by
    unfold tms
    have : (cnt p a b p.length).map tmv = ((cnt p a b p.length).map fun x => x.1).map fun y => Go.floatOfInt .f64 y.1 := by rw [List.map_map]; rfl
    rw [this, hc, List.map_map, List.map_map]
    rfl
  have ev : vls p a b = (p.map fun x => x.2.2 * (x.2.1 - x.1)).map (Go.floatOfInt .f64) := by
    unfold vls
    have : (cnt p a b p.length).map vlv = ((cnt p a b p.length).map fun x => x.1).map fun y => (Go.floatBits .mul .f64 (Go.floatOfInt .f64 y.2) (Go.floatOfInt .f64 y.1)).getD 0 := by rw [List.map_map]; rfl
    rw [this, hc, List.map_map, List.map_map]
    apply List.map_congr_left
    intro x hx
    simp only [Function.comp]
    rw [nat_mul (hv x hx) (hle x hx).1 (by have := (hle x hx).2; omega)]
    rfl
  refine ⟨?_, by omega⟩
  unfold meanX
  rw [if_pos (parts_right h), et, ev]
  cases p with
  | nil =>
    unfold lenP at hl
    simp at hl
    omega
  | cons x p =>
    have s1 := sum_nats (L := (x :: p).map fun x : Pt => x.2.1 - x.1) (by simp) (fun y hy => by
      obtain ⟨z, hz, rfl⟩ := List.mem_map.1 hy
      exact (hle z hz).1) (by show lenP (x :: p) ≤ _; omega)
    have s2 := sum_nats (L := (x :: p).map fun x : Pt => x.2.2 * (x.2.1 - x.1)) (by simp) (fun y hy => by
      obtain ⟨z, hz, rfl⟩ := List.mem_map.1 hy
      have := (hle z hz).1
      rcases hv z hz with e | e <;> simp only [e] <;> omega) (by show oneP (x :: p) ≤ _; omega)
    rw [s1, s2]
    show fop .quo (some (Go.floatOfInt .f64 (oneP (x :: p)))) (some (Go.floatOfInt .f64 (lenP (x :: p)))) = _
    rw [hl]
    rfl
end Go.Proofs.Ytjddmcecllhlhaa
