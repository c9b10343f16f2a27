/-
  Means lie between the ends; totals of what is merged are near each other. Plain.
-/
import Derived.Test.YtlnfffenahjcnaaMenP
import Derived.Test.YtlnfffenahjcnaaMenD
namespace Go.Proofs.Ytlnfffenahjcnaa
open Go.RowKit Flo

theorem sumX_snoc {l : List Nat} (h : l ≠ []) (y : Nat) : sumX (l ++ [y]) = fop .add (sumX l) (nz y) := by
  cases l with
  | nil => exact absurd rfl h
  | cons x l => exact sumF_snoc (nz x) l y
theorem int_mono {a b : Int} (h : a ≤ b) : val (Go.floatOfInt .f64 a) ≤ val (Go.floatOfInt .f64 b) :=
  (int_rnd a).mono (int_rnd b) (by have := Int.mul_le_mul_of_nonneg_right h (show (0 : Int) ≤ U by omega); omega)
theorem vlv_nz (x : Ct) : nz (vlv x) = some (vlv x) := nz_some (bits_word (vlv_run x)).1
theorem tmv_nz (x : Ct) : nz (tmv x) = some (tmv x) := nz_some (int_rnd _).nan
theorem mean_sums {M h l : Int} (b : MBd M h l) : ∀ k, ∀ c : List Ct, c.length = k + 1 → k ≤ 100 → (∀ x ∈ c, l ≤ val (Go.floatOfInt .f64 x.1.2) ∧ val (Go.floatOfInt .f64 x.1.2) ≤ h) →
    ∃ s t, sumX (c.map vlv) = some s ∧ sumX (c.map tmv) = some t ∧ MInv M h l (6 * (k + 1)) s t := by
  intro k
  induction k with
  | zero =>
    intro c hc _ hx
    obtain ⟨x, rfl⟩ := List.length_eq_one_iff.1 hc
    · obtain ⟨x1, x2⟩ := hx x (by simp)
      have hI := x.2.2.2
      unfold I64 at hI
      obtain ⟨_, g1, g2⟩ := total_first x.2.1 x.2.2.1
      obtain ⟨y, e, i⟩ := mean_first b (int_fin (n := x.1.2) (by omega) (by omega)) (int_fin (n := x.1.1) (by have := x.2.1; omega) (by have := x.2.2.1; omega)) x1 x2 g1 g2
      rw [vlv_run] at e
      obtain rfl := Option.some.inj e
      exact ⟨_, _, vlv_nz x, tmv_nz x, i⟩
  | succ k ih =>
    intro c hc hk hx
    obtain ⟨d, x, rfl⟩ := snoc_of (l := c) (by rintro rfl; simp at hc)
    have hd : d.length = k + 1 := by simpa using hc
    obtain ⟨s, t, hs, ht, i⟩ := ih d hd (by omega) (fun y hy => hx y (by simp [hy]))
    obtain ⟨x1, x2⟩ := hx x (by simp)
    have hI := x.2.2.2
    unfold I64 at hI
    obtain ⟨_, g1, g2⟩ := total_first x.2.1 x.2.2.1
    obtain ⟨y, s', t', e, es, et, j⟩ := mean_next b i (by omega) (by omega) (int_fin (n := x.1.2) (by omega) (by omega)) (int_fin (n := x.1.1) (by have := x.2.1; omega) (by have := x.2.2.1; omega)) x1 x2 g1 g2
    rw [vlv_run] at e
    obtain rfl := Option.some.inj e
    have hne : d ≠ [] := by rintro rfl; simp at hd
    refine ⟨s', t', ?_, ?_, by rw [show (6 * (((k + 1 : Nat) : Int) + 1)) = 6 * ((k : Int) + 1) + 6 by omega]; exact j⟩
    · rw [List.map_append, List.map_singleton, sumX_snoc (by simpa using hne), hs, vlv_nz]
      exact es
    · rw [List.map_append, List.map_singleton, sumX_snoc (by simpa using hne), ht, tmv_nz]
      exact et
/-- The ends of a list of what counts. -/
theorem endL_facts : ∀ n, ∀ c : List Ct, c.length = n → (endL c).2.2 = decide (c ≠ []) ∧ (∀ x ∈ c, (endL c).1 ≤ x.1.2 ∧ x.1.2 ≤ (endL c).2.1) ∧ I64 (endL c).1 ∧ I64 (endL c).2.1 ∧ (c ≠ [] → (endL c).1 ≤ (endL c).2.1) := by
  intro n
  induction n with
  | zero =>
    intro c hc
    rw [List.length_eq_zero_iff.1 hc]
    refine ⟨rfl, ?_, ?_, ?_, ?_⟩
    · intro x h; cases h
    · unfold I64; decide
    · unfold I64; decide
    · intro h; exact absurd rfl h
  | succ n ih =>
    intro c hc
    obtain ⟨d, x, rfl⟩ := snoc_of (l := c) (by rintro rfl; simp at hc)
    obtain ⟨i1, i2, i3, i4, i5⟩ := ih d (by simpa using hc)
    have hI := x.2.2.2
    rw [endL_snoc]
    unfold I64 at *
    generalize endL d = S at *
    obtain ⟨lo, hi, is⟩ := S
    simp only at *
    subst i1
    by_cases h : d = []
    · subst h
      refine ⟨by simp [endF], fun y hy => ?_, ?_, ?_, fun _ => ?_⟩
      · simp at hy
        subst hy
        simp [endF]
      · simp [endF]; omega
      · simp [endF]; omega
      · simp [endF]
    · unfold endF
      rw [decide_eq_true h]
      simp only [if_true]
      have := i5 h
      refine ⟨by simp, fun y hy => ?_, ?_, ?_, fun _ => ?_⟩
      · rcases List.mem_append.1 hy with hy | hy
        · have := i2 y hy
          split <;> omega
        · simp at hy
          subst hy
          split <;> omega
      · omega
      · split <;> omega
      · split <;> omega
theorem int_val_bd {n : Int} (h0 : -9223372036854775808 ≤ n) (h1 : n ≤ 9223372036854775808) : -(18446744073709551616 * (U : Int)) ≤ val (Go.floatOfInt .f64 n) ∧ val (Go.floatOfInt .f64 n) ≤ 18446744073709551616 * U := by
  have hU := U_big
  have e0 : -9223372036854775808 * (U : Int) ≤ n * U := Int.mul_le_mul_of_nonneg_right h0 (by omega)
  have e1 : n * (U : Int) ≤ 9223372036854775808 * U := Int.mul_le_mul_of_nonneg_right h1 (by omega)
  obtain ⟨_, u, v⟩ := (int_rnd n).close (y := 9223372036854775808 * U) (by omega) (big_ok (mul_le_one (Int.le_refl _)) (by omega))
  rw [show ((1 : Nat) : Int) * val (Go.floatOfInt .f64 n) = val (Go.floatOfInt .f64 n) by omega] at u v
  omega
/-- The mean, and the ends less and more the slack. -/
theorem mean_between {c : List Ct} {g : Nat} (hne : c ≠ []) (hlen : c.length ≤ 60) (fg : fin g = true)
    (vg : val g = max (max (val (Go.floatOfInt .f64 (endL c).2.1)) (-val (Go.floatOfInt .f64 (endL c).1))) (-(U : Int))) :
    ∃ m p q y z, fop .quo (sumX (c.map vlv)) (sumX (c.map tmv)) = some m ∧ fin m = true ∧ Go.floatBits .add .f64 4607182418800017408 g = some p ∧ Go.floatBits .mul .f64 4517329193108106637 p = some q ∧
      Go.floatBits .add .f64 (Go.floatOfInt .f64 (endL c).2.1) q = some y ∧ Go.floatBits .sub .f64 (Go.floatOfInt .f64 (endL c).1) q = some z ∧ fin y = true ∧ fin z = true ∧ val z ≤ val m ∧ val m ≤ val y := by
  obtain ⟨_, e2, e3, e4, e5⟩ := endL_facts _ c rfl
  have e6 := e5 hne
  unfold I64 at e3 e4
  generalize (endL c).1 = lo at *
  generalize (endL c).2.1 = hi at *
  have hU := U_big
  have b1 := int_val_bd (n := hi) (by omega) (by omega)
  have b2 := int_val_bd (n := lo) (by omega) (by omega)
  have b3 := int_mono e6
  have b : MBd (val g + U) (val (Go.floatOfInt .f64 hi)) (val (Go.floatOfInt .f64 lo)) := ⟨by omega, by omega, b3, by omega, by omega⟩
  have hpos : 0 < c.length := List.length_pos_iff.2 hne
  obtain ⟨s, t, hs, ht, i⟩ := mean_sums b (c.length - 1) c (by omega) (by omega) (fun x hx => ⟨int_mono (e2 x hx).1, int_mono (e2 x hx).2⟩)
  obtain ⟨m, em, fm, m1, m2⟩ := mean_quo b i (by omega)
  obtain ⟨p, q, y, z, a1, a2, a3, a4, a5, a6, a7, a8⟩ := mean_slack b fg (by omega) (int_fin (by omega) (by omega)) (int_fin (by omega) (by omega)) rfl rfl m1 m2
  rw [hs, ht]
  exact ⟨m, p, q, y, z, em, fm, a1, a2, a3, a4, a5, a6, a7, a8⟩
/-- Totals: near what is not rounded. -/
theorem total_sums : ∀ k, ∀ c : List Ct, c.length = k + 1 → k ≤ 100 → ∃ t, sumX (c.map tmv) = some t ∧ t < 18446744073709551616 ∧ TInv (6 * (k + 1)) ((c.map fun x => x.1.1).sum * U) t ∧ (k + 1 : Int) ≤ (c.map fun x => x.1.1).sum ∧ (c.map fun x => x.1.1).sum ≤ (k + 1) * 18446744073709551616 := by
  intro k
  induction k with
  | zero =>
    intro c hc _
    obtain ⟨x, rfl⟩ := List.length_eq_one_iff.1 hc
    · obtain ⟨i, _, _⟩ := total_first x.2.1 x.2.2.1
      have h1 := x.2.1
      have h2 := x.2.2.1
      refine ⟨_, tmv_nz x, tmv_lt x, ?_, by simp; omega, by simp; omega⟩
      rw [show (List.map (fun x : Ct => x.1.1) [x]).sum = x.1.1 by simp]
      have et : val (tmv x) = val (Go.floatOfInt .f64 x.1.1) := rfl
      exact ⟨i.ft, i.pos, by have := i.lo; have := i.pos; omega, by have := i.hi; have := i.pos; omega⟩
  | succ k ih =>
    intro c hc hk
    obtain ⟨d, x, rfl⟩ := snoc_of (l := c) (by rintro rfl; simp at hc)
    have hd : d.length = k + 1 := by simpa using hc
    obtain ⟨t, ht, hl, i, n1, n2⟩ := ih d hd (by omega)
    have hne : d ≠ [] := by rintro rfl; simp at hd
    have h1 := x.2.1
    have h2 := x.2.2.1
    have hT : (d.map fun x : Ct => x.1.1).sum * (U : Int) ≤ 2361183241434822606848 * U := Int.mul_le_mul_of_nonneg_right (by omega) (by omega)
    obtain ⟨t', e, j⟩ := total_next i (by omega) (by omega) hT h1 h2
    refine ⟨t', ?_, (bits_word e).2, ?_, ?_, ?_⟩
    · rw [List.map_append, List.map_singleton, sumX_snoc (by simpa using hne), ht, tmv_nz]
      exact e
    · rw [List.map_append, List.map_singleton, List.sum_append, List.sum_singleton, Int.add_mul, show (6 * (((k + 1 : Nat) : Int) + 1)) = 6 * ((k : Int) + 1) + 6 by omega]
      exact j
    · simp; omega
    · simp; omega
theorem cnt_sum (a b : Int) : ∀ n, ∀ l : List Pt, l.length = n → (∀ k, k < l.length → PtI (pt l k)) → ((cnt l a b l.length).map fun x => x.1.1).sum = lensIn a b l := by
  intro n
  induction n with
  | zero => intro l hl _; rw [List.length_eq_zero_iff.1 hl]; rfl
  | succ n ih =>
    intro l hl hI
    obtain ⟨m, p, rfl⟩ := snoc_of (l := l) (by rintro rfl; simp at hl)
    have e := ih m (by simpa using hl) (fun k hk => by rw [← pt_app hk (p := p)]; exact hI k (by simp; omega))
    have hp : PtI p := by have := hI m.length (by simp); rwa [pt_last] at this
    rw [cnt_snoc, List.map_append, List.sum_append, e, show lensIn a b (m ++ [p]) = lensIn a b m + lenIn a b p by unfold lensIn; simp]
    congr 1
    unfold lenIn
    by_cases h : meetP a b p = true
    · rw [if_pos h, if_pos h, List.map_singleton, List.sum_singleton, ct_val h hp]
      rfl
    · rw [if_neg h, if_neg h]; rfl
end Go.Proofs.Ytlnfffenahjcnaa
