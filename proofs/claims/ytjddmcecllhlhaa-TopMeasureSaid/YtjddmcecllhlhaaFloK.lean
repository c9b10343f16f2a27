/-
  Floats.
-/
import Derived.Test.YtjddmcecllhlhaaFloJ
namespace Go.Proofs.Ytjddmcecllhlhaa.Flo
open Ieee

theorem ord_lt {a b : Nat} (ha : isnan a = false) (hb : isnan b = false) : (double.order a b == some .lt) = decide (plc a < plc b ∧ ¬ (rg a = 0 ∧ rg b = 0)) := by
  rw [order_val ha hb, ← decide_eq_decide.2 (val_lt ha hb)]
  by_cases h : val a < val b
  · rw [Int.compare_eq_lt.2 h, decide_eq_true h]; rfl
  · rw [decide_eq_false h]
    rw [beq_eq_false_iff_ne]; intro h'; exact h (Int.compare_eq_lt.1 (Option.some.inj h'))
theorem ord_gt {a b : Nat} (ha : isnan a = false) (hb : isnan b = false) : (double.order a b == some .gt) = decide (plc b < plc a ∧ ¬ (rg b = 0 ∧ rg a = 0)) := by
  rw [order_val ha hb, ← decide_eq_decide.2 (val_lt hb ha)]
  by_cases h : val b < val a
  · rw [Int.compare_eq_gt.2 h, decide_eq_true h]; rfl
  · rw [decide_eq_false h]
    rw [beq_eq_false_iff_ne]; intro h'; exact h (Int.compare_eq_gt.1 (Option.some.inj h'))
theorem ord_eq {a b : Nat} (ha : isnan a = false) (hb : isnan b = false) : (double.order a b == some .eq) = decide (plc a = plc b ∨ (rg a = 0 ∧ rg b = 0)) := by
  rw [order_val ha hb, ← decide_eq_decide.2 (val_eq ha hb)]
  by_cases h : val a = val b
  · rw [Int.compare_eq_eq.2 h, decide_eq_true h]; rfl
  · rw [decide_eq_false h]
    rw [beq_eq_false_iff_ne]; intro h'; exact h (Int.compare_eq_eq.1 (Option.some.inj h'))
theorem ord_nan {a b : Nat} (h : isnan a = true ∨ isnan b = true) (o : Ordering) : (double.order a b == some o) = false := by rw [order_nan h]; rfl

/-- A comparison, by places; of none, false. -/
theorem ord_self (a : Nat) : (double.order a a != some .eq) = isnan a := by
  cases h : isnan a
  · have := ord_eq h h
    simp at this
    simp [bne, this]
  · rw [order_nan (.inl h)]; rfl

theorem c_max : isnan 9218868437227405311 = false ∧ rg 9218868437227405311 = 9218868437227405311 ∧ plc 9218868437227405311 = 9218868437227405311 := by decide
theorem c_mmax : isnan 18442240474082181119 = false ∧ rg 18442240474082181119 = 9218868437227405311 ∧ plc 18442240474082181119 = -9218868437227405312 := by decide
theorem c_zero : isnan 0 = false ∧ rg 0 = 0 ∧ plc 0 = 0 := by decide

theorem ord_max (b : Nat) : (double.order b 9218868437227405311 == some .gt) = (knd b == 6) := by
  obtain ⟨n, r, p⟩ := c_max
  rcases knd_cases b with ⟨h, k, _⟩ | ⟨h, _, s, k, q⟩ | ⟨h, _, _, s, k, q⟩ | ⟨h, _, s, k, q⟩ | ⟨h, _, s, k, q⟩ | ⟨h, _, _, s, k, q⟩ | ⟨h, _, s, k, q⟩
  · rw [ord_nan (.inl h), k]; rfl
  all_goals
    rw [ord_gt h n, p, r, k, q]
    first | (rw [decide_eq_true (by omega)]; rfl) | (rw [decide_eq_false (by omega)]; rfl)
theorem ord_mmax (b : Nat) : (double.order b 18442240474082181119 == some .lt) = (knd b == 1) := by
  obtain ⟨n, r, p⟩ := c_mmax
  rcases knd_cases b with ⟨h, k, _⟩ | ⟨h, _, s, k, q⟩ | ⟨h, _, _, s, k, q⟩ | ⟨h, _, s, k, q⟩ | ⟨h, _, s, k, q⟩ | ⟨h, _, _, s, k, q⟩ | ⟨h, _, s, k, q⟩
  · rw [ord_nan (.inl h), k]; rfl
  all_goals
    rw [ord_lt h n, p, r, k, q]
    first | (rw [decide_eq_true (by omega)]; rfl) | (rw [decide_eq_false (by omega)]; rfl)
theorem ord_lt0 (b : Nat) : (double.order b 0 == some .lt) = (knd b == 1 || knd b == 2) := by
  obtain ⟨n, r, p⟩ := c_zero
  rcases knd_cases b with ⟨h, k, _⟩ | ⟨h, _, s, k, q⟩ | ⟨h, _, _, s, k, q⟩ | ⟨h, _, s, k, q⟩ | ⟨h, _, s, k, q⟩ | ⟨h, _, _, s, k, q⟩ | ⟨h, _, s, k, q⟩
  · rw [ord_nan (.inl h), k]; rfl
  all_goals
    rw [ord_lt h n, p, r, k, q]
    first | (rw [decide_eq_true (by omega)]; rfl) | (rw [decide_eq_false (by omega)]; rfl)
theorem ord_gt0 (b : Nat) : (double.order b 0 == some .gt) = (knd b == 5 || knd b == 6) := by
  obtain ⟨n, r, p⟩ := c_zero
  rcases knd_cases b with ⟨h, k, _⟩ | ⟨h, _, s, k, q⟩ | ⟨h, _, _, s, k, q⟩ | ⟨h, _, s, k, q⟩ | ⟨h, _, s, k, q⟩ | ⟨h, _, _, s, k, q⟩ | ⟨h, _, s, k, q⟩
  · rw [ord_nan (.inl h), k]; rfl
  all_goals
    rw [ord_gt h n, p, r, k, q]
    first | (rw [decide_eq_true (by omega)]; rfl) | (rw [decide_eq_false (by omega)]; rfl)
theorem ord_eq0 (b : Nat) : (double.order b 0 == some .eq) = (knd b == 3 || knd b == 4) := by
  obtain ⟨n, r, p⟩ := c_zero
  rcases knd_cases b with ⟨h, k, _⟩ | ⟨h, _, s, k, q⟩ | ⟨h, _, _, s, k, q⟩ | ⟨h, _, s, k, q⟩ | ⟨h, _, s, k, q⟩ | ⟨h, _, _, s, k, q⟩ | ⟨h, _, s, k, q⟩
  · rw [ord_nan (.inl h), k]; rfl
  all_goals
    rw [ord_eq h n, p, r, k, q]
    first | (rw [decide_eq_true (by omega)]; rfl) | (rw [decide_eq_false (by omega)]; rfl)
/-- 1 / x of a zero. -/
theorem inv_zero {b : Nat} (h : knd b = 3 ∨ knd b = 4) : ∃ y, Go.floatBits .quo .f64 4607182418800017408 b = some y ∧ (double.order y 0 == some .lt) = (knd b == 3) := by
  have r0 : rg b = 0 ∧ ((knd b = 3 ∧ sg b = true) ∨ (knd b = 4 ∧ sg b = false)) := by
    rcases knd_cases b with ⟨_, k, _⟩ | ⟨_, _, s, k, q⟩ | ⟨_, _, _, s, k, q⟩ | ⟨_, r, s, k, q⟩ | ⟨_, r, s, k, q⟩ | ⟨_, _, _, s, k, q⟩ | ⟨_, _, s, k, q⟩ <;> first | (exfalso; omega) | exact ⟨r, by simp [k, s]⟩
  obtain ⟨r0, ks⟩ := r0
  have e : double.read b = .number (sg b) 0 (-1074) := by rw [read_eq, r0]; rfl
  have e1 : double.read 4607182418800017408 = .number false 4503599627370496 (-52) := by rw [read_eq]; rfl
  have ed : Go.floatBits .quo .f64 4607182418800017408 b = some (double.write (.infinity (false ^^ sg b))) := by
    show double.div _ _ = _
    unfold Format.div
    rw [e, e1]; rfl
  refine ⟨_, ed, ?_⟩
  rcases ks with ⟨k, s⟩ | ⟨k, s⟩
  · rw [s, k]; decide
  · rw [s, k]; decide
end Go.Proofs.Ytjddmcecllhlhaa.Flo
