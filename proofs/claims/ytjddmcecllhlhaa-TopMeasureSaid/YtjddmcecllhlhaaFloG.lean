/-
  Rounding by steps: the whole part and what is left.
-/
import Derived.Test.YtjddmcecllhlhaaFloF
namespace Go.Proofs.Ytjddmcecllhlhaa.Flo
open Ieee

/-- The whole part, towards zero, as a whole number; and what is left, in units. -/
def tr (b : Nat) : Int := if sg b = true then -((mag b / U : Nat) : Int) else (mag b / U : Nat)
def lft (b : Nat) : Int := if sg b = true then -((mag b % U : Nat) : Int) else (mag b % U : Nat)
/-- What a number is rounded to, as a whole number. -/
def rndI (way : Toward) (b : Nat) : Int := if sg b = true then -(rnd way true (mag b) : Int) else rnd way false (mag b)

theorem val_parts (b : Nat) : val b = tr b * U + lft b := by
  have := Nat.div_add_mod (mag b) U
  have e : (mag b : Int) = (mag b / U : Nat) * (U : Int) + (mag b % U : Nat) := by
    rw [Int.mul_comm]; exact_mod_cast this.symm
  unfold val tr lft
  generalize mag b / U = q at *
  generalize mag b % U = m at *
  rw [e]
  cases sg b
  · simp
  · simp [Int.neg_add, Int.neg_mul]
theorem tr_nat (b : Nat) : (tr b).natAbs = mag b / U := by unfold tr; generalize mag b / U = q; split <;> simp
theorem lft_nat (b : Nat) : (lft b).natAbs = mag b % U := by unfold lft; generalize mag b % U = q; split <;> simp
theorem lft_bd (b : Nat) : -(U : Int) < lft b ∧ lft b < U := by
  have := Nat.mod_lt (mag b) U_pos
  unfold lft; split <;> omega

def J : Nat := 1021
theorem K_J : K = 52 + J + 1 := rfl
/-- Half of 1. -/
def H : Nat := 4503599627370496 * 2 ^ J
theorem U_H : U = 2 * H := by
  unfold H
  rw [show (4503599627370496 : Nat) = 2 ^ 52 from rfl, ← Nat.pow_add, Nat.mul_comm, ← Nat.pow_succ, U_def, K_J]
theorem H_pos : 0 < H := by have := U_pos; have := U_H; omega
theorem rep_H : Rep (H : Int) := rep_mk 4503599627370496 J _ (by omega) (by have := K_J; omega) rfl
theorem half_is : Is 4602678819172646912 false (H : Int) := by
  have := is_wd (neg0 := false) (z := (H : Int)) (r := 4602678819172646912) (by
    have := mg_mk J 4503599627370496 (by omega) (.inr (by omega))
    exact this) (by omega)
  have h : ¬ (H : Int) = 0 := by have := H_pos; omega
  have h' : ¬ (H : Int) < 0 := by omega
  rw [if_neg h, decide_eq_false h'] at this
  exact this
theorem mhalf_is : Is 13826050856027422720 false (-(H : Int)) := by
  have := is_wd (neg0 := false) (z := -(H : Int)) (r := 4602678819172646912) (by
    have := mg_mk J 4503599627370496 (by omega) (.inr (by omega))
    rw [Int.natAbs_neg]
    exact this) (by omega)
  have h : ¬ -(H : Int) = 0 := by have := H_pos; omega
  have h' : -(H : Int) < 0 := by have := H_pos; omega
  rw [if_neg h, decide_eq_true h'] at this
  exact this

/-- The steps of the reference's rounding. -/
theorem rnd_down (b : Nat) : rndI .down b = tr b - if lft b < 0 then 1 else 0 := by
  unfold rndI tr lft rnd upB
  generalize mag b / U = q at *
  generalize mag b % U = m at *
  cases sg b
  · have : ¬ (m : Int) < 0 := by omega
    simp [this]
  · by_cases h : m = 0
    · simp [h]
    · have : -(m : Int) < 0 := by omega
      have e : (m != 0) = true := by simpa using h
      simp only [if_true, if_pos this, Bool.true_and, e, Bool.toNat_true]
      omega
theorem rnd_up (b : Nat) : rndI .up b = tr b + if 0 < lft b then 1 else 0 := by
  unfold rndI tr lft rnd upB
  generalize mag b / U = q at *
  generalize mag b % U = m at *
  cases sg b
  · by_cases h : m = 0
    · simp [h]
    · have : 0 < (m : Int) := by omega
      have e : (m != 0) = true := by simpa using h
      simp only [Bool.false_eq_true, if_false, if_pos this, e, Bool.not_false, Bool.true_and, Bool.toNat_true]
      omega
  · have : ¬ 0 < -(m : Int) := by omega
    simp only [if_true, if_neg this, Bool.not_true, Bool.false_and, Bool.toNat_false]
    omega
theorem rnd_zero (b : Nat) : rndI .zero b = tr b := by
  unfold rndI tr rnd upB; simp
theorem rnd_even (b : Nat) : rndI .even b = tr b + (if (H : Int) < lft b ∨ (lft b = H ∧ (tr b).tmod 2 ≠ 0) then 1 else 0) - (if lft b < -(H : Int) ∨ (lft b = -(H : Int) ∧ (tr b).tmod 2 ≠ 0) then 1 else 0) := by
  have hU := U_H
  have hH := H_pos
  have hm := Nat.mod_lt (mag b) U_pos
  unfold rndI tr lft rnd upB
  generalize mag b / U = q at *
  generalize mag b % U = m at *
  have up : (decide (U < 2 * m) || (U == 2 * m && q % 2 == 1)) = decide (H < m ∨ (m = H ∧ q % 2 = 1)) := by
    rw [Bool.eq_iff_iff]; simp; omega
  simp only [up]
  have t1 : (q : Int).tmod 2 = (q % 2 : Nat) := (Int.ofNat_tmod q 2).symm
  have t2 : (-(q : Int)).tmod 2 = -((q % 2 : Nat) : Int) := by rw [Int.neg_tmod, t1]
  have t3 : q % 2 = 0 ∨ q % 2 = 1 := by omega
  generalize q % 2 = p at *
  cases sg b
  · simp only [Bool.false_eq_true, if_false, t1]
    have e0 : ¬ ((m : Int) < -(H : Int) ∨ ((m : Int) = -(H : Int) ∧ (p : Int) ≠ 0)) := by omega
    rw [if_neg e0]
    by_cases h : H < m ∨ (m = H ∧ p = 1)
    · rw [if_pos (by omega), decide_eq_true h]; simp
    · rw [if_neg (by omega), decide_eq_false h]; simp
  · simp only [if_true, t2]
    have e0 : ¬ ((H : Int) < -(m : Int) ∨ (-(m : Int) = (H : Int) ∧ (-(p : Int)) ≠ 0)) := by omega
    rw [if_neg e0]
    by_cases h : H < m ∨ (m = H ∧ p = 1)
    · rw [if_pos (by omega), decide_eq_true h]; simp; omega
    · rw [if_neg (by omega), decide_eq_false h]; simp

/-- What is left is a value of a word. -/
theorem lft_rep (b : Nat) : Rep (lft b) := by
  obtain ⟨t, q, e, hq, hq'⟩ := rung_form (rg b)
  have em : mag b = q * 2 ^ t := by unfold mag; rw [e]; exact mg_mk t q (by omega) hq'
  by_cases ht : K ≤ t
  · have z : mag b % U = 0 := by rw [em, show t = (t - K) + K by omega, Nat.pow_add, ← Nat.mul_assoc, ← U_def, Nat.mul_mod_left]
    exact ⟨0, by rw [lft_nat, z, mg_zero], by omega⟩
  · have eU : U = 2 ^ (K - t) * 2 ^ t := by rw [U_def, ← Nat.pow_add]; congr 1; omega
    refine rep_mk (q % 2 ^ (K - t)) t _ ?_ (by omega) ?_
    · have := Nat.mod_le q (2 ^ (K - t)); omega
    · rw [lft_nat, em, eU, Nat.mul_mod_mul_right]

/-- The reference's rest: a number less its whole part. -/
theorem rest_is {b c : Nat} (h : fin b = true) (hc : Is c false (tr b * U)) : ∃ d, double.sub b c = some d ∧ d < 18446744073709551616 ∧ fin d = true ∧ val d = lft b := by
  have hv : val b - val c = lft b := by rw [hc.val]; have := val_parts b; omega
  obtain ⟨d, hd, hi⟩ := sub_is h hc.fin hc.lt (by rw [hv]; exact lft_rep b)
  exact ⟨d, hd, hi.lt, hi.fin, by rw [hi.val, hv]⟩
theorem round_val {b y : Nat} (way : Toward) (h1 : sg y = sg b) (h2 : mag y = rnd way (sg b) (mag b) * U) : val y = rndI way b * U := by
  unfold val rndI
  rw [h1, h2]
  cases sg b <;> simp [Int.neg_mul]
theorem toInt_tr {b : Nat} (h : fin b = true) : (double.read b).toInt .zero = some (tr b) := toInt_fin h
end Go.Proofs.Ytjddmcecllhlhaa.Flo
