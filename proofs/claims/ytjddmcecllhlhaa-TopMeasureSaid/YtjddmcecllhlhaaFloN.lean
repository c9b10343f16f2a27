/-
  What a number is rounded to, by each way.
-/
import Derived.Test.YtjddmcecllhlhaaFloM
namespace Go.Proofs.Ytjddmcecllhlhaa.Flo
open Ieee
/-- What a number is rounded to, by each way. -/
theorem rnd_facts (b : Nat) :
    rndI .down b * U ≤ val b ∧ val b ≤ rndI .up b * U ∧ rndI .up b ≤ rndI .down b + 1 ∧ rndI .down b ≤ rndI .up b ∧ (0 ≤ val b → rndI .zero b = rndI .down b) ∧ (val b ≤ 0 → rndI .zero b = rndI .up b) ∧
    (rndI .even b = rndI .down b ∨ rndI .even b = rndI .up b) ∧ (rndI .even b ≠ rndI .down b → rndI .up b * U - val b ≤ val b - rndI .down b * U) ∧ (rndI .even b ≠ rndI .up b → val b - rndI .down b * U ≤ rndI .up b * U - val b) := by
  have hU := U_pos
  have hr := Nat.mod_lt (mag b) hU
  have hd := Nat.div_add_mod (mag b) U
  have e : (mag b : Int) = (mag b / U : Nat) * (U : Int) + (mag b % U : Nat) := by
    rw [Int.mul_comm]; exact_mod_cast hd.symm
  unfold rndI rnd upB val
  rw [e]
  have hz : mag b / U = 0 → mag b = mag b % U := fun h => by rw [h, Nat.mul_zero, Nat.zero_add] at hd; exact hd.symm
  clear hd e
  have hq : 0 ≤ ((mag b / U : Nat) : Int) * (U : Int) := Int.mul_nonneg (Int.natCast_nonneg _) (Int.natCast_nonneg _)
  have hq1 : mag b / U ≠ 0 → (U : Int) ≤ ((mag b / U : Nat) : Int) * (U : Int) := fun h => by
    have : 1 * U ≤ mag b / U * U := Nat.mul_le_mul_right _ (Nat.pos_of_ne_zero h)
    have h2 : ((mag b / U * U : Nat) : Int) = ((mag b / U : Nat) : Int) * (U : Int) := by simp
    omega
  have e1 : (((mag b / U + 1 : Nat) : Nat) : Int) * (U : Int) = ((mag b / U : Nat) : Int) * (U : Int) + U := by
    have : (((mag b / U + 1 : Nat) : Nat) : Int) = ((mag b / U : Nat) : Int) + 1 := by simp
    rw [this, Int.add_mul, Int.one_mul]
  generalize mag b / U = q at *
  generalize mag b % U = r at *
  generalize mag b = m at *
  generalize hX : ((q : Nat) : Int) * (U : Int) = X at *
  have c0 : (r != 0) = false ∧ r = 0 ∨ (r != 0) = true ∧ r ≠ 0 := by by_cases h : r = 0 <;> simp [h]
  have c1 : decide (U < 2 * r) = true ∧ U < 2 * r ∨ decide (U < 2 * r) = false ∧ ¬ U < 2 * r := by by_cases h : U < 2 * r <;> simp [h]
  have c2 : (U == 2 * r) = true ∧ U = 2 * r ∨ (U == 2 * r) = false ∧ U ≠ 2 * r := by
    cases h : (U == 2 * r)
    · exact .inr ⟨rfl, by simpa using h⟩
    · exact .inl ⟨rfl, by simpa using h⟩
  generalize hD : decide (U < 2 * r) = D at *
  generalize hE : (U == 2 * r) = E at *
  clear hD hE
  cases sg b <;> rcases c0 with ⟨b0, n0⟩ | ⟨b0, n0⟩ <;> rcases c1 with ⟨b1, n1⟩ | ⟨b1, n1⟩ <;> rcases c2 with ⟨b2, n2⟩ | ⟨b2, n2⟩ <;> cases b3 : (q % 2 == 1) <;>
    simp only [b0, b1, b2, b3, Bool.and_true, Bool.and_false, Bool.true_and, Bool.false_and, Bool.or_true, Bool.or_false, Bool.true_or, Bool.false_or, Bool.not_true, Bool.not_false, Bool.toNat_true, Bool.toNat_false, if_true, if_false, Bool.false_eq_true, Nat.add_zero, Int.neg_mul, hX, e1] <;> refine ⟨?_, ?_, ?_, ?_, fun h => ?_, fun h => ?_, ?_, fun h => ?_, fun h => ?_⟩ <;> first | omega | with_reducible exact True.intro | with_reducible exact Or.inl True.intro | with_reducible exact Or.inr True.intro
end Go.Proofs.Ytjddmcecllhlhaa.Flo
