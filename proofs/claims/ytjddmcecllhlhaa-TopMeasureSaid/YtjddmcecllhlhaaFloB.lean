/-
  What a number is written as: the nearest rung.
-/
import Derived.Test.YtjddmcecllhlhaaFloA
namespace Go.Proofs.Ytjddmcecllhlhaa.Flo
open Ieee

/-- Numerator and denominator of a number, in units of 2 ^ -1074. -/
def nu (mag : Nat) (place : Int) : Nat := mag * 2 ^ (place + 1074).toNat
def de (place : Int) : Nat := 2 ^ (-(place + 1074)).toNat
theorem de_pos (place : Int) : 0 < de place := Nat.two_pow_pos _

theorem least_eq : double.leastPlace = -1074 := by decide
theorem binade_eq : double.binade = 4503599627370496 := by decide
theorem inf_eq : double.infRung = 9218868437227405312 := by decide
theorem sign_eq : double.signWeight = 9223372036854775808 := by decide

theorem nearest_rd (neg : Bool) (mag : Nat) (place : Int) : ∃ r, Rd (nu mag place) (de place) r ∧ double.nearest neg mag place = double.word neg (min r 9218868437227405312) := by
  by_cases h0 : mag = 0
  · subst h0
    refine ⟨0, ?_, ?_⟩
    · have := Rd.exact (de place) 0 (de_pos place)
      simpa [nu, mg_zero] using this
    · simp [Format.nearest]
  · unfold Format.nearest
    rw [if_neg h0]
    simp only [least_eq, binade_eq, inf_eq]
    have hf : (double.fractionBits : Int) = 52 := by decide
    rw [hf]
    -- the last place kept
    obtain ⟨t, ht⟩ : ∃ t : Nat, max (place + (mag.log2 : Int) - 52) (-1074) = (t : Int) - 1074 := ⟨(max (place + (mag.log2 : Int) - 52) (-1074) + 1074).toNat, by omega⟩
    rw [ht]
    have e1 : ((t : Int) - 1074 - -1074).toNat = t := by omega
    rw [e1]
    have hlog1 : 2 ^ mag.log2 ≤ mag := Nat.log2_self_le h0
    have hlog2 : mag < 2 ^ (mag.log2 + 1) := Nat.lt_log2_self
    -- the number before the cut
    obtain ⟨n, hn⟩ : ∃ n, mag <<< (place - ((t : Int) - 1074)).toNat = n := ⟨_, rfl⟩
    obtain ⟨drop, hdrop⟩ : ∃ drop, ((t : Int) - 1074 - place).toNat = drop := ⟨_, rfl⟩
    rw [hn, hdrop, cut_even]
    have hn' : n = mag * 2 ^ (place - ((t : Int) - 1074)).toNat := by rw [← hn, Nat.shiftLeft_eq]
    have hc : ∃ c, 0 < c ∧ nu mag place = n * c ∧ de place * 2 ^ t = 2 ^ drop * c := by
      unfold nu de
      by_cases c1 : (t : Int) ≤ place + 1074
      · refine ⟨2 ^ t, two_pow_pos _, ?_, ?_⟩
        · rw [hn', Nat.mul_assoc, ← Nat.pow_add]; congr 2; omega
        · rw [← Nat.pow_add, ← Nat.pow_add]; congr 1; omega
      · have hd0 : n = mag := by rw [hn', show (place - ((t : Int) - 1074)).toNat = 0 by omega]; simp
        by_cases c2 : 0 ≤ place + 1074
        · refine ⟨2 ^ (place + 1074).toNat, two_pow_pos _, by rw [hd0], ?_⟩
          rw [← Nat.pow_add, ← Nat.pow_add]; congr 1; omega
        · refine ⟨1, by omega, ?_, ?_⟩
          · rw [hd0, show (place + 1074).toNat = 0 by omega]
          · rw [Nat.mul_one, ← Nat.pow_add]; congr 1; omega
    obtain ⟨c, hc0, hcN, hcD⟩ := hc
    have hg := two_pow_pos drop
    -- bounds on the kept digits
    have hlow : n < 2 ^ drop * 9007199254740992 := by
      have e53 : (9007199254740992 : Nat) = 2 ^ 53 := by decide
      rw [e53]
      rw [hn', ← Nat.pow_add]
      refine Nat.lt_of_lt_of_le (Nat.mul_lt_mul_of_pos_right hlog2 (two_pow_pos _)) ?_
      rw [← Nat.pow_add]
      exact Nat.pow_le_pow_right (by omega) (by omega)
    have hhigh : t = 0 ∨ 2 ^ drop * 4503599627370496 ≤ n := by
      by_cases t0 : t = 0
      · exact .inl t0
      · right
        have e52 : (4503599627370496 : Nat) = 2 ^ 52 := by decide
        rw [e52, hn', ← Nat.pow_add]
        refine Nat.le_trans ?_ (Nat.mul_le_mul_right _ hlog1)
        rw [← Nat.pow_add]
        exact Nat.pow_le_pow_right (by omega) (by omega)
    generalize 2 ^ drop = g at *
    have dm := Nat.div_add_mod n g
    have ml := Nat.mod_lt n hg
    have hl : n / g < 9007199254740992 := (Nat.div_lt_iff_lt_mul hg).2 (by rw [Nat.mul_comm]; exact hlow)
    have hl' : t = 0 ∨ 4503599627370496 ≤ n / g := hhigh.imp id (fun h => (Nat.le_div_iff_mul_le hg).2 (by rw [Nat.mul_comm]; exact h))
    generalize n / g = low at *
    generalize n % g = rest at *
    have key : ∀ x, de place * (x * 2 ^ t) = g * x * c := fun x => by
      rw [Nat.mul_left_comm, hcD, ← Nat.mul_assoc, Nat.mul_comm x g]
    refine ⟨t * 4503599627370496 + (low + (if g < 2 * rest ∨ (g = 2 * rest ∧ low % 2 = 1) then 1 else 0)), ?_, rfl⟩
    refine Rd.of_cut hl' hl ?_ ?_ (de_pos _) ?_
    · rw [key, hcN]
      exact Nat.mul_le_mul_right _ (by omega)
    · rw [key, hcN, Nat.mul_succ]
      exact Nat.mul_lt_mul_of_pos_right (by omega) hc0
    · rw [key, hcN, ← Nat.mul_assoc]
      have ex : g * (2 * low + 1) = 2 * (g * low) + g := by rw [Nat.mul_add, Nat.mul_left_comm, Nat.mul_one]
      rw [ex]
      have en : 2 * n = 2 * (g * low) + 2 * rest := by omega
      rw [en]
      by_cases h1 : g < 2 * rest ∨ (g = 2 * rest ∧ low % 2 = 1)
      · rw [if_pos h1]
        refine .inr ⟨rfl, Nat.mul_le_mul_right _ (by omega), fun h => ?_⟩
        have := Nat.eq_of_mul_eq_mul_right hc0 h
        omega
      · rw [if_neg h1]
        refine .inl ⟨rfl, Nat.mul_le_mul_right _ (by omega), fun h => ?_⟩
        have := Nat.eq_of_mul_eq_mul_right hc0 h
        omega

end Go.Proofs.Ytjddmcecllhlhaa.Flo
