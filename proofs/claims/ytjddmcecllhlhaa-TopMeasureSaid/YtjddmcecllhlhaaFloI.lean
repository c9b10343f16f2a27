/-
  Floats.
-/
import Derived.Test.YtjddmcecllhlhaaFloH
namespace Go.Proofs.Ytjddmcecllhlhaa.Flo
open Ieee

/-- b is z / D, rounded to nearest. -/
def Rnd (z : Int) (D : Nat) (b : Nat) : Prop := 0 < D ∧ ∃ r neg, Rd z.natAbs D r ∧ b = wd neg r ∧ (0 < z → neg = false) ∧ (z < 0 → neg = true)

theorem Rnd.lt {z : Int} {D b : Nat} (h : Rnd z D b) : b < 18446744073709551616 := by obtain ⟨_, r, neg, _, rfl, _⟩ := h; exact wd_lt _ _
theorem Rnd.nan {z : Int} {D b : Nat} (h : Rnd z D b) : isnan b = false := by obtain ⟨_, r, neg, _, rfl, _⟩ := h; exact nan_wd _ _

theorem rd_zero {D r : Nat} (h : Rd 0 D r) (hD : 0 < D) : r = 0 := by
  have := Rd.exact D 0 hD
  rw [mg_zero, Nat.mul_zero] at this
  exact h.uniq this hD

/-- In order. -/
theorem Rnd.mono {z z' : Int} {D D' b b' : Nat} (h : Rnd z D b) (h' : Rnd z' D' b') (hle : z * D' ≤ z' * D) : val b ≤ val b' := by
  obtain ⟨hD, r, neg, hr, rfl, hp, hn⟩ := h
  obtain ⟨hD', r', neg', hr', rfl, hp', hn'⟩ := h'
  have v : ∀ (neg : Bool) (r : Nat), val (wd neg r) = if neg = true then -(mg (min r 9218868437227405312) : Int) else mg (min r 9218868437227405312) := by
    intro neg r; unfold val mag; rw [sg_wd, rg_wd]
  rw [v, v]
  have pD : (0 : Int) < D := Int.natCast_pos.2 hD
  have pD' : (0 : Int) < D' := Int.natCast_pos.2 hD'
  have nn : ∀ x : Nat, (0 : Int) ≤ mg x := fun x => Int.natCast_nonneg _
  by_cases h1 : 0 ≤ z
  · have hz' : 0 ≤ z' := by
      refine Int.not_lt.1 fun hlt => ?_
      have a := Int.mul_neg_of_neg_of_pos hlt pD
      have b := Int.mul_nonneg h1 (Int.le_of_lt pD')
      omega
    have hm : z.natAbs * D' ≤ z'.natAbs * D := by
      have : ((z.natAbs * D' : Nat) : Int) ≤ ((z'.natAbs * D : Nat) : Int) := by
        rw [Int.natCast_mul, Int.natCast_mul, Int.natAbs_of_nonneg h1, Int.natAbs_of_nonneg hz']; exact hle
      exact_mod_cast this
    have hrr := hr.mono hr' hD hD' hm
    have hmin : (mg (min r 9218868437227405312) : Int) ≤ mg (min r' 9218868437227405312) := by
      have := mg_mono (show min r 9218868437227405312 ≤ min r' 9218868437227405312 by omega)
      exact_mod_cast this
    by_cases z0 : z' = 0
    · subst z0
      have hz0 : z = 0 := by
        by_cases hz : z = 0
        · exact hz
        · have a := Int.mul_pos (show 0 < z by omega) pD'
          omega
      subst hz0
      have e1 := rd_zero hr hD
      have e2 := rd_zero hr' hD'
      subst e1 e2
      simp [mg_zero]
    · have : neg' = false := hp' (by omega)
      rw [this]
      have := nn (min r 9218868437227405312)
      cases neg <;> simp <;> omega
  · have hneg : neg = true := hn (by omega)
    rw [hneg]
    by_cases h2 : 0 ≤ z'
    · by_cases z0 : z' = 0
      · subst z0
        have e2 := rd_zero hr' hD'
        subst e2
        have := nn (min r 9218868437227405312)
        cases neg' <;> simp [mg_zero] <;> omega
      · have : neg' = false := hp' (by omega)
        rw [this]
        have := nn (min r 9218868437227405312)
        have := nn (min r' 9218868437227405312)
        have q1 : (mg (min r 9218868437227405312) : Int) = (mg (min r 9218868437227405312) : Int) := rfl
        rw [if_pos rfl, if_neg (by decide)]; omega
    · have hneg' : neg' = true := hn' (by omega)
      rw [hneg']
      have hm : z'.natAbs * D ≤ z.natAbs * D' := by
        have e1 : (z.natAbs : Int) = -z := by omega
        have e2 : (z'.natAbs : Int) = -z' := by omega
        have : ((z'.natAbs * D : Nat) : Int) ≤ ((z.natAbs * D' : Nat) : Int) := by
          rw [Int.natCast_mul, Int.natCast_mul, e1, e2, Int.neg_mul, Int.neg_mul]; omega
        exact_mod_cast this
      have hrr := hr'.mono hr hD' hD hm
      have := mg_mono (show min r' 9218868437227405312 ≤ min r 9218868437227405312 by omega)
      simp
      omega

/-- Near: within half of 2 ^ t. -/
theorem Rnd.near {z : Int} {D b t : Nat} (h : Rnd z D b) (ht : t ≤ K + 900) (hz : z.natAbs ≤ D * (9007199254740992 * 2 ^ t)) : fin b = true ∧ 2 * (D * val b) ≤ 2 * z + D * (2 ^ t : Nat) ∧ 2 * z ≤ 2 * (D * val b) + D * (2 ^ t : Nat) := by
  obtain ⟨hD, r, neg, hr, rfl, hp, hn⟩ := h
  have hlt : r < 9218868437227405312 := by
    have e0 : mg (t * 4503599627370496 + 9007199254740992) = 9007199254740992 * 2 ^ t := mg_mk t _ (by omega) (.inr (by omega))
    have := Rd.exact D (t * 4503599627370496 + 9007199254740992) hD
    rw [e0] at this
    have := hr.mono this hD hD (Nat.mul_le_mul_right _ hz)
    have := K_eq
    omega
  obtain ⟨u, l⟩ := rd_err hr hD hz
  refine ⟨by rw [fin_wd]; simpa using hlt, ?_⟩
  rw [val_wd neg (by omega)]
  have u' : 2 * ((D : Int) * (mg r : Int)) ≤ 2 * (z.natAbs : Int) + (D : Int) * ((2 ^ t : Nat) : Int) := by exact_mod_cast u
  have l' : 2 * (z.natAbs : Int) ≤ 2 * ((D : Int) * (mg r : Int)) + (D : Int) * ((2 ^ t : Nat) : Int) := by exact_mod_cast l
  rcases Int.lt_trichotomy z 0 with h | h | h
  · rw [hn h]
    have e : (z.natAbs : Int) = -z := by omega
    rw [e] at u' l'
    simp only [if_true, Int.mul_neg]
    omega
  · subst h
    have := rd_zero hr hD
    subst this
    have p : (0 : Int) ≤ (D : Int) * ((2 ^ t : Nat) : Int) := Int.mul_nonneg (Int.natCast_nonneg _) (Int.natCast_nonneg _)
    cases neg <;> simp [mg_zero] <;> exact_mod_cast p
  · rw [hp h]
    have e : (z.natAbs : Int) = z := by omega
    rw [e] at u' l'
    simp only [Bool.false_eq_true, if_false]
    omega

/-- Exact. -/
theorem Rnd.exact {z : Int} {D b : Nat} {s : Int} (h : Rnd z D b) (hs : Rep s) (e : z = D * s) : fin b = true ∧ val b = s := by
  obtain ⟨hD, r, neg, hr, rfl, hp, hn⟩ := h
  obtain ⟨k, hk, hk'⟩ := hs
  have : r = k := by
    have := Rd.exact D k hD
    rw [hk] at this
    refine hr.uniq ?_ hD
    rw [e, Int.natAbs_mul, Int.natAbs_natCast]; exact this
  subst this
  refine ⟨by rw [fin_wd]; simpa using hk', ?_⟩
  rw [val_wd neg (by omega), hk]
  have pD : (0 : Int) < D := Int.natCast_pos.2 hD
  rcases Int.lt_trichotomy s 0 with h | h | h
  · have := hn (by rw [e]; exact Int.mul_neg_of_pos_of_neg pD h)
    rw [this]; simp; omega
  · subst h; simp
  · have := hp (by rw [e]; exact Int.mul_pos pD h)
    rw [this]; simp; omega

theorem add_rnd {x y : Nat} (hx : fin x = true) (hy : fin y = true) : ∃ b, Go.floatBits .add .f64 x y = some b ∧ Rnd (val x + val y) 1 b := by
  obtain ⟨r, hr, e⟩ := add_fin hx hy
  refine ⟨_, e, by omega, r, _, hr, rfl, ?_, ?_⟩
  · intro h; rw [if_neg (by omega)]; simp; omega
  · intro h; rw [if_neg (by omega)]; simp; omega
theorem sub_rnd {x y : Nat} (hx : fin x = true) (hy : fin y = true) (ly : y < 18446744073709551616) : ∃ b, Go.floatBits .sub .f64 x y = some b ∧ Rnd (val x - val y) 1 b := by
  have e : Go.floatBits .sub .f64 x y = Go.floatBits .add .f64 x (Go.Op.negFloat .f64 y) := sub_eq x y ly (fin_nan hy)
  rw [e]
  have := add_rnd hx ((fin_neg ly).trans hy)
  rwa [val_neg ly, ← Int.sub_eq_add_neg] at this
theorem int_rnd (n : Int) : Rnd (n * U) 1 (Go.floatOfInt .f64 n) := by
  obtain ⟨r, hr, e⟩ := of_int n
  refine ⟨by omega, r, _, ?_, e, ?_, ?_⟩
  · rw [Int.natAbs_mul, Int.natAbs_natCast]; exact hr
  · intro h
    have : ¬ n < 0 := fun h' => by have := int_mul_lt.2 h'; omega
    simpa using this
  · intro h; simpa using int_mul_lt.1 h
theorem val_sign (b : Nat) : (sg b = true ∧ val b = -(mag b : Int)) ∨ (sg b = false ∧ val b = (mag b : Int)) := by
  unfold val; cases sg b <;> simp
theorem mul_rnd {x y : Nat} (hx : fin x = true) (hy : fin y = true) : ∃ b, Go.floatBits .mul .f64 x y = some b ∧ Rnd (val x * val y) U b := by
  obtain ⟨r, hr, e⟩ := mul_fin hx hy
  refine ⟨_, e, U_pos, r, _, by rw [Int.natAbs_mul, val_nat, val_nat]; exact hr, rfl, ?_⟩
  have nn := Int.mul_nonneg (Int.natCast_nonneg (mag x)) (Int.natCast_nonneg (mag y))
  rcases val_sign x with ⟨s, v⟩ | ⟨s, v⟩ <;> rcases val_sign y with ⟨s', v'⟩ | ⟨s', v'⟩ <;> rw [s, s', v, v'] <;> (try simp only [Int.neg_mul, Int.mul_neg, Int.neg_neg]) <;> exact ⟨fun h => by first | rfl | omega, fun h => by first | rfl | omega⟩
theorem div_rnd {x y : Nat} (hx : fin x = true) (hy : fin y = true) (h0 : 0 < val y) : ∃ b, Go.floatBits .quo .f64 x y = some b ∧ Rnd (val x * U) (val y).toNat b := by
  have hm : mag y ≠ 0 := by rw [← val_nat]; omega
  obtain ⟨r, hr, e⟩ := quo_fin hx hy hm
  have ey : (val y).toNat = mag y := by rw [← val_nat]; omega
  refine ⟨_, e, by omega, r, _, by rw [ey, Int.natAbs_mul, val_nat, Int.natAbs_natCast]; exact hr, rfl, ?_⟩
  have s' : sg y = false := by
    rcases val_sign y with ⟨s, v⟩ | ⟨s, v⟩
    · omega
    · exact s
  rw [s', Bool.xor_false]
  constructor
  · intro h
    rcases val_sign x with ⟨s, v⟩ | ⟨s, v⟩
    · have : ¬ 0 < val x * U := by rw [v, Int.neg_mul]; have := Int.mul_nonneg (Int.natCast_nonneg (mag x)) (Int.natCast_nonneg U); omega
      exact absurd h this
    · exact s
  · intro h
    rcases val_sign x with ⟨s, v⟩ | ⟨s, v⟩
    · exact s
    · have := int_mul_lt.1 h
      omega
end Go.Proofs.Ytjddmcecllhlhaa.Flo
