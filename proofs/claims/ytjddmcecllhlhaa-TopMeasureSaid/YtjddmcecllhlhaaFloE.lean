/-
  Whole numbers: of integers, to integers, rounded; opposites.
-/
import Derived.Test.YtjddmcecllhlhaaFloD
namespace Go.Proofs.Ytjddmcecllhlhaa.Flo
open Ieee

theorem of_int (n : Int) : ∃ r, Rd (n.natAbs * U) 1 r ∧ Go.floatOfInt .f64 n = wd (decide (n < 0)) r := by
  obtain ⟨r, hr, e⟩ := nearest_wd (decide (n < 0)) n.natAbs 0 (n.natAbs * U) 1 (by omega) (by
    rw [U_def, Nat.mul_one, show (0 + 1074 : Int).toNat = K from rfl]; simp)
  exact ⟨r, hr, e⟩

theorem rep_int {n : Int} (h : n.natAbs ≤ 9007199254740992) : Rep (n * U) :=
  rep_mk n.natAbs K _ h (by omega) (by rw [Int.natAbs_mul, Int.natAbs_natCast, U_def])
theorem int_mul_lt {n : Int} : n * (U : Int) < 0 ↔ n < 0 := by
  have h : (0 : Int) < U := Int.natCast_pos.2 U_pos
  constructor
  · intro h'
    by_cases hn : n < 0
    · exact hn
    · have := Int.mul_nonneg (show 0 ≤ n by omega) (Int.le_of_lt h); omega
  · intro h'; exact Int.mul_neg_of_neg_of_pos h' h
theorem int_mul_zero {n : Int} : n * (U : Int) = 0 ↔ n = 0 := by
  have h : (0 : Int) < U := Int.natCast_pos.2 U_pos
  constructor
  · intro h'
    rcases Int.mul_eq_zero.1 h' with h' | h' <;> omega
  · rintro rfl; simp
theorem int_is {n : Int} (h : n.natAbs ≤ 9007199254740992) : Is (Go.floatOfInt .f64 n) false (n * U) := by
  obtain ⟨r, hr, e⟩ := of_int n
  obtain ⟨s, hs, hs'⟩ := rep_int h
  rw [Int.natAbs_mul, Int.natAbs_natCast] at hs
  obtain rfl := rd_exact hr hs
  rw [e]
  have := is_wd (neg0 := false) (z := n * U) (r := r) (by rw [hs, Int.natAbs_mul, Int.natAbs_natCast]) hs'
  simp only [int_mul_lt, int_mul_zero] at this
  have e : (if n = 0 then false else decide (n < 0)) = decide (n < 0) := by
    by_cases h0 : n = 0
    · subst h0; rfl
    · rw [if_neg h0]
  rwa [e] at this

/-- A magnitude made whole. -/
def upB (way : Toward) (neg : Bool) (low rest gap : Nat) : Bool :=
  match way with
  | .even => decide (gap < 2 * rest) || (gap == 2 * rest && low % 2 == 1)
  | .down => neg && rest != 0
  | .up => !neg && rest != 0
  | .zero => false
def rnd (way : Toward) (neg : Bool) (M : Nat) : Nat := M / U + (upB way neg (M / U) (M % U) U).toNat

theorem cut_any (way : Toward) (neg : Bool) (n drop : Nat) : way.cut neg n drop = n / 2 ^ drop + (upB way neg (n / 2 ^ drop) (n % 2 ^ drop) (2 ^ drop)).toNat := by
  have main : way.cut neg n drop = n / (1 <<< min drop (n.log2 + 2)) + (upB way neg (n / (1 <<< min drop (n.log2 + 2))) (n % (1 <<< min drop (n.log2 + 2))) (1 <<< min drop (n.log2 + 2))).toNat := by
    unfold Toward.cut upB
    cases way <;> rfl
  rw [main]
  simp only [Nat.shiftLeft_eq, Nat.one_mul]
  by_cases hd : drop ≤ n.log2 + 2
  · rw [Nat.min_eq_left hd]
  · rw [Nat.min_eq_right (by omega)]
    have hn : n < 2 ^ (n.log2 + 1) := Nat.lt_log2_self
    have e1 : (2 : Nat) ^ (n.log2 + 2) = 2 * 2 ^ (n.log2 + 1) := by rw [Nat.pow_succ, Nat.mul_comm]
    have e2 : (2 : Nat) ^ (n.log2 + 2) ≤ 2 ^ drop := Nat.pow_le_pow_right (by omega) (by omega)
    have d1 : n / 2 ^ (n.log2 + 2) = 0 := Nat.div_eq_of_lt (by omega)
    have d2 : n / 2 ^ drop = 0 := Nat.div_eq_of_lt (by omega)
    have d3 : n % 2 ^ (n.log2 + 2) = n := Nat.mod_eq_of_lt (by omega)
    have d4 : n % 2 ^ drop = n := Nat.mod_eq_of_lt (by omega)
    rw [d1, d2, d3, d4]
    cases way <;> unfold upB <;> simp
    have : ¬ 2 ^ (n.log2 + 2) < 2 * n := by omega
    have : ¬ 2 ^ drop < 2 * n := by omega
    simp [*]
    omega

theorem upB_scale (way : Toward) (neg : Bool) (low rest gap c : Nat) (hc : 0 < c) : upB way neg low (rest * c) (gap * c) = upB way neg low rest gap := by
  have e : 2 * (rest * c) = 2 * rest * c := by rw [Nat.mul_assoc]
  have z : (rest * c != 0) = (rest != 0) := by
    by_cases h : rest = 0
    · simp [h]
    · have : rest * c ≠ 0 := by
        intro h'
        rcases Nat.mul_eq_zero.1 h' with h' | h' <;> omega
      rw [Bool.eq_iff_iff, bne_iff_ne, bne_iff_ne]; exact ⟨fun _ => h, fun _ => this⟩
  unfold upB
  cases way
  · simp only [e]
    have l : gap * c < 2 * rest * c ↔ gap < 2 * rest := ⟨fun h => Nat.lt_of_mul_lt_mul_right h, fun h => Nat.mul_lt_mul_of_pos_right h hc⟩
    have q : (gap * c == 2 * rest * c) = (gap == 2 * rest) := by
      by_cases h : gap = 2 * rest
      · simp [h]
      · have : gap * c ≠ 2 * rest * c := fun h' => h (Nat.eq_of_mul_eq_mul_right hc h')
        rw [Bool.eq_iff_iff, beq_iff_eq, beq_iff_eq]; exact ⟨fun h' => absurd h' this, fun h' => absurd h' h⟩
    simp only [l, q]
  · simp only [z]
  · simp only [z]
  · rfl

theorem integral_fin {b : Nat} (h : fin b = true) (way : Toward) : (double.read b).integral way = .number (sg b) (rnd way (sg b) (mag b)) 0 := by
  obtain ⟨m, i, e, hi, hm, _⟩ := read_fin h
  rw [e]
  simp only [Datum.integral]
  rw [cut_any, Nat.shiftLeft_eq]
  congr 1
  unfold rnd
  have eM : mag b = m * 2 ^ i.toNat * 2 ^ (K - (-i).toNat) := by
    rw [← hm, Nat.mul_assoc, ← Nat.pow_add]
    have := K_eq
    congr 2; omega
  have eU : U = 2 ^ (-i).toNat * 2 ^ (K - (-i).toNat) := by
    rw [U_def, ← Nat.pow_add]
    have := K_eq
    congr 1; omega
  have hc := two_pow_pos (K - (-i).toNat)
  generalize 2 ^ (K - (-i).toNat) = c at *
  generalize m * 2 ^ i.toNat = n at *
  have hg := two_pow_pos (-i).toNat
  generalize 2 ^ (-i).toNat = g at *
  rw [eM, eU, Nat.mul_div_mul_right _ _ hc, Nat.mul_mod_mul_right, upB_scale _ _ _ _ _ _ hc]

theorem big_whole {b : Nat} (h : 4503599627370496 * U ≤ mag b) : mag b % U = 0 := by
  obtain ⟨t, q, e, hq, hq'⟩ := rung_form (rg b)
  have em : mag b = q * 2 ^ t := by unfold mag; rw [e]; exact mg_mk t q (by omega) hq'
  have ht : K ≤ t := by
    refine Nat.le_of_not_lt fun hlt => ?_
    have p1 : (2 : Nat) ^ t * 2 ≤ U := by
      rw [U_def, ← Nat.pow_succ]; exact Nat.pow_le_pow_right (by omega) hlt
    have p2 : q * 2 ^ t < 9007199254740992 * 2 ^ t := Nat.mul_lt_mul_of_pos_right hq (two_pow_pos _)
    rw [em] at h
    omega
  rw [em, show t = (t - K) + K by omega, Nat.pow_add, ← Nat.mul_assoc, ← U_def, Nat.mul_mod_left]

/-- What a finite number is rounded to. -/
theorem round_is {b : Nat} (h : fin b = true) (way : Toward) : ∃ y, double.write ((double.read b).integral way) = y ∧ y < 18446744073709551616 ∧ fin y = true ∧ sg y = sg b ∧ mag y = rnd way (sg b) (mag b) * U := by
  rw [integral_fin h]
  simp only [Format.write]
  obtain ⟨r, hr, e⟩ := nearest_wd (sg b) (rnd way (sg b) (mag b)) 0 (rnd way (sg b) (mag b) * U) 1 (by omega) (by
    rw [U_def, Nat.mul_one, show (0 + 1074 : Int).toNat = K from rfl]; simp)
  have hrep : ∃ s, mg s = rnd way (sg b) (mag b) * U ∧ s < 9218868437227405312 := by
    by_cases hb : mag b < 4503599627370496 * U
    · have h1 : mag b / U < 4503599627370496 := (Nat.div_lt_iff_lt_mul U_pos).2 hb
      have h2 : rnd way (sg b) (mag b) ≤ 9007199254740992 := by
        unfold rnd
        have := Bool.toNat_le (upB way (sg b) (mag b / U) (mag b % U) U)
        omega
      obtain ⟨s, hs, hs'⟩ := rep_int (n := rnd way (sg b) (mag b)) (by simpa using h2)
      exact ⟨s, by rw [hs, Int.natAbs_mul, Int.natAbs_natCast, Int.natAbs_natCast], hs'⟩
    · have hw := big_whole (b := b) (by omega)
      have h3 : rnd way (sg b) (mag b) * U = mag b := by
        unfold rnd
        rw [hw]
        have : upB way (sg b) (mag b / U) 0 U = false := by
          have := U_pos
          unfold upB; cases way <;> simp <;> omega
        rw [this]
        have := Nat.div_add_mod (mag b) U
        rw [hw] at this
        simp
        rw [Nat.mul_comm]; omega
      exact ⟨rg b, by rw [h3]; rfl, by unfold fin at h; simpa using h⟩
  obtain ⟨s, hs, hs'⟩ := hrep
  obtain rfl := rd_exact hr hs
  refine ⟨_, rfl, ?_⟩
  rw [e]
  exact ⟨wd_lt _ _, by rw [fin_wd]; simpa using hs', sg_wd _ _, by rw [mag_wd _ (by omega), hs]⟩

theorem toInt_fin {b : Nat} (h : fin b = true) : (double.read b).toInt .zero = some (if sg b = true then -((mag b / U : Nat) : Int) else (mag b / U : Nat)) := by
  unfold Datum.toInt
  rw [integral_fin h]
  have : rnd .zero (sg b) (mag b) = mag b / U := by unfold rnd upB; simp
  rw [this]
  simp only [signed]
  simp
theorem toInt_inf {b : Nat} (h : rg b = 9218868437227405312) (way : Toward) : (double.read b).toInt way = none := by
  rw [read_inf h]; rfl
theorem toInt_nan {b : Nat} (h : isnan b = true) (way : Toward) : (double.read b).toInt way = none := by
  rw [read_nan h]; rfl

/-- The opposite. -/
theorem neg_eq {b : Nat} (hb : b < 18446744073709551616) : Go.Op.negFloat .f64 b = if b < 9223372036854775808 then b + 9223372036854775808 else b - 9223372036854775808 := by
  have key : ∀ c, c < 9223372036854775808 → c ^^^ 9223372036854775808 = c + 9223372036854775808 := by
    intro c hc
    have e : (9223372036854775808 : Nat) = 2 ^ 63 := by decide
    rw [e] at hc ⊢
    apply Nat.eq_of_testBit_eq
    intro i
    rw [Nat.testBit_xor, Nat.testBit_two_pow, Nat.add_comm]
    rcases Nat.lt_trichotomy i 63 with h | h | h
    · rw [Nat.testBit_two_pow_add_gt h]
      have : ¬ 63 = i := by omega
      simp [this]
    · subst h
      rw [Nat.testBit_two_pow_add_eq]; simp
    · have h1 : c.testBit i = false := Nat.testBit_lt_two_pow (Nat.lt_trans hc (Nat.pow_lt_pow_right (by omega) h))
      have h2 : (2 ^ 63 + c).testBit i = false := Nat.testBit_lt_two_pow (Nat.lt_of_lt_of_le (show 2 ^ 63 + c < 2 ^ 64 by omega) (Nat.pow_le_pow_right (by omega) h))
      have : ¬ 63 = i := by omega
      rw [h1, h2]; simp [this]
  have e : Go.Op.negFloat .f64 b = b ^^^ 9223372036854775808 := rfl
  rw [e]
  by_cases h : b < 9223372036854775808
  · rw [if_pos h, key b h]
  · rw [if_neg h]
    have := key (b - 9223372036854775808) (by omega)
    rw [show b = (b - 9223372036854775808) + 9223372036854775808 by omega, ← this, Nat.xor_assoc, Nat.xor_self, Nat.xor_zero, this]
    omega
theorem neg_lt {b : Nat} (hb : b < 18446744073709551616) : Go.Op.negFloat .f64 b < 18446744073709551616 := by
  rw [neg_eq hb]; split <;> omega
theorem sg_neg {b : Nat} (hb : b < 18446744073709551616) : sg (Go.Op.negFloat .f64 b) = !sg b := by
  rw [neg_eq hb]; unfold sg
  by_cases h : b < 9223372036854775808
  · rw [if_pos h]
    have e1 : b / 9223372036854775808 % 2 = 0 := by omega
    have e2 : (b + 9223372036854775808) / 9223372036854775808 % 2 = 1 := by omega
    rw [e1, e2]; rfl
  · rw [if_neg h]
    have e1 : b / 9223372036854775808 % 2 = 1 := by omega
    have e2 : (b - 9223372036854775808) / 9223372036854775808 % 2 = 0 := by omega
    rw [e1, e2]; rfl
theorem rg_neg {b : Nat} (hb : b < 18446744073709551616) : rg (Go.Op.negFloat .f64 b) = rg b := by
  rw [neg_eq hb]; unfold rg; split <;> omega
theorem mag_neg {b : Nat} (hb : b < 18446744073709551616) : mag (Go.Op.negFloat .f64 b) = mag b := by
  unfold mag; rw [rg_neg hb]

theorem sub_eq (x y : Nat) (hy : y < 18446744073709551616) (hn : isnan y = false) : double.sub x y = double.add x (Go.Op.negFloat .f64 y) := by
  unfold Format.sub Format.add
  congr 2
  have s := sg_neg hy
  have r := rg_neg hy
  rw [read_eq y, read_eq (Go.Op.negFloat .f64 y), s, r]
  unfold isnan at hn; simp at hn
  by_cases h1 : rg y < 4503599627370496
  · simp [h1, Datum.opposite]
  · by_cases h2 : rg y < 9218868437227405312
    · simp [h1, h2, Datum.opposite]
    · have h3 : rg y = 9218868437227405312 := by omega
      simp [h3, Datum.opposite]
theorem val_neg {b : Nat} (hb : b < 18446744073709551616) : val (Go.Op.negFloat .f64 b) = -val b := by
  unfold val; rw [sg_neg hb, mag_neg hb]; cases sg b <;> simp
theorem fin_neg {b : Nat} (hb : b < 18446744073709551616) : fin (Go.Op.negFloat .f64 b) = fin b := by unfold fin; rw [rg_neg hb]
theorem nan_neg {b : Nat} (hb : b < 18446744073709551616) : isnan (Go.Op.negFloat .f64 b) = isnan b := by unfold isnan; rw [rg_neg hb]

theorem sub_is {x y : Nat} (hx : fin x = true) (hy : fin y = true) (ly : y < 18446744073709551616) (h : Rep (val x - val y)) : ∃ b, double.sub x y = some b ∧ Is b (sg x && !sg y) (val x - val y) := by
  rw [sub_eq x y ly (fin_nan hy)]
  have hz : val x + val (Go.Op.negFloat .f64 y) = val x - val y := by rw [val_neg ly]; omega
  have := add_is hx ((fin_neg ly).trans hy) (by rw [hz]; exact h)
  rwa [hz, sg_neg ly] at this
end Go.Proofs.Ytjddmcecllhlhaa.Flo
