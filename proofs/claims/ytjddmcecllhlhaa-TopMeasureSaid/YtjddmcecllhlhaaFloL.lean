/-
  Floats.
-/
import Derived.Test.YtjddmcecllhlhaaFloK
namespace Go.Proofs.Ytjddmcecllhlhaa.Flo
open Ieee

theorem ov_lt {a b : Nat} (ha : isnan a = false) (hb : isnan b = false) : (double.order a b == some .lt) = decide (val a < val b) := by
  rw [ord_lt ha hb]; exact decide_eq_decide.2 (val_lt ha hb).symm
theorem ov_gt {a b : Nat} (ha : isnan a = false) (hb : isnan b = false) : (double.order a b == some .gt) = decide (val b < val a) := by
  rw [ord_gt ha hb]; exact decide_eq_decide.2 (val_lt hb ha).symm
theorem ov_eq {a b : Nat} (ha : isnan a = false) (hb : isnan b = false) : (double.order a b == some .eq) = decide (val a = val b) := by
  rw [ord_eq ha hb]; exact decide_eq_decide.2 (val_eq ha hb).symm

theorem i_0 : isnan 0 = false ∧ val 0 = 0 := by
  refine ⟨by decide, ?_⟩
  unfold val mag
  rw [show rg 0 = 0 from rfl, mg_zero]; rfl
theorem i_H : isnan 4602678819172646912 = false ∧ val 4602678819172646912 = (H : Int) := ⟨fin_nan half_is.fin, half_is.val⟩
theorem i_mH : isnan 13826050856027422720 = false ∧ val 13826050856027422720 = -(H : Int) := ⟨fin_nan mhalf_is.fin, mhalf_is.val⟩
theorem is_neg {b : Nat} {z : Int} (h : Is b false z) (hz : z ≠ 0) : Is (Go.Op.negFloat .f64 b) false (-z) := by
  refine ⟨neg_lt h.lt, (fin_neg h.lt).trans h.fin, by rw [val_neg h.lt, h.val], ?_⟩
  rw [sg_neg h.lt, h.sg, if_neg hz, if_neg (by omega)]
  by_cases h' : z < 0
  · rw [decide_eq_true h', decide_eq_false (by omega)]; rfl
  · rw [decide_eq_false h', decide_eq_true (by omega)]; rfl
/-- 2 ^ 52 and 2 ^ 63, and their opposites. -/
theorem i_52 : isnan 4841369599423283200 = false ∧ val 4841369599423283200 = 4503599627370496 * (U : Int) := by
  have h := const_is 4841369599423283200 K 4503599627370496 (by rw [K_eq]) (by omega) (by omega) (by rw [K_eq]; omega)
  exact ⟨fin_nan h.fin, by rw [h.val, Int.natCast_mul]; rfl⟩
theorem i_m52 : isnan 14064741636278059008 = false ∧ val 14064741636278059008 = -(4503599627370496 * (U : Int)) := by
  have e : Go.Op.negFloat .f64 4841369599423283200 = 14064741636278059008 := by rw [neg_eq (by omega)]; rfl
  rw [← e, nan_neg (by omega), val_neg (by omega), i_52.2]
  exact ⟨i_52.1, rfl⟩
theorem i_63 : isnan 4890909195324358656 = false ∧ val 4890909195324358656 = 9223372036854775808 * (U : Int) := by
  have h := const_is 4890909195324358656 (K + 11) 4503599627370496 (by rw [K_eq]) (by omega) (by omega) (by rw [K_eq]; omega)
  refine ⟨fin_nan h.fin, ?_⟩
  rw [h.val, Nat.pow_add, Nat.mul_comm (2 ^ K), ← Nat.mul_assoc, Int.natCast_mul]; rfl
theorem i_m63 : isnan 14114281232179134464 = false ∧ val 14114281232179134464 = -(9223372036854775808 * (U : Int)) := by
  have e : Go.Op.negFloat .f64 4890909195324358656 = 14114281232179134464 := by rw [neg_eq (by omega)]; rfl
  rw [← e, nan_neg (by omega), val_neg (by omega), i_63.2]
  exact ⟨i_63.1, rfl⟩

theorem mul_U_lt {a b : Int} : a * (U : Int) < b * U ↔ a < b := by
  have h : (0 : Int) < U := Int.natCast_pos.2 U_pos
  exact ⟨fun h' => Int.lt_of_mul_lt_mul_right h' (Int.le_of_lt h), fun h' => Int.mul_lt_mul_of_pos_right h' h⟩
theorem mul_U_eq {a b : Int} : a * (U : Int) = b * U ↔ a = b := by
  have h : (U : Int) ≠ 0 := by have := U_pos; omega
  exact ⟨fun h' => Int.eq_of_mul_eq_mul_right h h', fun h' => by rw [h']⟩

theorem rnd_dvd {b : Nat} (way : Toward) (n : Bool) (h : mag b % U = 0) : rnd way n (mag b) * U = mag b := by
  unfold rnd
  rw [h]
  have : upB way n (mag b / U) 0 U = false := by
    have := U_pos
    unfold upB; cases way <;> simp <;> omega
  rw [this]
  have := Nat.div_add_mod (mag b) U
  rw [h] at this
  simp
  rw [Nat.mul_comm]; omega
theorem rndI_nat (way : Toward) (b : Nat) : (rndI way b).natAbs = rnd way (sg b) (mag b) := by
  unfold rndI; cases sg b <;> simp
theorem rndI_le (way : Toward) {b : Nat} (h : mag b < 4503599627370496 * U) : (rndI way b).natAbs ≤ 4503599627370496 := by
  rw [rndI_nat]
  have h1 : mag b / U < 4503599627370496 := (Nat.div_lt_iff_lt_mul U_pos).2 h
  unfold rnd
  have := Bool.toNat_le (upB way (sg b) (mag b / U) (mag b % U) U)
  omega

/-- What a finite number is rounded to: the word. -/
theorem round_word {b : Nat} (hf : fin b = true) (way : Toward) : ∃ y, double.write ((double.read b).integral way) = y ∧ y < 18446744073709551616 ∧ fin y = true ∧ sg y = sg b ∧ mag y = rnd way (sg b) (mag b) * U ∧ val y = rndI way b * U ∧ tr y = rndI way b := by
  obtain ⟨y, e, hl, fy, hs, hm⟩ := round_is hf way
  refine ⟨y, e, hl, fy, hs, hm, round_val way hs hm, ?_⟩
  unfold tr rndI
  rw [hs, hm, Nat.mul_div_cancel _ U_pos]
  cases sg b <;> rfl
theorem round_self {b : Nat} (hb : b < 18446744073709551616) (hf : fin b = true) (way : Toward) (h : mag b % U = 0) : double.write ((double.read b).integral way) = b := by
  obtain ⟨y, e, hl, fy, hs, hm⟩ := round_is hf way
  rw [e]
  exact word_ext hl hb hs (by rw [hm, rnd_dvd way _ h])
theorem round_inf {b : Nat} (hb : b < 18446744073709551616) (h : rg b = 9218868437227405312) (way : Toward) : double.write ((double.read b).integral way) = b := by
  rw [read_inf h]
  show double.word (sg b) double.infRung = b
  have := wd_sg_rg b hb (by unfold isnan; simp; omega)
  rw [h] at this
  rw [inf_eq]; exact this

/-- The reference's last steps: a whole number as a word, with the number's sign at 0. -/
theorem round_ref {b : Nat} (hf : fin b = true) (hm : mag b < 4503599627370496 * U) (way : Toward) {c : Nat} (hc : Is c false (rndI way b * U)) :
    double.write ((double.read b).integral way) = if rndI way b = 0 ∧ sg b = true then Go.Op.negFloat .f64 c else c := by
  obtain ⟨y, e, hl, fy, hs, hmy, hv, _⟩ := round_word hf way
  rw [e]
  have hmc : mag c = mag y := by rw [← val_nat, ← val_nat, hc.val, hv]
  by_cases h0 : rndI way b = 0
  · have hsc : sg c = false := by rw [hc.sg, if_pos (by rw [h0]; simp)]
    cases hb : sg b
    · rw [if_neg (by simp)]
      exact word_ext hl hc.lt (by rw [hs, hb, hsc]) hmc.symm
    · rw [if_pos ⟨h0, rfl⟩]
      exact word_ext hl (neg_lt hc.lt) (by rw [hs, hb, sg_neg hc.lt, hsc]; rfl) (by rw [mag_neg hc.lt, hmc])
  · rw [if_neg (fun h => h0 h.1)]
    refine word_ext hl hc.lt ?_ hmc.symm
    have hz : ¬ rndI way b * (U : Int) = 0 := fun h => h0 (int_mul_zero.1 h)
    rw [hs, hc.sg, if_neg hz]
    have : (rndI way b * (U : Int) < 0) ↔ rndI way b < 0 := int_mul_lt
    rw [decide_eq_decide.2 this]
    have hr : (sg b = true → rndI way b = -(rnd way true (mag b) : Int)) ∧ (sg b = false → rndI way b = (rnd way false (mag b) : Int)) := by
      unfold rndI; exact ⟨fun h => by rw [h]; rfl, fun h => by rw [h]; rfl⟩
    cases hb : sg b
    · have := hr.2 hb
      exact (decide_eq_false (by omega)).symm
    · have := hr.1 hb
      exact (decide_eq_true (by omega)).symm
theorem kinds_fin {b : Nat} (h : knd b = 2 ∨ knd b = 5) : fin b = true ∧ (sg b = true ↔ knd b = 2) ∧ 0 < mag b := by
  have : 0 < rg b → 0 < mag b := fun h => Nat.pos_of_ne_zero fun h' => by have := mag_zero.1 h'; omega
  rcases knd_cases b with ⟨n, k, p⟩ | ⟨n, r, s, k, p⟩ | ⟨n, r0, r, s, k, p⟩ | ⟨n, r, s, k, p⟩ | ⟨n, r, s, k, p⟩ | ⟨n, r0, r, s, k, p⟩ | ⟨n, r, s, k, p⟩
  all_goals first
    | (exfalso; omega)
    | exact ⟨by unfold fin; simpa using r, by simp [s, k], this r0⟩
theorem kinds_self {b : Nat} (hb : b < 18446744073709551616) (h : knd b ≠ 0) (h2 : knd b ≠ 2) (h5 : knd b ≠ 5) (way : Toward) : double.write ((double.read b).integral way) = b := by
  rcases knd_cases b with ⟨n, k, p⟩ | ⟨n, r, s, k, p⟩ | ⟨n, r0, r, s, k, p⟩ | ⟨n, r, s, k, p⟩ | ⟨n, r, s, k, p⟩ | ⟨n, r0, r, s, k, p⟩ | ⟨n, r, s, k, p⟩
  all_goals first
    | (exfalso; omega)
    | exact round_inf hb r way
    | (refine round_self hb (by unfold fin; simp; omega) way ?_
       have : mag b = 0 := mag_zero.2 r
       rw [this]; simp)
/-- An integer of a word. -/
theorem conv_of {y : Nat} (hf : fin y = true) (h : -9223372036854775808 ≤ tr y ∧ tr y ≤ 9223372036854775807) : Go.floatToIntVal .f64 y .i64 = some (tr y) := by
  unfold Go.floatToIntVal
  have : (Go.FloatKind.f64.decode y).toInt .zero = some (tr y) := toInt_tr hf
  rw [this]
  exact if_pos h
end Go.Proofs.Ytjddmcecllhlhaa.Flo
