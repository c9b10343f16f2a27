/-
  Whole numbers as floats: sums, products with 0 and 1, and the share of a span. Plain.
-/
import Derived.Test.YtjddmcecllhlhaaMeaF
import Derived.Test.YtjddmcecllhlhaaFloO
namespace Go.Proofs.Ytjddmcecllhlhaa.Flo
open Ieee Go

theorem Is.pos' {b : Nat} {s : Bool} {z : Int} (h : Is b s z) (hz : z ≠ 0 ∨ s = false) : Is b false z := by
  refine ⟨h.lt, h.fin, h.val, ?_⟩
  rw [h.sg]
  rcases hz with hz | hz
  · rw [if_neg hz, if_neg hz]
  · rw [hz]
theorem nat_sg {a : Int} (h0 : 0 ≤ a) (h : a ≤ 9007199254740992) : sg (floatOfInt .f64 a) = false := by
  rw [(int_is (n := a) (by omega)).sg]
  by_cases h : a * (U : Int) = 0
  · rw [if_pos h]
  · rw [if_neg h]
    have := U_pos
    have : 0 ≤ a * (U : Int) := Int.mul_nonneg h0 (by omega)
    exact decide_eq_false (by omega)
theorem nat_add {a b : Int} (ha : 0 ≤ a) (hb : 0 ≤ b) (hs : a + b ≤ 9007199254740992) : fop .add (some (floatOfInt .f64 a)) (some (floatOfInt .f64 b)) = some (floatOfInt .f64 (a + b)) := by
  have ia := int_is (n := a) (by omega)
  have ib := int_is (n := b) (by omega)
  have is := int_is (n := a + b) (by omega)
  have e : val (floatOfInt .f64 a) + val (floatOfInt .f64 b) = (a + b) * U := by rw [ia.val, ib.val, Int.add_mul]
  obtain ⟨r, hr, ir⟩ := add_is ia.fin ib.fin (by rw [e]; exact rep_int (by omega))
  rw [e, nat_sg ha (by omega)] at ir
  have : r = floatOfInt .f64 (a + b) := (Is.pos' ir (.inr rfl)).eq is
  rw [← this]
  exact hr
theorem foldl_nats : ∀ (l : List Int) (s : Int), 0 ≤ s → (∀ x ∈ l, 0 ≤ x) → s + l.sum ≤ 9007199254740992 → (l.map (floatOfInt .f64)).foldl (fun s y => fop .add s (nz y)) (some (floatOfInt .f64 s)) = some (floatOfInt .f64 (s + l.sum)) := by
  intro l
  induction l with
  | nil => intro s _ _ _; simp
  | cons x l ih =>
    intro s hs hx h
    have hx0 := hx x List.mem_cons_self
    have hl : 0 ≤ l.sum := by
      have : ∀ l : List Int, (∀ x ∈ l, 0 ≤ x) → 0 ≤ l.sum := fun l => by
        induction l with
        | nil => intro _; decide
        | cons y l ih => intro h; rw [List.sum_cons]; have := h y List.mem_cons_self; have := ih (fun z hz => h z (List.mem_cons_of_mem _ hz)); omega
      exact this l (fun z hz => hx z (List.mem_cons_of_mem _ hz))
    rw [List.sum_cons] at *
    rw [List.map_cons, List.foldl_cons, nz_some (int_rnd x).nan, nat_add hs hx0 (by omega), ih (s + x) (by omega) (fun z hz => hx z (List.mem_cons_of_mem _ hz)) (by omega)]
    congr 2
    omega
theorem nat_mul {v n : Int} (hv : v = 0 ∨ v = 1) (h0 : 0 ≤ n) (hn : n ≤ 9007199254740992) : floatBits .mul .f64 (floatOfInt .f64 v) (floatOfInt .f64 n) = some (floatOfInt .f64 (v * n)) := by
  have iv := int_is (n := v) (by omega)
  have i := int_is (n := n) (by omega)
  have hvn : 0 ≤ v * n ∧ v * n ≤ 9007199254740992 := by rcases hv with rfl | rfl <;> omega
  have is := int_is (n := v * n) (by omega)
  obtain ⟨r, hr, er⟩ := mul_rnd iv.fin i.fin
  have e : val (floatOfInt .f64 v) * val (floatOfInt .f64 n) = (U : Nat) * (v * n * U) := by
    rw [iv.val, i.val]
    generalize (U : Int) = u
    rw [Int.mul_assoc v u, Int.mul_left_comm v u, Int.mul_assoc v n u]
  obtain ⟨f, hval⟩ := er.exact (rep_int (n := v * n) (by omega)) e
  obtain ⟨r', hr', hw⟩ := mul_fin iv.fin i.fin
  have hsg : sg r = false := by
    have : r = wd (sg (floatOfInt .f64 v) ^^ sg (floatOfInt .f64 n)) r' := by
      have h2 : floatBits .mul .f64 (floatOfInt .f64 v) (floatOfInt .f64 n) = double.mul (floatOfInt .f64 v) (floatOfInt .f64 n) := rfl
      rw [h2, hw] at hr
      exact (Option.some.inj hr).symm
    rw [this, sg_wd, nat_sg (by omega) (by omega), nat_sg h0 hn]
    rfl
  rw [hr]
  congr 1
  refine word_ext er.lt is.lt ?_ ?_
  · rw [hsg, nat_sg hvn.1 hvn.2]
  · have h1 := val_nat r
    have h2 := val_nat (floatOfInt .f64 (v * n))
    rw [hval] at h1
    rw [is.val] at h2
    omega
theorem U_huge : (9223372036854775808000 : Int) ≤ U := by
  have h1 : (2 : Nat) ^ 73 ≤ 2 ^ K := Nat.pow_le_pow_right (by omega) (by rw [K_eq]; omega)
  have h2 : (9223372036854775808000 : Nat) ≤ U := by rw [U_def]; exact Nat.le_trans (by decide) h1
  omega
/-- The share T of n. -/
theorem share {T n : Int} (h0 : 0 ≤ T) (h1 : T ≤ n) (h2 : 1 ≤ n) (h3 : n ≤ 9007199254740992) :
    ∃ m, floatBits .quo .f64 (floatOfInt .f64 T) (floatOfInt .f64 n) = some m ∧ m < 18446744073709551616 ∧ isnan m = false ∧ floatBits .sub .f64 m m = some 0 ∧ (double.order m 0 == some .eq) = decide (T = 0) := by
  have iT := int_is (n := T) (by omega)
  have i := int_is (n := n) (by omega)
  have pU : (0 : Int) < U := by have := U_pos; omega
  have hU := U_big
  have hn : 0 < val (floatOfInt .f64 n) := by rw [i.val]; exact Int.mul_pos (by omega) pU
  obtain ⟨m, hm, rm⟩ := div_rnd iT.fin i.fin hn
  have eD : ((val (floatOfInt .f64 n)).toNat : Int) = n * U := by rw [i.val] at hn ⊢; omega
  have z0 : 0 ≤ val (floatOfInt .f64 T) * (U : Int) := by rw [iT.val]; exact Int.mul_nonneg (Int.mul_nonneg h0 (by omega)) (by omega)
  have zle : val (floatOfInt .f64 T) * (U : Int) ≤ ((val (floatOfInt .f64 n)).toNat : Int) * U := by
    rw [iT.val, eD]
    exact Int.mul_le_mul_of_nonneg_right (Int.mul_le_mul_of_nonneg_right h1 (by omega)) (by omega)
  obtain ⟨fm, u, v⟩ := rm.close (y := val (floatOfInt .f64 T) * (U : Int)) (by omega) (big_ok zle (by omega))
  refine ⟨m, hm, rm.lt, fin_nan fm, ?_, ?_⟩
  · obtain ⟨b, hb, ib⟩ := sub_is fm fm rm.lt (by rw [Int.sub_self]; exact ⟨0, rfl, by decide⟩)
    rw [Int.sub_self] at ib
    have z : Is 0 false 0 := ⟨by decide, by decide +kernel, by decide +kernel, by decide +kernel⟩
    have : b = 0 := (Is.pos' ib (.inr (by cases sg m <;> rfl))).eq z
    rw [← this]
    exact hb
  · rw [order_val (fin_nan fm) (by decide +kernel), show val 0 = 0 by decide +kernel]
    by_cases hT : T = 0
    · rw [decide_eq_true hT]
      have e0 : val m = 0 := by
        obtain ⟨_, h⟩ := rm.exact (s := 0) ⟨0, rfl, by decide⟩ (by rw [iT.val, hT]; simp)
        exact h
      rw [e0]
      rfl
    · rw [decide_eq_false hT]
      have hne : val m ≠ 0 := by
        intro e0
        rw [e0, iT.val, eD] at v
        have a1 : 1 * (U : Int) ≤ T * U := Int.mul_le_mul_of_nonneg_right (by omega) (by omega)
        have a2 : (1 * (U : Int)) * U ≤ T * U * U := Int.mul_le_mul_of_nonneg_right a1 (by omega)
        have a3 : n * (U : Int) ≤ 9007199254740992 * U := Int.mul_le_mul_of_nonneg_right h3 (by omega)
        have a4 : (9223372036854775808000 : Int) * U ≤ U * U := Int.mul_le_mul_of_nonneg_right (by have := U_huge; omega) (by omega)
        rw [Int.one_mul] at a2
        rw [Int.mul_zero] at v
        generalize T * (U : Int) * U = X at *
        generalize (U : Int) * U = Y at *
        generalize n * (U : Int) = Z at *
        omega
      have : compare (val m) 0 ≠ .eq := by
        intro h
        exact hne (by
          have h' : compareOfLessAndEq (val m) 0 = .eq := h
          unfold compareOfLessAndEq at h'
          split at h'
          · cases h'
          · first | cases h' | (split at h' <;> first | assumption | cases h'))
      cases h : compare (val m) 0 with
      | lt => rfl
      | eq => exact absurd h this
      | gt => rfl
end Go.Proofs.Ytjddmcecllhlhaa.Flo
