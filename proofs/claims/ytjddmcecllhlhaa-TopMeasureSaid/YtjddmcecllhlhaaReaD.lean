/-
  Contracts of Whole and of the reference's rounding.
-/
import Derived.Test.YtjddmcecllhlhaaReaC
import Derived.Test.YtjddmcecllhlhaaFloL
namespace Go.Proofs.Ytjddmcecllhlhaa
open Go.RowKit Flo
attribute [local go_sem] unary_neg_float
/-- What a number is told as, as a whole one; and the error. -/
def whE (b : Nat) (m : Int) : Int := if modB m = true then (if isnan b = true then 18 else if isinf b = false ∧ -9223372036854775808 ≤ rndI (wayM m) b ∧ rndI (wayM m) b ≤ 9223372036854775807 then 0 else 1) else 4
def whV (b : Nat) (m : Int) : Int := if whE b m = 0 then rndI (wayM m) b else 0

/-- A rounded number and the ends of the whole ones. -/
theorem ends_fin {b : Nat} (hf : fin b = true) (way : Ieee.Toward) : ∃ y, rdW way b = some y ∧ y < 18446744073709551616 ∧ isnan y = false ∧
    (FloatKind.f64.format.order y 4890909195324358656 == some Ordering.gt) = decide (9223372036854775808 < rndI way b) ∧ (FloatKind.f64.format.order y 4890909195324358656 == some Ordering.eq) = (rndI way b == 9223372036854775808) ∧
    (FloatKind.f64.format.order y 14114281232179134464 == some Ordering.lt) = decide (rndI way b < -9223372036854775808) ∧
    (-9223372036854775808 ≤ rndI way b ∧ rndI way b ≤ 9223372036854775807 → ∀ w : World, (convert 35 2 (.float .f64 y)).run Try.prog w = .ok (.int .i64 (rndI way b)) w) := by
  obtain ⟨y, e, hl, fy, hs, hm, hv, ht⟩ := round_word hf way
  have ny := fin_nan fy
  refine ⟨y, by simp [rdW, fin_nan hf, e], hl, ny, ?_, ?_, ?_, ?_⟩
  · have := ov_gt ny i_63.1
    rw [i_63.2, hv] at this
    exact this.trans (decide_eq_decide.2 mul_U_lt)
  · have := ov_eq ny i_63.1
    rw [i_63.2, hv] at this
    refine this.trans ?_
    rw [Bool.eq_iff_iff, decide_eq_true_iff, mul_U_eq, beq_iff_eq]
  · have := ov_lt ny i_m63.1
    rw [i_m63.2, hv, ← Int.neg_mul] at this
    exact this.trans (decide_eq_decide.2 mul_U_lt)
  · intro h w
    refine run_convert_float_int w _ _ _ _ _ _ (by kernel_rfl) (by kernel_rfl) ?_
    have := conv_of fy (by rw [ht]; exact h)
    rw [ht] at this; exact this
theorem ends_inf {b : Nat} (hb : b < 18446744073709551616) (hi : isnan b = false ∧ rg b = 9218868437227405312) (way : Ieee.Toward) : rdW way b = some b ∧
    (((FloatKind.f64.format.order b 4890909195324358656 == some Ordering.gt) = true ∧ (FloatKind.f64.format.order b 14114281232179134464 == some Ordering.lt) = false) ∨ ((FloatKind.f64.format.order b 4890909195324358656 == some Ordering.gt) = false ∧ (FloatKind.f64.format.order b 4890909195324358656 == some Ordering.eq) = false ∧ (FloatKind.f64.format.order b 14114281232179134464 == some Ordering.lt) = true)) := by
  refine ⟨by simp [rdW, hi.1, round_inf hb hi.2], ?_⟩
  have c1 : isnan 4890909195324358656 = false ∧ rg 4890909195324358656 = 4890909195324358656 ∧ plc 4890909195324358656 = 4890909195324358656 := by decide
  have c2 : isnan 14114281232179134464 = false ∧ rg 14114281232179134464 = 4890909195324358656 ∧ plc 14114281232179134464 = -4890909195324358657 := by decide
  have g := ord_gt hi.1 c1.1
  have e := ord_eq hi.1 c1.1
  have l := ord_lt hi.1 c2.1
  have p := plc_num hi.1
  rw [c1.2.1, c1.2.2, hi.2] at g e
  rw [c2.2.1, c2.2.2, hi.2] at l
  rw [hi.2] at p
  rcases p with ⟨_, p, _⟩ | ⟨_, p, _⟩
  · rw [p] at g e l
    exact .inr ⟨g, e, l⟩
  · rw [p] at g e l
    exact .inl ⟨g, l⟩
theorem whE_n {b : Nat} {m : Int} (h : modB m = false) : whE b m = 4 ∧ whV b m = 0 := by
  have e : whE b m = 4 := by simp [whE, h]
  exact ⟨e, by simp [whV, e]⟩
theorem whE_nan {b : Nat} {m : Int} (h : modB m = true) (hn : isnan b = true) : whE b m = 18 ∧ whV b m = 0 := by
  have e : whE b m = 18 := by simp [whE, h, hn]
  exact ⟨e, by simp [whV, e]⟩
theorem whE_r {b : Nat} {m : Int} (h : modB m = true) (hn : isnan b = false) (hr : ¬ (isinf b = false ∧ -9223372036854775808 ≤ rndI (wayM m) b ∧ rndI (wayM m) b ≤ 9223372036854775807)) : whE b m = 1 ∧ whV b m = 0 := by
  have e : whE b m = 1 := by unfold whE; rw [if_pos h, hn, if_neg (by simp), if_neg hr]
  exact ⟨e, by simp [whV, e]⟩
theorem whE_y {b : Nat} {m : Int} (h : modB m = true) (hn : isnan b = false) (hr : isinf b = false ∧ -9223372036854775808 ≤ rndI (wayM m) b ∧ rndI (wayM m) b ≤ 9223372036854775807) : whE b m = 0 ∧ whV b m = rndI (wayM m) b := by
  have e : whE b m = 0 := by unfold whE; rw [if_pos h, hn, if_neg (by simp), if_pos hr]
  exact ⟨e, by simp [whV, e]⟩
theorem rd_y {b : Nat} {m : Int} (h : modB m = true) : rdV b m = rdW (wayM m) b ∧ rdE m = 0 := by simp [rdV, rdE, h]
theorem rd_n {b : Nat} {m : Int} (h : modB m = false) : rdV b m = some 0 ∧ rdE m = 4 := by simp [rdV, rdE, h]

end Go.Proofs.Ytjddmcecllhlhaa
