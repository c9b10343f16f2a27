/-
  Contracts of the reference's rounding.
-/
import Derived.Test.YtjddmcecllhlhaaReaD
namespace Go.Proofs.Ytjddmcecllhlhaa
open Go.RowKit Flo
attribute [local go_sem] unary_neg_float
/-- The facts that the reference's steps ask for. -/
theorem whole_facts {b : Nat} (hf : fin b = true) (hm : mag b < 4503599627370496 * U) : -4503599627370496 < tr b ∧ tr b < 4503599627370496 ∧
    (∀ w : World, (convert 35 2 (.float .f64 b)).run Try.prog w = .ok (.int .i64 (tr b)) w) ∧
    ∃ d, (∀ (t : TypeId) (w : World), (binOp .sub t (.float .f64 b) (.float .f64 (floatOfInt .f64 (tr b)))).run Try.prog w = .ok (.float .f64 d) w) ∧
      (FloatKind.f64.format.order d 0 == some Ordering.lt) = decide (lft b < 0) ∧ (FloatKind.f64.format.order d 0 == some Ordering.gt) = decide (0 < lft b) ∧
      (FloatKind.f64.format.order d 4602678819172646912 == some Ordering.gt) = decide ((H : Int) < lft b) ∧ (FloatKind.f64.format.order d 4602678819172646912 == some Ordering.eq) = decide (lft b = (H : Int)) ∧
      (FloatKind.f64.format.order d 13826050856027422720 == some Ordering.lt) = decide (lft b < -(H : Int)) ∧ (FloatKind.f64.format.order d 13826050856027422720 == some Ordering.eq) = decide (lft b = -(H : Int)) := by
  have h1 : mag b / U < 4503599627370496 := (Nat.div_lt_iff_lt_mul U_pos).2 hm
  have ht := tr_nat b
  have i := int_is (n := tr b) (by omega)
  obtain ⟨d, hd, ld, fd, vd⟩ := rest_is hf i
  have nd := fin_nan fd
  refine ⟨by omega, by omega, fun w => ?_, d, fun t w => run_float_arith w .sub t .f64 _ _ _ hd, ?_, ?_, ?_, ?_, ?_, ?_⟩
  · exact run_convert_float_int w _ _ _ _ _ _ (by kernel_rfl) (by kernel_rfl) (conv_of hf (by omega))
  · have := ov_lt nd i_0.1
    rwa [i_0.2, vd] at this
  · have := ov_gt nd i_0.1
    rwa [i_0.2, vd] at this
  · have := ov_gt nd i_H.1
    rwa [i_H.2, vd] at this
  · have := ov_eq nd i_H.1
    rwa [i_H.2, vd] at this
  · have := ov_lt nd i_mH.1
    rwa [i_mH.2, vd] at this
  · have := ov_eq nd i_mH.1
    rwa [i_mH.2, vd] at this

end Go.Proofs.Ytjddmcecllhlhaa
