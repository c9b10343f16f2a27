/-
  What was rounded is rounded to itself; a whole number is told as it is.
-/
import Derived.Test.YtblmlglkjmilkacReaV
import Derived.Test.YtblmlglkjmilkacFloO
namespace Go.Proofs.Ytblmlglkjmilkac
open Go.RowKit Flo Ieee

theorem again_fin {y : Nat} {k : Int} (ly : y < 18446744073709551616) (fy : fin y = true) (v : val y = k * U) (way : Toward) : rdW way y = some y ∧ rndI way y = k := by
  have hm : mag y % U = 0 := by
    have h := val_nat y
    rw [v, Int.natAbs_mul, Int.natAbs_natCast] at h
    rw [← h]
    exact Nat.mul_mod_left _ _
  have hs := round_self ly fy way hm
  refine ⟨by simp [rdW, fin_nan fy, hs], ?_⟩
  obtain ⟨y', e, _, _, _, _, hv, _⟩ := round_word fy way
  rw [hs] at e
  subst e
  rw [v] at hv
  exact (mul_U_eq.1 hv).symm
theorem again_m {y : Nat} {m : Int} (h : ∀ way, rdW way y = nz y) (hm : 1 ≤ m ∧ m ≤ 4) : rdV y m = nz y ∧ rdE m = 0 := by
  have hb : modB m = true := decide_eq_true hm
  exact ⟨(rd_y hb).1.trans (h _), (rd_y (b := 0) hb).2⟩
theorem again_nan {y : Nat} (h : isnan y = true) (way : Toward) : rdW way y = nz y := by rw [nz_none h]; simp [rdW, h]
theorem again_inf {y : Nat} (ly : y < 18446744073709551616) (hn : isnan y = false) (h : rg y = 9218868437227405312) (way : Toward) : rdW way y = nz y := by
  rw [nz_some hn]; simp [rdW, hn, round_inf ly h]
theorem whole_int {k m : Int} (hk : -1000000 < k ∧ k < 1000000) (hm : 1 ≤ m ∧ m ≤ 4) : whE (floatOfInt .f64 k) m = 0 ∧ whV (floatOfInt .f64 k) m = k := by
  have i := int_is (n := k) (by omega)
  have lt : floatOfInt .f64 k < 18446744073709551616 := (int_rnd k).lt
  have r := (again_fin lt i.fin i.val (wayM m)).2
  have hr : isinf (floatOfInt .f64 k) = false := by
    have := i.fin
    unfold isinf; unfold fin at this; simp at *; omega
  have := whE_y (m := m) (decide_eq_true hm) (fin_nan i.fin) ⟨hr, by rw [r]; omega⟩
  rwa [r] at this
end Go.Proofs.Ytblmlglkjmilkac
