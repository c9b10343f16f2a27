/-
  A finite number and what it is rounded to: where they lie.
-/
import Derived.Test.YtjddmcecllhlhaaFloN
namespace Go.Proofs.Ytjddmcecllhlhaa.Flo
open Ieee
theorem rounded_fin {x d u z e : Nat} (fx : fin x = true) (lx : x < 18446744073709551616) (fd : fin d = true) (ld : d < 18446744073709551616) (fu : fin u = true)
    (vd : val d = rndI .down x * U) (vu : val u = rndI .up x * U) (vz : val z = rndI .zero x * U) (ve : val e = rndI .even x * U) :
    val d ≤ val x ∧ val x ≤ val u ∧ (∃ q, Go.floatBits .sub .f64 u d = some q ∧ isnan q = false ∧ val q ≤ U) ∧ (0 ≤ val x → val z = val d) ∧ (val x ≤ 0 → val z = val u) ∧ (val e = val d ∨ val e = val u) ∧
      ∃ p r, Go.floatBits .sub .f64 u x = some p ∧ Go.floatBits .sub .f64 x d = some r ∧ isnan p = false ∧ isnan r = false ∧ (val e ≠ val d → val p ≤ val r) ∧ (val e ≠ val u → val r ≤ val p) := by
  obtain ⟨h1, h2, h3, h4, h5, h6, h7, h8, h9⟩ := rnd_facts x
  have hU : 0 ≤ (U : Int) := Int.natCast_nonneg _
  have h3' : rndI .up x * U ≤ rndI .down x * U + U := by
    have := Int.mul_le_mul_of_nonneg_right h3 hU
    rwa [Int.add_mul, Int.one_mul] at this
  obtain ⟨q, hq, rq⟩ := sub_rnd fu fd ld
  obtain ⟨p, hp, rp⟩ := sub_rnd fu fx lx
  obtain ⟨r, hr, rr⟩ := sub_rnd fx fd ld
  have one := one_is
  refine ⟨by rw [vd]; exact h1, by rw [vu]; exact h2, ⟨q, hq, rq.nan, ?_⟩, fun h => by rw [vz, vd, h5 h], fun h => by rw [vz, vu, h6 h], ?_, p, r, hp, hr, rp.nan, rr.nan, fun h => ?_, fun h => ?_⟩
  · have := rq.le one.fin (by decide) (by rw [one.val, vu, vd]; omega)
    rwa [one.val] at this
  · rw [ve, vd, vu]
    rcases h7 with h | h
    · exact .inl (by rw [h])
    · exact .inr (by rw [h])
  · have := h8 (fun hh => h (by rw [ve, vd, hh]))
    refine rp.mono rr ?_
    rw [vd, vu]
    omega
  · have := h9 (fun hh => h (by rw [ve, vu, hh]))
    refine rr.mono rp ?_
    rw [vd, vu]
    omega
end Go.Proofs.Ytjddmcecllhlhaa.Flo
