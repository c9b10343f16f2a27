/-
  Totals: near the whole sums, however they are parted.
-/
import Derived.Test.YtjddmcecllhlhaaMeaF
namespace Go.Proofs.Ytjddmcecllhlhaa.Flo
open Ieee

/-- t is near T. -/
structure TInv (c T : Int) (t : Nat) : Prop where
  ft : fin t = true
  pos : (U : Int) ≤ T
  lo : 4503599627370496 * (T - val t) ≤ c * T
  hi : 4503599627370496 * (val t - T) ≤ c * T
theorem total_first {N : Int} (h0 : 1 ≤ N) (h1 : N ≤ 18446744073709551616) : TInv 2 (N * U) (Go.floatOfInt .f64 N) ∧ (U : Int) ≤ val (Go.floatOfInt .f64 N) ∧ val (Go.floatOfInt .f64 N) ≤ 36893488147419103232 * U := by
  have hU := U_big
  have e0 : 1 * (U : Int) ≤ N * U := Int.mul_le_mul_of_nonneg_right h0 (by omega)
  have e1 : N * (U : Int) ≤ 18446744073709551616 * U := Int.mul_le_mul_of_nonneg_right h1 (by omega)
  have r := int_rnd N
  obtain ⟨f, a, b⟩ := r.close (y := N * U) (by omega) (big_ok (mul_le_one (Int.le_refl _)) (by omega))
  rw [show ((1 : Nat) : Int) * val (Go.floatOfInt .f64 N) = val (Go.floatOfInt .f64 N) by omega] at a b
  have o := one_is
  have g := r.ge o.fin (by rw [o.val]; omega)
  rw [o.val] at g
  exact ⟨⟨f, by omega, by omega, by omega⟩, g, by omega⟩
theorem total_next {c T N : Int} {t : Nat} (i : TInv c T t) (hc0 : 0 ≤ c) (hc : c ≤ 1000) (hT : T ≤ 2361183241434822606848 * U) (h0 : 1 ≤ N) (h1 : N ≤ 18446744073709551616) :
    ∃ t', Go.floatBits .add .f64 t (Go.floatOfInt .f64 N) = some t' ∧ TInv (c + 6) (T + N * U) t' := by
  have hU := U_big
  obtain ⟨⟨f, p, a, b⟩, g, g2⟩ := total_first h0 h1
  obtain ⟨ft, i1, i2, i3⟩ := i
  have e0 : 1 * (U : Int) ≤ N * U := Int.mul_le_mul_of_nonneg_right h0 (by omega)
  have e1 : N * (U : Int) ≤ 18446744073709551616 * U := Int.mul_le_mul_of_nonneg_right h1 (by omega)
  have e2 : c * T ≤ 1000 * T := Int.mul_le_mul_of_nonneg_right hc (by omega)
  have e3 : 0 ≤ c * (N * U) := Int.mul_nonneg hc0 (by omega)
  obtain ⟨t', ht, rt⟩ := add_rnd ft f
  obtain ⟨f', a', b'⟩ := rt.close (y := val t + val (Go.floatOfInt .f64 N)) (by omega) (big_ok (mul_le_one (Int.le_refl _)) (by omega))
  rw [show ((1 : Nat) : Int) * val t' = val t' by omega] at a' b'
  refine ⟨t', ht, f', by omega, ?_, ?_⟩
  all_goals
    rw [Int.add_mul, Int.mul_add]
    generalize c * T = cT at *
    generalize c * (N * U) = cN at *
    generalize N * (U : Int) = NU at *
    omega
theorem total_near {c c' T : Int} {a b : Nat} (i : TInv c T a) (j : TInv c' T b) (hc : c ≤ 1000) (hc' : c' ≤ 1000) (hT : T ≤ 2361183241434822606848 * U) (lb : b < 18446744073709551616) :
    ∃ d p, Go.floatBits .sub .f64 a b = some d ∧ Go.floatBits .mul .f64 a 4517329193108106637 = some p ∧ fin d = true ∧ d < 18446744073709551616 ∧ fin p = true ∧ val d ≤ val p ∧ -val d ≤ val p := by
  have hU := U_big
  obtain ⟨fa, i1, i2, i3⟩ := i
  obtain ⟨fb, _, j2, j3⟩ := j
  have e2 : c * T ≤ 1000 * T := Int.mul_le_mul_of_nonneg_right hc (by omega)
  have e3 : c' * T ≤ 1000 * T := Int.mul_le_mul_of_nonneg_right hc' (by omega)
  have k := micro_is
  have hC : 999999 * val 4517329193108106637 ≤ U ∧ (U : Int) ≤ 1000001 * val 4517329193108106637 ∧ 0 ≤ val 4517329193108106637 := by
    rw [k.val, U_L2]
    have : 0 < 2 ^ L2 := two_pow_pos _
    generalize 2 ^ L2 = w at *
    omega
  obtain ⟨d, hd, rd⟩ := sub_rnd fa fb lb
  obtain ⟨y, hy⟩ : ∃ y : Int, 4503599627370496 * y ≤ 2000 * T ∧ 2000 * T < 4503599627370496 * y + 4503599627370496 := ⟨2000 * T / 4503599627370496, by omega, by omega⟩
  obtain ⟨fd, d1, d2⟩ := rd.close (y := y + 1) (by omega) (big_ok (mul_le_one (Int.le_refl _)) (by omega))
  rw [show ((1 : Nat) : Int) * val d = val d by omega] at d1 d2
  obtain ⟨p, hp, rp⟩ := mul_rnd fa k.fin
  generalize val 4517329193108106637 = C at *
  have a0 : 0 ≤ val a := by omega
  have e1 : 999999 * (val a * C) ≤ U * val a := by
    rw [Int.mul_left_comm, Int.mul_comm (U : Int)]; exact Int.mul_le_mul_of_nonneg_left hC.1 a0
  have e4 : U * val a ≤ 1000001 * (val a * C) := by
    rw [Int.mul_left_comm 1000001, Int.mul_comm (U : Int)]; exact Int.mul_le_mul_of_nonneg_left hC.2.1 a0
  have e5 : 0 ≤ val a * C := Int.mul_nonneg a0 hC.2.2
  have e6 : 0 ≤ U * val a := Int.mul_nonneg (by omega) a0
  obtain ⟨fp, p1, p2⟩ := rp.close (y := val a * C) (by omega) (big_ok (show val a * C ≤ U * val a by omega) (by omega))
  have pU : (0 : Int) < U := by omega
  have k2 : val a ≤ 2000000 * val p + 4000000 := by
    apply Int.le_of_mul_le_mul_left ?_ pU
    rw [Int.mul_add, Int.mul_left_comm]
    generalize val a * C = X at *
    generalize (U : Int) * val a = Y at *
    generalize (U : Int) * val p = Z at *
    omega
  exact ⟨d, p, hd, hp, fd, rd.lt, fp, by omega, by omega⟩
end Go.Proofs.Ytjddmcecllhlhaa.Flo
