/-
  Contracts of far, of bits.Mul64 and of num.Mul.
-/
import Derived.Test.YtjddmcecllhlhaaDoorNum
import Derived.Shelf.Bits.Mul64
namespace Go.Proofs.YtjddmcecllhlhaaDoor
open Go.RowKit Go.Lib

theorem num_far (a : Int) (ka : I64 a) (w : World) : Calls Tryd.prog 99 #[.int .i64 a] w fun e w' => e = .returned (.int .u64 (a.natAbs : Int)) ∧ w = w' := by
  by_cases h : a < 0
  · have e1 : IntKind.u64.wrap (-IntKind.u64.wrap a) = (a.natAbs : Int) := by
      rw [IntKind.wrap_u64, IntKind.wrap_u64]; unfold I64 at ka; omega
    have E := Lib.hid e1
    clear e1
    go_enter Tryd.func99, Tryd.ntmps99
    go_wp2
    go_ret
    exact ⟨ret_int E.out, rfl⟩
  · have h' : 0 ≤ a := by omega
    have e1 : IntKind.u64.wrap a = (a.natAbs : Int) := by
      rw [IntKind.wrap_u64]; unfold I64 at ka; omega
    have E := Lib.hid e1
    clear e1 h
    go_enter Tryd.func99, Tryd.ntmps99
    go_wp2
    go_ret
    exact ⟨ret_int (by first | exact E.out | omega), rfl⟩
theorem mul_abs (a b : Int) : (a * b = ((a.natAbs * b.natAbs : Nat) : Int) ∧ (decide (a < 0) != decide (b < 0)) = false) ∨ (a * b = -((a.natAbs * b.natAbs : Nat) : Int) ∧ (decide (a < 0) != decide (b < 0)) = true) := by
  by_cases ha : a < 0 <;> by_cases hb : b < 0
  · left
    refine ⟨?_, by simp [ha, hb]⟩
    have e1 : a = -(a.natAbs : Int) := by omega
    have e2 : b = -(b.natAbs : Int) := by omega
    generalize a.natAbs = x at *
    generalize b.natAbs = y at *
    rw [e1, e2, Int.natCast_mul]
    try simp only [Int.neg_mul, Int.mul_neg, Int.neg_neg]
  · right
    refine ⟨?_, by simp [ha, hb]⟩
    have e1 : a = -(a.natAbs : Int) := by omega
    have e2 : b = (b.natAbs : Int) := by omega
    generalize a.natAbs = x at *
    generalize b.natAbs = y at *
    rw [e1, e2, Int.natCast_mul]
    try simp only [Int.neg_mul, Int.mul_neg, Int.neg_neg]
  · right
    refine ⟨?_, by simp [ha, hb]⟩
    have e1 : a = (a.natAbs : Int) := by omega
    have e2 : b = -(b.natAbs : Int) := by omega
    generalize a.natAbs = x at *
    generalize b.natAbs = y at *
    rw [e1, e2, Int.natCast_mul]
    try simp only [Int.neg_mul, Int.mul_neg, Int.neg_neg]
  · left
    refine ⟨?_, by simp [ha, hb]⟩
    have e1 : a = (a.natAbs : Int) := by omega
    have e2 : b = (b.natAbs : Int) := by omega
    generalize a.natAbs = x at *
    generalize b.natAbs = y at *
    rw [e1, e2, Int.natCast_mul]
    try simp only [Int.neg_mul, Int.mul_neg, Int.neg_neg]
theorem mul_far {m p H L : Int} (hp : p = H * 18446744073709551616 + L) (L0 : 0 ≤ L) (L1 : L < 18446744073709551616) (H0 : 0 ≤ H) (hm : m = p)  :
    ((0 < H ∨ 9223372036854775808 ≤ L) → okI m = false) ∧ ((H = 0 ∧ L < 9223372036854775808) → okI m = true ∧ m = L) := by
  refine ⟨fun h => ?_, fun h => ⟨okI_y (by omega), by omega⟩⟩
  cases hc : okI m
  · rfl
  · simp only [okI, decide_eq_true_eq] at hc; omega
theorem mul_near {m p H L : Int} (hp : p = H * 18446744073709551616 + L) (L0 : 0 ≤ L) (L1 : L < 18446744073709551616) (H0 : 0 ≤ H) (hm : m = -p)  :
    ((0 < H ∨ 9223372036854775808 < L) → okI m = false) ∧ ((H = 0 ∧ L ≤ 9223372036854775808) → okI m = true ∧ m = wrap64 (IntKind.u64.wrap (-L))) := by
  refine ⟨fun h => ?_, fun h => ⟨okI_y (by omega), ?_⟩⟩
  · cases hc : okI m
    · rfl
    · simp only [okI, decide_eq_true_eq] at hc; omega
  · rw [IntKind.wrap_u64]; unfold wrap64; omega
end Go.Proofs.YtjddmcecllhlhaaDoor
