/-
  Contracts of package math's and package real's functions on one number: kinds, places, what is the same.
-/
import Derived.Test.YtlnfffenahjcnaaNum
import Derived.Test.YtlnfffenahjcnaaFloK
import Derived.Laws.Externs
namespace Go.Proofs.Ytlnfffenahjcnaa
open Go.RowKit Flo

theorem Try.ext_bits (b : Nat) (w : World) : (callFunc 50 #[.float .f64 b]).run Try.prog w = .ok (.value (.int .u64 b)) w := by
  rw [run_callFunc_extern Try.func50 (by kernel_rfl) (by kernel_rfl) (by kernel_rfl) (e := Extern.MathFloatBits.float64bits) (by kernel_rfl)]
  rfl
theorem Try.ext_from (n : Int) (w : World) : (callFunc 55 #[.int .u64 n]).run Try.prog w = .ok (.value (.float .f64 n.toNat)) w := by
  rw [run_callFunc_extern Try.func55 (by kernel_rfl) (by kernel_rfl) (by kernel_rfl) (e := Extern.MathFloatBits.float64frombits) (by kernel_rfl)]
  rfl
theorem sg_wrap {b : Nat} (hb : b < 18446744073709551616) : decide (wrap64 (b : Int) < 0) = sg b := by
  unfold sg wrap64
  by_cases h : b < 9223372036854775808
  · have e1 : b / 9223372036854775808 % 2 = 0 := by omega
    rw [e1, decide_eq_false (by omega)]; rfl
  · have e1 : b / 9223372036854775808 % 2 = 1 := by omega
    rw [e1, decide_eq_true (by omega)]; rfl
theorem unary_neg_float (k : FloatKind) (b : Nat) : Op.unary .neg (.float k b) = pure (.float k (Op.negFloat k b)) := rfl
attribute [local go_sem] unary_neg_float
theorem ret_fl {a b : Nat} (h : a = b) : Ending.returned (.float .f64 a) = .returned (.float .f64 b) := by rw [h]
theorem abs_bits {b : Nat} (hb : b < 18446744073709551616) : (bits BinOp.andNot IntKind.u64 (b : Int) 9223372036854775808).toNat = rg b := by
  rw [u64_andNot (b : Int) 9223372036854775808 (by omega) (by omega) (by omega) (by omega)]
  simp only [Int.toNat_natCast]
  have : (18446744073709551615 - (9223372036854775808 : Int).toNat : Nat) = 2 ^ 63 - 1 := by decide
  rw [this, Nat.and_two_pow_sub_one_eq_mod]
  rfl

section
attribute [local go_sem] Try.ext_bits Try.ext_from
set_option maxRecDepth 100000 in
theorem math_Abs (b : Nat) (hb : b < 18446744073709551616) (w : World) : Calls Try.prog 49 #[.float .f64 b] w fun e w' => e = .returned (.float .f64 (rg b)) ∧ w = w' := by
  have E := Lib.hid (abs_bits hb)
  clear hb
  go_enter Try.func49, Try.ntmps49
  go_wp2
  go_ret
  exact ⟨ret_fl E.out, rfl⟩
set_option maxRecDepth 100000 in
theorem math_Signbit (b : Nat) (hb : b < 18446744073709551616) (w : World) : Calls Try.prog 36 #[.float .f64 b] w fun e w' => e = .returned (.bool (sg b)) ∧ w = w' := by
  have E := Lib.hid (sg_wrap hb)
  clear hb
  go_enter Try.func36, Try.ntmps36
  go_wp2
  go_ret
  exact ⟨ret_bool E.out, rfl⟩
end
theorem math_IsNaN (b : Nat) (w : World) : Calls Try.prog 34 #[.float .f64 b] w fun e w' => e = .returned (.bool (isnan b)) ∧ w = w' := by
  have E := Lib.hid (ord_self b)
  go_enter Try.func34, Try.ntmps34
  go_wp2
  go_ret
  exact ⟨ret_bool E.out, rfl⟩
theorem neg_max (b : Nat) (hb : b < 18446744073709551616) : (Ieee.double.order (Go.Op.negFloat .f64 b) 9218868437227405311 == some .gt) = (knd b == 1) := by
  rw [ord_max]
  have s := sg_neg hb
  have r := rg_neg hb
  rcases knd_cases b with ⟨h, k, _⟩ | ⟨h, a, t, k, q⟩ | ⟨h, a, a', t, k, q⟩ | ⟨h, a, t, k, q⟩ | ⟨h, a, t, k, q⟩ | ⟨h, a, a', t, k, q⟩ | ⟨h, a, t, k, q⟩ <;>
  rcases knd_cases (Go.Op.negFloat .f64 b) with ⟨h', k', _⟩ | ⟨h', b', t', k', q'⟩ | ⟨h', b', c', t', k', q'⟩ | ⟨h', b', t', k', q'⟩ | ⟨h', b', t', k', q'⟩ | ⟨h', b', c', t', k', q'⟩ | ⟨h', b', t', k', q'⟩ <;>
  first
    | (rw [k, k']; rfl)
    | (exfalso; omega)
    | (exfalso; rw [t, t'] at s; cases s; done)
    | (exfalso; have := nan_neg hb; rw [h, h'] at this; cases this)
theorem max_knd (b : Nat) : (Ieee.double.order b 9218868437227405311 == some .gt) = (knd b == 6) := ord_max b
theorem math_IsInf_m (b : Nat) (hb : b < 18446744073709551616) (w : World) : Calls Try.prog 35 #[.float .f64 b, .int .i64 (-1)] w fun e w' => e = .returned (.bool (knd b == 1)) ∧ w = w' := by
  have E := Lib.hid (neg_max b hb)
  clear hb
  go_enter Try.func35, Try.ntmps35
  go_wp2
  go_ret
  exact ⟨ret_bool E.out, rfl⟩
theorem math_IsInf_p (b : Nat) (w : World) : Calls Try.prog 35 #[.float .f64 b, .int .i64 1] w fun e w' => e = .returned (.bool (knd b == 6)) ∧ w = w' := by
  have E := Lib.hid (max_knd b)
  go_enter Try.func35, Try.ntmps35
  go_wp2
  go_ret
  exact ⟨ret_bool E.out, rfl⟩
end Go.Proofs.Ytlnfffenahjcnaa
