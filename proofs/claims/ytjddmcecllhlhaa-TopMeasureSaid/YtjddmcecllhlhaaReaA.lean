/-
  Contracts of package math's and package real's functions on one number: kinds, places, what is the same.
-/
import Derived.Test.YtjddmcecllhlhaaNum
import Derived.Test.YtjddmcecllhlhaaFloK
import Derived.Laws.Externs
namespace Go.Proofs.Ytjddmcecllhlhaa
open Go.RowKit Flo

theorem sg_wrap {b : Nat} (hb : b < 18446744073709551616) : decide (wrap64 (b : Int) < 0) = sg b := by
  unfold sg wrap64
  by_cases h : b < 9223372036854775808
  · have e1 : b / 9223372036854775808 % 2 = 0 := by omega
    rw [e1, decide_eq_false (by omega)]; rfl
  · have e1 : b / 9223372036854775808 % 2 = 1 := by omega
    rw [e1, decide_eq_true (by omega)]; rfl
theorem unary_neg_float (k : FloatKind) (b : Nat) : Op.unary .neg (.float k b) = pure (.float k (Op.negFloat k b)) := rfl
attribute [local go_sem] unary_neg_float
theorem ret_fl {a b : Nat} (h : a = b) : Ending.returned (.float .f64 a) = .returned (.float .f64 b) := by rw [h]
theorem abs_bits {b : Nat} (hb : b < 18446744073709551616) : (bits BinOp.andNot IntKind.u64 (b : Int) 9223372036854775808).toNat = rg b := by
  rw [u64_andNot (b : Int) 9223372036854775808 (by omega) (by omega) (by omega) (by omega)]
  simp only [Int.toNat_natCast]
  have : (18446744073709551615 - (9223372036854775808 : Int).toNat : Nat) = 2 ^ 63 - 1 := by decide
  rw [this, Nat.and_two_pow_sub_one_eq_mod]
  rfl

section
end
theorem neg_max (b : Nat) (hb : b < 18446744073709551616) : (Ieee.double.order (Go.Op.negFloat .f64 b) 9218868437227405311 == some .gt) = (knd b == 1) := by
  rw [ord_max]
  have s := sg_neg hb
  have r := rg_neg hb
  rcases knd_cases b with ⟨h, k, _⟩ | ⟨h, a, t, k, q⟩ | ⟨h, a, a', t, k, q⟩ | ⟨h, a, t, k, q⟩ | ⟨h, a, t, k, q⟩ | ⟨h, a, a', t, k, q⟩ | ⟨h, a, t, k, q⟩ <;>
  rcases knd_cases (Go.Op.negFloat .f64 b) with ⟨h', k', _⟩ | ⟨h', b', t', k', q'⟩ | ⟨h', b', c', t', k', q'⟩ | ⟨h', b', t', k', q'⟩ | ⟨h', b', t', k', q'⟩ | ⟨h', b', c', t', k', q'⟩ | ⟨h', b', t', k', q'⟩ <;>
  first
    | (rw [k, k']; rfl)
    | (exfalso; omega)
    | (exfalso; rw [t, t'] at s; cases s; done)
    | (exfalso; have := nan_neg hb; rw [h, h'] at this; cases this)
theorem max_knd (b : Nat) : (Ieee.double.order b 9218868437227405311 == some .gt) = (knd b == 6) := ord_max b
end Go.Proofs.Ytjddmcecllhlhaa
