/-
  Contracts of package real's functions and the reference's: places, kinds, what is the same, what is less.
-/
import Derived.Test.YtjddmcecllhlhaaReaB
namespace Go.Proofs.Ytjddmcecllhlhaa
open Go.RowKit Flo

theorem bits_x (x y : Int) : bits .xor .i64 x y = wrap64 ((BitVec.ofInt 64 x ^^^ BitVec.ofInt 64 y).toNat : Int) := by
  show IntKind.i64.wrap ((BitVec.ofInt 64 x ^^^ BitVec.ofInt 64 y).toNat : Int) = _
  rw [IntKind.wrap_i64]
  simp only [wrap64]
theorem ofInt_wrap (n : Nat) (h : n < 18446744073709551616) : (BitVec.ofInt 64 (wrap64 (n : Int))).toNat = n := by
  rw [BitVec.toNat_ofInt]; unfold wrap64; omega
theorem flip_bits {b : Nat} (hb : b < 18446744073709551616) (h : sg b = true) : bits .xor .i64 (bits .xor .i64 (-1) (wrap64 (b : Int))) (-9223372036854775808) = -(rg b : Int) - 1 := by
  have hb' : 9223372036854775808 ≤ b := by
    unfold sg at h
    by_cases h1 : b < 9223372036854775808
    · have : b / 9223372036854775808 % 2 = 0 := by omega
      rw [this] at h; cases h
    · omega
  have e1 : bits .xor .i64 (-1) (wrap64 (b : Int)) = wrap64 ((18446744073709551615 - b : Nat) : Int) := by
    rw [bits_x]
    congr 2
    have : BitVec.ofInt 64 (-1) = BitVec.allOnes 64 := by decide
    rw [this, BitVec.allOnes_xor, BitVec.toNat_not, ofInt_wrap b hb]
  rw [e1, bits_x]
  have e2 : (BitVec.ofInt 64 (wrap64 ((18446744073709551615 - b : Nat) : Int)) ^^^ BitVec.ofInt 64 (-9223372036854775808)).toNat = (18446744073709551615 - b) + 9223372036854775808 := by
    rw [BitVec.toNat_xor, ofInt_wrap _ (by omega)]
    have : (BitVec.ofInt 64 (-9223372036854775808)).toNat = 9223372036854775808 := by decide
    rw [this]
    have hn := neg_eq (b := 18446744073709551615 - b) (by omega)
    rw [if_pos (by omega)] at hn
    exact hn
  rw [e2]
  unfold wrap64 rg
  omega
theorem real_Of (n : Int) (w : World) : Calls Try.prog 19 #[.int .i64 n] w fun e w' => e = .returned (.float .f64 (floatOfInt .f64 n)) ∧ w = w' := by
  go_enter Try.func19, Try.ntmps19
  go_wp2
  go_ret
  exact ⟨rfl, rfl⟩
theorem knd_nan (b : Nat) : isnan b = (knd b == 0) := by
  rcases knd_cases b with ⟨n, k, _⟩ | ⟨n, _, _, k, _⟩ | ⟨n, _, _, _, k, _⟩ | ⟨n, _, _, k, _⟩ | ⟨n, _, _, k, _⟩ | ⟨n, _, _, _, k, _⟩ | ⟨n, _, _, k, _⟩ <;> rw [n, k] <;> rfl
theorem knd_seven (b : Nat) : knd b = 0 ∨ knd b = 1 ∨ knd b = 2 ∨ (knd b = 3 ∧ sg b = true) ∨ (knd b = 4 ∧ sg b = false) ∨ knd b = 5 ∨ knd b = 6 := by
  rcases knd_cases b with ⟨n, k, _⟩ | ⟨n, _, _, k, _⟩ | ⟨n, _, _, _, k, _⟩ | ⟨n, _, t, k, _⟩ | ⟨n, _, t, k, _⟩ | ⟨n, _, _, _, k, _⟩ | ⟨n, _, _, k, _⟩ <;> simp [k] <;> exact t
end Go.Proofs.Ytjddmcecllhlhaa
