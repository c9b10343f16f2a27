/-
  Contracts of package real's functions and the reference's: places, kinds, what is the same, what is less.
-/
import Derived.Test.YtlnfffenahjcnaaReaB
namespace Go.Proofs.Ytlnfffenahjcnaa
open Go.RowKit Flo

theorem bits_x (x y : Int) : bits .xor .i64 x y = wrap64 ((BitVec.ofInt 64 x ^^^ BitVec.ofInt 64 y).toNat : Int) := by
  show IntKind.i64.wrap ((BitVec.ofInt 64 x ^^^ BitVec.ofInt 64 y).toNat : Int) = _
  rw [IntKind.wrap_i64]
  simp only [wrap64]
theorem ofInt_wrap (n : Nat) (h : n < 18446744073709551616) : (BitVec.ofInt 64 (wrap64 (n : Int))).toNat = n := by
  rw [BitVec.toNat_ofInt]; unfold wrap64; omega
theorem flip_bits {b : Nat} (hb : b < 18446744073709551616) (h : sg b = true) : bits .xor .i64 (bits .xor .i64 (-1) (wrap64 (b : Int))) (-9223372036854775808) = -(rg b : Int) - 1 := by
  have hb' : 9223372036854775808 ≤ b := by
    unfold sg at h
    by_cases h1 : b < 9223372036854775808
    · have : b / 9223372036854775808 % 2 = 0 := by omega
      rw [this] at h; cases h
    · omega
  have e1 : bits .xor .i64 (-1) (wrap64 (b : Int)) = wrap64 ((18446744073709551615 - b : Nat) : Int) := by
    rw [bits_x]
    congr 2
    have : BitVec.ofInt 64 (-1) = BitVec.allOnes 64 := by decide
    rw [this, BitVec.allOnes_xor, BitVec.toNat_not, ofInt_wrap b hb]
  rw [e1, bits_x]
  have e2 : (BitVec.ofInt 64 (wrap64 ((18446744073709551615 - b : Nat) : Int)) ^^^ BitVec.ofInt 64 (-9223372036854775808)).toNat = (18446744073709551615 - b) + 9223372036854775808 := by
    rw [BitVec.toNat_xor, ofInt_wrap _ (by omega)]
    have : (BitVec.ofInt 64 (-9223372036854775808)).toNat = 9223372036854775808 := by decide
    rw [this]
    have hn := neg_eq (b := 18446744073709551615 - b) (by omega)
    rw [if_pos (by omega)] at hn
    exact hn
  rw [e2]
  unfold wrap64 rg
  omega
attribute [local go_sem] Try.ext_bits Try.ext_from
theorem real_Of (n : Int) (w : World) : Calls Try.prog 29 #[.int .i64 n] w fun e w' => e = .returned (.float .f64 (floatOfInt .f64 n)) ∧ w = w' := by
  go_enter Try.func29, Try.ntmps29
  go_wp2
  go_ret
  exact ⟨rfl, rfl⟩
theorem knd_nan (b : Nat) : isnan b = (knd b == 0) := by
  rcases knd_cases b with ⟨n, k, _⟩ | ⟨n, _, _, k, _⟩ | ⟨n, _, _, _, k, _⟩ | ⟨n, _, _, k, _⟩ | ⟨n, _, _, k, _⟩ | ⟨n, _, _, _, k, _⟩ | ⟨n, _, _, k, _⟩ <;> rw [n, k] <;> rfl
theorem knd_seven (b : Nat) : knd b = 0 ∨ knd b = 1 ∨ knd b = 2 ∨ (knd b = 3 ∧ sg b = true) ∨ (knd b = 4 ∧ sg b = false) ∨ knd b = 5 ∨ knd b = 6 := by
  rcases knd_cases b with ⟨n, k, _⟩ | ⟨n, _, _, k, _⟩ | ⟨n, _, _, _, k, _⟩ | ⟨n, _, t, k, _⟩ | ⟨n, _, t, k, _⟩ | ⟨n, _, _, _, k, _⟩ | ⟨n, _, _, k, _⟩ <;> simp [k] <;> exact t
theorem real_Kind (b : Nat) (hb : b < 18446744073709551616) (w : World) : Calls Try.prog 20 #[.float .f64 b] w fun e w' => e = .returned (.int .i64 (knd b)) ∧ w = w' := by
  have h1 := fun w => math_IsNaN b w
  have h2 := fun w => math_IsInf_m b hb w
  have h3 := fun w => math_IsInf_p b w
  have h4 := fun w => math_Signbit b hb w
  have o1 : (FloatKind.f64.format.order b 0 == some Ordering.lt) = (knd b == 1 || knd b == 2) := ord_lt0 b
  have o2 : (FloatKind.f64.format.order b 0 == some Ordering.eq) = (knd b == 3 || knd b == 4) := ord_eq0 b
  rw [knd_nan] at h1
  clear hb
  rcases knd_seven b with k | k | k | ⟨k, s⟩ | ⟨k, s⟩ | k | k
  all_goals
    rw [k] at h1 h2 h3 o1 o2
    try rw [s] at h4
    rw [k]
    simp only [show ((0 : Int) == 0) = true from rfl, show ((1 : Int) == 0) = false from rfl, show ((2 : Int) == 0) = false from rfl, show ((3 : Int) == 0) = false from rfl, show ((4 : Int) == 0) = false from rfl, show ((5 : Int) == 0) = false from rfl, show ((6 : Int) == 0) = false from rfl] at h1
    have o1' := o1.trans (show _ = _ from rfl)
    clear k
    go_enter Try.func20, Try.ntmps20
    go_wp2_with (first
      | (go_at_call 34; refine (h1 _).mono ?_; rintro e w' ⟨rfl, rfl⟩)
      | (go_at_call 35; ((with_reducible first | refine (h2 _).mono ?_ | refine (h3 _).mono ?_); rintro e w' ⟨rfl, rfl⟩))
      | (go_at_call 36; refine (h4 _).mono ?_; rintro e w' ⟨rfl, rfl⟩))
    go_ret
    exact ⟨rfl, rfl⟩
theorem ref02_Kind (b : Nat) (w : World) : Calls Try.prog 31 #[.float .f64 b] w fun e w' => e = .returned (.int .i64 (knd b)) ∧ w = w' := by
  have o0 : (FloatKind.f64.format.order b b != some Ordering.eq) = (knd b == 0) := (ord_self b).trans (knd_nan b)
  have o1 : (FloatKind.f64.format.order b 18442240474082181119 == some Ordering.lt) = (knd b == 1) := ord_mmax b
  have o2 : (FloatKind.f64.format.order b 0 == some Ordering.lt) = (knd b == 1 || knd b == 2) := ord_lt0 b
  have o3 : (FloatKind.f64.format.order b 9218868437227405311 == some Ordering.gt) = (knd b == 6) := ord_max b
  have o4 : (FloatKind.f64.format.order b 0 == some Ordering.gt) = (knd b == 5 || knd b == 6) := ord_gt0 b
  have hz : knd b = 3 ∨ knd b = 4 → ∃ y, (∀ (t : TypeId) (w : World), (binOp .quo t (.float .f64 4607182418800017408) (.float .f64 b)).run Try.prog w = .ok (.float .f64 y) w) ∧ (FloatKind.f64.format.order y 0 == some Ordering.lt) = (knd b == 3) := fun h => by
    obtain ⟨y, hy, hl⟩ := inv_zero h
    exact ⟨y, fun t w => run_float_arith w .quo t .f64 _ _ _ hy, hl⟩
  by_cases hk : knd b = 3 ∨ knd b = 4
  · obtain ⟨y, hq, o5⟩ := hz hk
    clear hz
    rcases hk with k | k
    all_goals
      rw [k] at o0 o1 o2 o3 o4 o5
      rw [k]
      clear k
      go_enter Try.func31, Try.ntmps31
      go_wp2
      go_ret
      exact ⟨rfl, rfl⟩
  · clear hz
    rcases knd_seven b with k | k | k | ⟨k, s⟩ | ⟨k, s⟩ | k | k
    all_goals
      first
        | (exfalso; omega)
        | (rw [k] at o0 o1 o2 o3 o4
           rw [k]
           clear k hk
           go_enter Try.func31, Try.ntmps31
           go_wp2
           go_ret
           exact ⟨rfl, rfl⟩)
theorem ref02_Same (a b : Nat) (w : World) : Calls Try.prog 14 #[.float .f64 a, .float .f64 b] w fun e w' => e = .returned (.bool (plc a == plc b)) ∧ w = w' := by
  have E : (plc a == plc b) = sameR a b := by
    rw [sameR_eq, Bool.eq_iff_iff]; simp
  rw [E]
  have hA := fun w => ref02_Kind a w
  have hB := fun w => ref02_Kind b w
  have e : ∀ v1 v2 v3 : Bool, (knd a == knd b) = v1 → (knd a != 2) = v2 → (knd a != 5) = v3 → sameR a b = (v1 && (v2 && v3 || FloatKind.f64.format.order a b == some Ordering.eq)) := by
    rintro _ _ _ rfl rfl rfl; rfl
  cases h1 : (knd a == knd b) <;> cases h2 : (knd a != 2) <;> cases h3 : (knd a != 5)
  all_goals
    rw [e _ _ _ h1 h2 h3]
    clear e E
    generalize knd a = x at *
    generalize knd b = y at *
    go_enter Try.func14, Try.ntmps14
    go_wp2_with (go_at_call 31; ((with_reducible first | refine (hA _).mono ?_ | refine (hB _).mono ?_); rintro e w' ⟨rfl, rfl⟩))
    go_ret
    exact ⟨rfl, rfl⟩
end Go.Proofs.Ytlnfffenahjcnaa
