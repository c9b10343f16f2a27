/-
  Contracts of the divisions, of leap years and of the lengths of months.
-/
import Derived.Test.YtjddmcecllhlhaaDoorNum
import Derived.Test.YtjddmcecllhlhaaDoorCal
import Derived.LoopN
namespace Go.Proofs.YtjddmcecllhlhaaDoor
open Go.RowKit Cal

theorem wrap_sm {n : Int} (h0 : 0 ≤ n) (h1 : n ≤ 9223372036854775807) : IntKind.i64.wrap n = n := by
  have := IntWalk.i64_in n ⟨by omega, h1⟩
  exact this
theorem bits_mask (k : Nat) (hk : k ≤ 4) (y : Int) : bits .and .i64 y ((2 ^ k - 1 : Nat) : Int) = y % (2 ^ k : Nat) := by
  have hk' : k = 0 ∨ k = 1 ∨ k = 2 ∨ k = 3 ∨ k = 4 := by omega
  show IntKind.i64.wrap ((BitVec.ofInt 64 y &&& BitVec.ofInt 64 ((2 ^ k - 1 : Nat) : Int)).toNat : Int) = _
  rw [BitVec.toNat_and, BitVec.ofInt_natCast, BitVec.toNat_ofNat, BitVec.toNat_ofInt]
  have e : (2 ^ k - 1) % 2 ^ 64 = 2 ^ k - 1 := by rcases hk' with rfl | rfl | rfl | rfl | rfl <;> rfl
  rw [e, Nat.and_two_pow_sub_one_eq_mod]
  rw [wrap_sm (by omega) (by rcases hk' with rfl | rfl | rfl | rfl | rfl <;> omega)]
  rcases hk' with rfl | rfl | rfl | rfl | rfl <;> simp <;> omega
theorem and3 (y : Int) : bits .and .i64 y 3 = y % 4 := bits_mask 2 (by omega) y
theorem and15 (y : Int) : bits .and .i64 y 15 = y % 16 := bits_mask 4 (by omega) y

/-- The sign of an exclusive or. -/
theorem xor_neg (x y : Int) (hx : I64 x) (hy : I64 y) (h0 : 0 < y) : bits .xor .i64 x y < 0 ↔ x < 0 := by
  have hw : bits .xor .i64 x y = (BitVec.ofInt 64 x ^^^ BitVec.ofInt 64 y).toInt := by
    show IntKind.i64.wrap ((BitVec.ofInt 64 x ^^^ BitVec.ofInt 64 y).toNat : Int) = _
    rw [BitVec.toInt_eq_toNat_bmod, IntKind.wrap_i64]
    have := (BitVec.ofInt 64 x ^^^ BitVec.ofInt 64 y).isLt
    generalize (BitVec.ofInt 64 x ^^^ BitVec.ofInt 64 y).toNat = n at *
    simp only [Int.bmod]
    split <;> omega
  have hxm : (BitVec.ofInt 64 x).msb = decide (x < 0) := by
    rw [BitVec.msb_eq_toInt, BitVec.toInt_ofInt, Int.bmod_eq_of_le (by unfold I64 at hx; simp; omega) (by unfold I64 at hx; simp; omega)]
  have hym : (BitVec.ofInt 64 y).msb = false := by
    rw [BitVec.msb_eq_toInt, BitVec.toInt_ofInt, Int.bmod_eq_of_le (by unfold I64 at hy; simp; omega) (by unfold I64 at hy; simp; omega)]
    simp; omega
  have hm := BitVec.msb_eq_toInt (x := BitVec.ofInt 64 x ^^^ BitVec.ofInt 64 y)
  rw [BitVec.msb_xor, hxm, hym] at hm
  rw [hw]
  simp only [Bool.bne_false] at hm
  constructor
  · intro h
    have : decide ((BitVec.ofInt 64 x ^^^ BitVec.ofInt 64 y).toInt < 0) = true := by simpa using h
    rw [← hm] at this
    simpa using this
  · intro h
    have : decide (x < 0) = true := by simpa using h
    rw [hm] at this
    simpa using this

theorem tdiv_cases (a b : Int) (h0 : 0 < b) : (a.tmod b = 0 ∧ a.tdiv b = a / b ∧ a % b = 0) ∨ (0 < a.tmod b ∧ a.tdiv b = a / b ∧ a.tmod b = a % b) ∨ (a.tmod b < 0 ∧ a.tdiv b - 1 = a / b ∧ a.tmod b + b = a % b ∧ 0 < a % b) := by
  have b3 := Int.emod_nonneg a (show b ≠ 0 by omega)
  have b4 := Int.emod_lt_of_pos a h0
  have e1 := Int.tmod_add_mul_tdiv a b
  have e2 := Int.emod_add_mul_ediv a b
  have key : ∀ q r : Int, r + b * q = a → 0 ≤ r → r < b → q = a / b ∧ r = a % b := by
    intro q r h hr hb
    have hq : a / b = q := by
      rw [Int.ediv_eq_iff_of_pos h0]
      constructor
      · rw [Int.mul_comm]; omega
      · rw [Int.mul_comm]; omega
    rw [hq] at e2
    exact ⟨hq.symm, by omega⟩
  by_cases h : a < 0
  · have hn : a.tmod b ≤ 0 := by
      have := Int.tmod_nonneg b (show 0 ≤ -a by omega)
      rw [Int.neg_tmod] at this
      omega
    have hl : -b < a.tmod b := by
      have := Int.tmod_lt_of_pos (-a) h0
      rw [Int.neg_tmod] at this
      omega
    by_cases hz : a.tmod b = 0
    · obtain ⟨x, y⟩ := key _ _ e1 (by omega) (by omega)
      exact .inl ⟨hz, x, by omega⟩
    · obtain ⟨x, y⟩ := key (a.tdiv b - 1) (a.tmod b + b) (by rw [Int.mul_sub]; omega) (by omega) (by omega)
      exact .inr (.inr ⟨by omega, x, y, by omega⟩)
  · have hn := Int.tmod_nonneg b (show 0 ≤ a by omega)
    have hl := Int.tmod_lt_of_pos a h0
    obtain ⟨x, y⟩ := key _ _ e1 hn hl
    by_cases hz : a.tmod b = 0
    · exact .inl ⟨hz, x, by omega⟩
    · exact .inr (.inl ⟨by omega, x, y⟩)
theorem tmod_bd (a b : Int) (h0 : 0 < b) : -b < a.tmod b ∧ a.tmod b < b := by
  have b1 := Int.emod_nonneg a (show b ≠ 0 by omega)
  have b2 := Int.emod_lt_of_pos a h0
  rcases tdiv_cases a b h0 with ⟨h, _⟩ | ⟨h, _, h2⟩ | ⟨h, _, h2⟩
  · omega
  · omega
  · omega
theorem tmod0 (a b : Int) (h0 : 0 < b) : a.tmod b = 0 ↔ a % b = 0 := by
  rcases tdiv_cases a b h0 with ⟨h, _, h2⟩ | ⟨h, _, h2⟩ | ⟨h, _, h2, h3⟩
  · omega
  · omega
  · omega
theorem civil_Leap (y : Int) (ky : I64 y) (w : World) : Calls Tryd.prog 100 #[.int .i64 y] w fun e w' => e = .returned (.bool (lpB y)) ∧ w = w' := by
  have e1 := and3 y
  have e2 := and15 y
  have e3 := tmod0 y 25 (by omega)
  have E1 := Lib.hid e1
  have E2 := Lib.hid e2
  have E3 := Lib.hid e3
  clear e1 e2 e3
  go_enter Tryd.func100, Tryd.ntmps100
  go_wp2
  all_goals go_ret
  all_goals refine ⟨ret_bool ?_, rfl⟩
  all_goals
    have e1 := E1.out
    have e2 := E2.out
    have e3 := E3.out
    clear E1 E2 E3
    rw [Bool.eq_iff_iff]
    simp only [lpB, decide_eq_true_eq, beq_iff_eq, Bool.false_eq_true, false_iff, true_iff]
    omega
set_option maxHeartbeats 4000000 in
theorem num_Div (a b : Int) (ka : I64 a) (h0 : 0 < b) (h1 : b ≤ 1000000000) (w : World) : Calls Tryd.prog 130 #[.int .i64 a, .int .i64 b] w fun e w' => e = .returned (.tuple #[.int .i64 (a / b), .int .i64 (a % b), .int .i64 0]) ∧ Below w.heap.size w w' := by
  have hb0 : (b == 0) = false := by simp; omega
  have hb1 : (b == -1) = false := by simp; omega
  have bd := tmod_bd a b h0
  have kr : I64 (a.tmod b) := I64.sm (by omega)
  have kb : I64 b := I64.sm (by omega)
  have hx := xor_neg (a.tmod b) b kr kb h0
  have kd0 : -9223372036854775808 ≤ a / b := by
    unfold I64 at ka
    exact Int.le_ediv_of_mul_le h0 (by omega)
  have kd1 : a / b ≤ 9223372036854775806 + 1 := by
    unfold I64 at ka
    by_cases h : 0 ≤ a
    · exact Int.le_trans (Int.ediv_le_self b h) (by omega)
    · have := Int.ediv_neg_of_neg_of_pos (show a < 0 by omega) h0
      omega
  by_cases ha : (a == -9223372036854775808) = true
  all_goals
    try have ha' : (a == -9223372036854775808) = false := by simpa using ha
    rcases tdiv_cases a b h0 with ⟨t, q, r⟩ | ⟨t, q, r⟩ | ⟨t, q, r, _⟩
    · have k0 : -9223372036854775808 ≤ a.tdiv b := by omega
      have k1 : a.tdiv b ≤ 9223372036854775807 := by omega
      have t' : (a.tmod b != 0) = false := by simp [t]
      have T := Lib.hid t
      have H := Lib.hid q
      have R := Lib.hid r
      clear q r hx kr kb bd ka kd0 kd1 t h1
      go_enter Tryd.func130, Tryd.ntmps130
      go_wp2
      go_quiet (fail)
      go_wp2
      go_ret3
      exact ⟨ret3 H.out (by rw [T.out, R.out]) rfl, below_drewN (Below.refl _ _) _⟩
    · have k0 : -9223372036854775808 ≤ a.tdiv b := by omega
      have k1 : a.tdiv b ≤ 9223372036854775807 := by omega
      have t' : (a.tmod b != 0) = true := by rw [bne_iff_ne]; omega
      have hx' : decide (bits .xor .i64 (a.tmod b) b < 0) = false := decide_eq_false (fun h => by have := hx.1 h; omega)
      have H := Lib.hid q
      have R := Lib.hid r
      clear q r hx kr kb bd ka kd0 kd1 h1
      go_enter Tryd.func130, Tryd.ntmps130
      go_wp2
      go_quiet (fail)
      go_wp2
      go_ret3
      exact ⟨ret3 H.out R.out rfl, below_drewN (Below.refl _ _) _⟩
    · have an : a / b < 0 := by
        by_cases h : a < 0
        · exact Int.ediv_neg_of_neg_of_pos h h0
        · have := Int.tmod_nonneg b (show 0 ≤ a by omega)
          omega
      have k0 : -9223372036854775808 ≤ a.tdiv b - 1 := by omega
      have k1 : a.tdiv b ≤ 9223372036854775807 := by omega
      have k2 : a.tmod b + b ≤ 9223372036854775807 := by omega
      have k3 : -9223372036854775808 ≤ a.tmod b := by omega
      have t' : (a.tmod b != 0) = true := by rw [bne_iff_ne]; omega
      have hx' : decide (bits .xor .i64 (a.tmod b) b < 0) = true := decide_eq_true (hx.2 t)
      have H := Lib.hid q
      have R := Lib.hid r
      clear q r hx kr kb bd ka kd0 kd1 h1 an
      go_enter Tryd.func130, Tryd.ntmps130
      go_wp2
      go_quiet (fail)
      go_wp2
      go_ret3
      exact ⟨ret3 H.out R.out rfl, below_drewN (Below.refl _ _) _⟩

theorem num_Div_sm (a b : Int) (ka : I64 a) (h0 : 0 < b) (h1 : b ≤ 1000000000) (w : World) : Calls Tryd.prog 130 #[.int .i64 a, .int .i64 b] w fun e w' => e = .returned (.tuple #[.int .i64 (a / b), .int .i64 (a % b), .int .i64 0]) ∧ Below w.heap.size w w' := num_Div a b ka h0 h1 w

theorem rdiv_fact (a b : Int) (h0 : 0 < b) : (b == 0) = false ∧ (b == -1) = false := by
  constructor <;> simp <;> omega
theorem mlen_cases (y m : Int) : (m < 1 ∧ mlen y m = 0) ∨ (12 < m ∧ mlen y m = 0) ∨ (m = 1 ∧ mlen y m = 31) ∨ (m = 2 ∧ mlen y m = 28 + lp y) ∨ (m = 3 ∧ mlen y m = 31) ∨ (m = 4 ∧ mlen y m = 30) ∨ (m = 5 ∧ mlen y m = 31) ∨ (m = 6 ∧ mlen y m = 30) ∨ (m = 7 ∧ mlen y m = 31) ∨
    (m = 8 ∧ mlen y m = 31) ∨ (m = 9 ∧ mlen y m = 30) ∨ (m = 10 ∧ mlen y m = 31) ∨ (m = 11 ∧ mlen y m = 30) ∨ (m = 12 ∧ mlen y m = 31) := by
  by_cases h : m < 1
  · exact .inl ⟨h, by unfold mlen; rw [if_neg (by omega), if_neg (by omega), if_neg (by omega)]⟩
  · by_cases h' : 12 < m
    · exact .inr (.inl ⟨h', by unfold mlen; rw [if_neg (by omega), if_neg (by omega), if_neg (by omega)]⟩)
    · obtain rfl | rfl | rfl | rfl | rfl | rfl | rfl | rfl | rfl | rfl | rfl | rfl : m = 1 ∨ m = 2 ∨ m = 3 ∨ m = 4 ∨ m = 5 ∨ m = 6 ∨ m = 7 ∨ m = 8 ∨ m = 9 ∨ m = 10 ∨ m = 11 ∨ m = 12 := by omega
      all_goals simp [mlen]
theorem civil_Len2a (y : Int) (ky : I64 y) (hl : lpB y = true) (w : World) : Calls Tryd.prog 69 #[.int .i64 y, .int .i64 2] w fun e w' => e = .returned (.int .i64 29) ∧ w = w' := by
  have hc := fun w => civil_Leap y ky w
  rw [hl] at hc
  clear hl
  go_enter Tryd.func69, Tryd.ntmps69
  go_wp2_with (go_at_call 100; refine (hc _).mono ?_; rintro e w' ⟨rfl, rfl⟩)
  go_ret
  exact ⟨rfl, rfl⟩
theorem civil_Len2b (y : Int) (ky : I64 y) (hl : lpB y = false) (w : World) : Calls Tryd.prog 69 #[.int .i64 y, .int .i64 2] w fun e w' => e = .returned (.int .i64 28) ∧ w = w' := by
  have hc := fun w => civil_Leap y ky w
  rw [hl] at hc
  clear hl
  go_enter Tryd.func69, Tryd.ntmps69
  go_wp2_with (go_at_call 100; refine (hc _).mono ?_; rintro e w' ⟨rfl, rfl⟩)
  go_ret
  exact ⟨rfl, rfl⟩
theorem civil_Len2 (y : Int) (ky : I64 y) (w : World) : Calls Tryd.prog 69 #[.int .i64 y, .int .i64 2] w fun e w' => e = .returned (.int .i64 (28 + lp y)) ∧ w = w' := by
  rcases lp_01 y with ⟨e1, e2⟩ | ⟨e1, e2⟩
  · have e : 28 + lp y = 28 := by omega
    rw [e]; exact civil_Len2b y ky e2 w
  · have e : 28 + lp y = 29 := by omega
    rw [e]; exact civil_Len2a y ky e2 w
theorem civil_Len1 (y : Int) (w : World) : Calls Tryd.prog 69 #[.int .i64 y, .int .i64 1] w fun e w' => e = .returned (.int .i64 31) ∧ w = w' := by
  go_enter Tryd.func69, Tryd.ntmps69
  go_wp2
  go_ret
  exact ⟨rfl, rfl⟩
theorem civil_Len3 (y : Int) (w : World) : Calls Tryd.prog 69 #[.int .i64 y, .int .i64 3] w fun e w' => e = .returned (.int .i64 31) ∧ w = w' := by
  go_enter Tryd.func69, Tryd.ntmps69
  go_wp2
  go_ret
  exact ⟨rfl, rfl⟩
theorem civil_Len4 (y : Int) (w : World) : Calls Tryd.prog 69 #[.int .i64 y, .int .i64 4] w fun e w' => e = .returned (.int .i64 30) ∧ w = w' := by
  go_enter Tryd.func69, Tryd.ntmps69
  go_wp2
  go_ret
  exact ⟨rfl, rfl⟩
theorem civil_Len5 (y : Int) (w : World) : Calls Tryd.prog 69 #[.int .i64 y, .int .i64 5] w fun e w' => e = .returned (.int .i64 31) ∧ w = w' := by
  go_enter Tryd.func69, Tryd.ntmps69
  go_wp2
  go_ret
  exact ⟨rfl, rfl⟩
theorem civil_Len6 (y : Int) (w : World) : Calls Tryd.prog 69 #[.int .i64 y, .int .i64 6] w fun e w' => e = .returned (.int .i64 30) ∧ w = w' := by
  go_enter Tryd.func69, Tryd.ntmps69
  go_wp2
  go_ret
  exact ⟨rfl, rfl⟩
theorem civil_Len7 (y : Int) (w : World) : Calls Tryd.prog 69 #[.int .i64 y, .int .i64 7] w fun e w' => e = .returned (.int .i64 31) ∧ w = w' := by
  go_enter Tryd.func69, Tryd.ntmps69
  go_wp2
  go_ret
  exact ⟨rfl, rfl⟩
theorem civil_Len8 (y : Int) (w : World) : Calls Tryd.prog 69 #[.int .i64 y, .int .i64 8] w fun e w' => e = .returned (.int .i64 31) ∧ w = w' := by
  go_enter Tryd.func69, Tryd.ntmps69
  go_wp2
  go_ret
  exact ⟨rfl, rfl⟩
theorem civil_Len9 (y : Int) (w : World) : Calls Tryd.prog 69 #[.int .i64 y, .int .i64 9] w fun e w' => e = .returned (.int .i64 30) ∧ w = w' := by
  go_enter Tryd.func69, Tryd.ntmps69
  go_wp2
  go_ret
  exact ⟨rfl, rfl⟩
theorem civil_Len10 (y : Int) (w : World) : Calls Tryd.prog 69 #[.int .i64 y, .int .i64 10] w fun e w' => e = .returned (.int .i64 31) ∧ w = w' := by
  go_enter Tryd.func69, Tryd.ntmps69
  go_wp2
  go_ret
  exact ⟨rfl, rfl⟩
theorem civil_Len11 (y : Int) (w : World) : Calls Tryd.prog 69 #[.int .i64 y, .int .i64 11] w fun e w' => e = .returned (.int .i64 30) ∧ w = w' := by
  go_enter Tryd.func69, Tryd.ntmps69
  go_wp2
  go_ret
  exact ⟨rfl, rfl⟩
theorem civil_Len12 (y : Int) (w : World) : Calls Tryd.prog 69 #[.int .i64 y, .int .i64 12] w fun e w' => e = .returned (.int .i64 31) ∧ w = w' := by
  go_enter Tryd.func69, Tryd.ntmps69
  go_wp2
  go_ret
  exact ⟨rfl, rfl⟩
theorem civil_Len0 (y m : Int) (h : m < 1 ∨ 12 < m) (w : World) : Calls Tryd.prog 69 #[.int .i64 y, .int .i64 m] w fun e w' => e = .returned (.int .i64 0) ∧ w = w' := by
  rcases h with h | h
  all_goals
    go_enter Tryd.func69, Tryd.ntmps69
    go_wp2
    go_ret
    exact ⟨rfl, rfl⟩
theorem civil_Len (y m : Int) (ky : I64 y) (w : World) : Calls Tryd.prog 69 #[.int .i64 y, .int .i64 m] w fun e w' => e = .returned (.int .i64 (mlen y m)) ∧ w = w' := by
  rcases mlen_cases y m with ⟨h, e⟩ | ⟨h, e⟩ | ⟨rfl, e⟩ | ⟨rfl, e⟩ | ⟨rfl, e⟩ | ⟨rfl, e⟩ | ⟨rfl, e⟩ | ⟨rfl, e⟩ | ⟨rfl, e⟩ | ⟨rfl, e⟩ | ⟨rfl, e⟩ | ⟨rfl, e⟩ | ⟨rfl, e⟩ | ⟨rfl, e⟩
  · rw [e]; exact civil_Len0 y m (.inl h) w
  · rw [e]; exact civil_Len0 y m (.inr h) w
  · rw [e]; exact civil_Len1 y w
  · rw [e]; exact civil_Len2 y ky w
  · rw [e]; exact civil_Len3 y w
  · rw [e]; exact civil_Len4 y w
  · rw [e]; exact civil_Len5 y w
  · rw [e]; exact civil_Len6 y w
  · rw [e]; exact civil_Len7 y w
  · rw [e]; exact civil_Len8 y w
  · rw [e]; exact civil_Len9 y w
  · rw [e]; exact civil_Len10 y w
  · rw [e]; exact civil_Len11 y w
  · rw [e]; exact civil_Len12 y w
end Go.Proofs.YtjddmcecllhlhaaDoor
