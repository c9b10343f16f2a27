/-
  Contracts of far, of bits.Mul64 and of num.Mul.
-/
import Derived.Test.YtblmlglkjmilkacDoorNum
import Derived.Shelf.Bits.Mul64
namespace Go.Proofs.YtblmlglkjmilkacDoor
open Go.RowKit Go.Lib

set_option maxHeartbeats 1000000 in
theorem bits_Mul64 (x y : Nat) (hx : x < 18446744073709551616) (hy : y < 18446744073709551616) (w : World) :
    Calls Tryd.prog 108 #[.int .u64 x, .int .u64 y] w fun e w' => e = .returned (.tuple #[.int .u64 ((x * y / 18446744073709551616 : Nat) : Int), .int .u64 ((x * y % 18446744073709551616 : Nat) : Int)]) ∧ w = w' := by
  obtain ⟨bd, bt, bw, hhi⟩ := Lib.mul64_hi x y hx hy
  have ba := Lib.half_mul_le (a := x / 4294967296) (b := y / 4294967296) (by omega) (by omega)
  have bb := Lib.half_mul_le (a := x / 4294967296) (b := y % 4294967296) (by omega) (by omega)
  have bc := Lib.half_mul_le (a := x % 4294967296) (b := y / 4294967296) (by omega) (by omega)
  have ba' : x / 4294967296 * (y / 4294967296) < 18446744073709551616 := by omega
  have bb' : x / 4294967296 * (y % 4294967296) < 18446744073709551616 := by omega
  have bc' : x % 4294967296 * (y / 4294967296) < 18446744073709551616 := by omega
  have bh1 : x / 4294967296 * (y / 4294967296) + (x / 4294967296 * (y % 4294967296) + x % 4294967296 * (y % 4294967296) / 4294967296) / 4294967296 < 18446744073709551616 := by omega
  have bh : x / 4294967296 * (y / 4294967296) + (x / 4294967296 * (y % 4294967296) + x % 4294967296 * (y % 4294967296) / 4294967296) / 4294967296 + ((x / 4294967296 * (y % 4294967296) + x % 4294967296 * (y % 4294967296) / 4294967296) % 4294967296 + x % 4294967296 * (y / 4294967296)) / 4294967296 < 18446744073709551616 := by omega
  go_enter Tryd.func108, Tryd.ntmps108
  go_wp2
  simp only [Mul64.maskN x hx, Mul64.maskN y hy, Mul64.divN, Mul64.mulN, Mul64.addN, Mul64.wrapN _ bd, Mul64.wrapN _ bb', Mul64.wrapN _ bt, Mul64.maskN _ bt, Mul64.wrapN _ bc', Mul64.wrapN _ bw, Mul64.wrapN _ ba', Mul64.wrapN _ bh1, Mul64.wrapN _ bh, Mul64.wrapM (x * y)]
  rw [hhi]
  go_ret2
  exact ⟨rfl, rfl⟩

theorem num_far (a : Int) (ka : I64 a) (w : World) : Calls Tryd.prog 60 #[.int .i64 a] w fun e w' => e = .returned (.int .u64 (a.natAbs : Int)) ∧ w = w' := by
  by_cases h : a < 0
  · have e1 : IntKind.u64.wrap (-IntKind.u64.wrap a) = (a.natAbs : Int) := by
      rw [IntKind.wrap_u64, IntKind.wrap_u64]; unfold I64 at ka; omega
    have E := Lib.hid e1
    clear e1
    go_enter Tryd.func60, Tryd.ntmps60
    go_wp2
    go_ret
    exact ⟨ret_int E.out, rfl⟩
  · have h' : 0 ≤ a := by omega
    have e1 : IntKind.u64.wrap a = (a.natAbs : Int) := by
      rw [IntKind.wrap_u64]; unfold I64 at ka; omega
    have E := Lib.hid e1
    clear e1 h
    go_enter Tryd.func60, Tryd.ntmps60
    go_wp2
    go_ret
    exact ⟨ret_int (by first | exact E.out | omega), rfl⟩
theorem mul_abs (a b : Int) : (a * b = ((a.natAbs * b.natAbs : Nat) : Int) ∧ (decide (a < 0) != decide (b < 0)) = false) ∨ (a * b = -((a.natAbs * b.natAbs : Nat) : Int) ∧ (decide (a < 0) != decide (b < 0)) = true) := by
  by_cases ha : a < 0 <;> by_cases hb : b < 0
  · left
    refine ⟨?_, by simp [ha, hb]⟩
    have e1 : a = -(a.natAbs : Int) := by omega
    have e2 : b = -(b.natAbs : Int) := by omega
    generalize a.natAbs = x at *
    generalize b.natAbs = y at *
    rw [e1, e2, Int.natCast_mul]
    try simp only [Int.neg_mul, Int.mul_neg, Int.neg_neg]
  · right
    refine ⟨?_, by simp [ha, hb]⟩
    have e1 : a = -(a.natAbs : Int) := by omega
    have e2 : b = (b.natAbs : Int) := by omega
    generalize a.natAbs = x at *
    generalize b.natAbs = y at *
    rw [e1, e2, Int.natCast_mul]
    try simp only [Int.neg_mul, Int.mul_neg, Int.neg_neg]
  · right
    refine ⟨?_, by simp [ha, hb]⟩
    have e1 : a = (a.natAbs : Int) := by omega
    have e2 : b = -(b.natAbs : Int) := by omega
    generalize a.natAbs = x at *
    generalize b.natAbs = y at *
    rw [e1, e2, Int.natCast_mul]
    try simp only [Int.neg_mul, Int.mul_neg, Int.neg_neg]
  · left
    refine ⟨?_, by simp [ha, hb]⟩
    have e1 : a = (a.natAbs : Int) := by omega
    have e2 : b = (b.natAbs : Int) := by omega
    generalize a.natAbs = x at *
    generalize b.natAbs = y at *
    rw [e1, e2, Int.natCast_mul]
    try simp only [Int.neg_mul, Int.mul_neg, Int.neg_neg]
theorem mul_far {m p H L : Int} (hp : p = H * 18446744073709551616 + L) (L0 : 0 ≤ L) (L1 : L < 18446744073709551616) (H0 : 0 ≤ H) (hm : m = p)  :
    ((0 < H ∨ 9223372036854775808 ≤ L) → okI m = false) ∧ ((H = 0 ∧ L < 9223372036854775808) → okI m = true ∧ m = L) := by
  refine ⟨fun h => ?_, fun h => ⟨okI_y (by omega), by omega⟩⟩
  cases hc : okI m
  · rfl
  · simp only [okI, decide_eq_true_eq] at hc; omega
theorem mul_near {m p H L : Int} (hp : p = H * 18446744073709551616 + L) (L0 : 0 ≤ L) (L1 : L < 18446744073709551616) (H0 : 0 ≤ H) (hm : m = -p)  :
    ((0 < H ∨ 9223372036854775808 < L) → okI m = false) ∧ ((H = 0 ∧ L ≤ 9223372036854775808) → okI m = true ∧ m = wrap64 (IntKind.u64.wrap (-L))) := by
  refine ⟨fun h => ?_, fun h => ⟨okI_y (by omega), ?_⟩⟩
  · cases hc : okI m
    · rfl
    · simp only [okI, decide_eq_true_eq] at hc; omega
  · rw [IntKind.wrap_u64]; unfold wrap64; omega
set_option maxHeartbeats 4000000 in
theorem num_Mul_y (a b : Int) (ka : I64 a) (kb : I64 b) (sg : (a < 0 ∧ b < 0) ∨ (0 ≤ a ∧ 0 ≤ b)) (w : World) : Calls Tryd.prog 59 #[.int .i64 a, .int .i64 b] w fun e w' => e = .returned (.tuple #[.int .i64 (valI (a * b)), .int .i64 (errI (a * b))]) ∧ w = w' := by
  have hx : a.natAbs < 18446744073709551616 := by unfold I64 at ka; omega
  have hy : b.natAbs < 18446744073709551616 := by unfold I64 at kb; omega
  have hA := fun w => num_far a ka w
  have hB := fun w => num_far b kb w
  have hM := fun w => bits_Mul64 a.natAbs b.natAbs hx hy w
  have hs : a * b = ((a.natAbs * b.natAbs : Nat) : Int) := by
    rcases mul_abs a b with ⟨h1, h2⟩ | ⟨h1, h2⟩
    · exact h1
    · exfalso; rcases sg with ⟨u, v⟩ | ⟨u, v⟩ <;> simp [u, v, show ¬ (a < 0) ↔ 0 ≤ a from by omega] at h2 <;> omega
  generalize a.natAbs * b.natAbs = p at *
  generalize hH : ((p / 18446744073709551616 : Nat) : Int) = H at *
  generalize hL : ((p % 18446744073709551616 : Nat) : Int) = L at *
  have L0 : 0 ≤ L := by omega
  have L1 : L < 18446744073709551616 := by omega
  have H0 : 0 ≤ H := by omega
  have hp : (p : Int) = H * 18446744073709551616 + L := by omega
  obtain ⟨k1, k2⟩ := mul_far hp L0 L1 H0 hs
  generalize a * b = m at *
  have f1 : (decide (a < 0) == decide (b < 0)) = true := by rcases sg with ⟨u, v⟩ | ⟨u, v⟩ <;> simp [u, v] <;> omega
  have f2 : ((!decide (a < 0)) == decide (b < 0)) = false := by rcases sg with ⟨u, v⟩ | ⟨u, v⟩ <;> simp [u, v] <;> omega
  clear hH hL hx hy hs hp sg
  by_cases c1 : 0 < H
  · rw [(valI_n (k1 (.inl c1))).1, (valI_n (k1 (.inl c1))).2]
    clear k1 k2
    go_enter Tryd.func59, Tryd.ntmps59
    go_wp2_with (first | (go_at_call 60; with_reducible refine (hA _).mono ?_; rintro e w' ⟨rfl, rfl⟩) | (go_at_call 60; with_reducible refine (hB _).mono ?_; rintro e w' ⟨rfl, rfl⟩) | (go_at_call 108; refine (hM _).mono ?_; rintro e w' ⟨rfl, rfl⟩))
    go_ret2
    exact ⟨rfl, rfl⟩
  obtain rfl : H = 0 := by omega
  clear c1
  by_cases c2 : 9223372036854775808 ≤ L
  · rw [(valI_n (k1 (.inr c2))).1, (valI_n (k1 (.inr c2))).2]
    clear k1 k2
    by_cases c3 : L = 9223372036854775808
    · subst c3
      go_enter Tryd.func59, Tryd.ntmps59
      go_wp2_with (first | (go_at_call 60; with_reducible refine (hA _).mono ?_; rintro e w' ⟨rfl, rfl⟩) | (go_at_call 60; with_reducible refine (hB _).mono ?_; rintro e w' ⟨rfl, rfl⟩) | (go_at_call 108; refine (hM _).mono ?_; rintro e w' ⟨rfl, rfl⟩))
      go_ret2
      exact ⟨rfl, rfl⟩
    · have c4 : 9223372036854775808 < L := by omega
      clear c3
      go_enter Tryd.func59, Tryd.ntmps59
      go_wp2_with (first | (go_at_call 60; with_reducible refine (hA _).mono ?_; rintro e w' ⟨rfl, rfl⟩) | (go_at_call 60; with_reducible refine (hB _).mono ?_; rintro e w' ⟨rfl, rfl⟩) | (go_at_call 108; refine (hM _).mono ?_; rintro e w' ⟨rfl, rfl⟩))
      go_ret2
      exact ⟨rfl, rfl⟩
  · obtain ⟨o1, o2⟩ := k2 ⟨rfl, by omega⟩
    rw [(valI_y o1).1, (valI_y o1).2]
    have O := Lib.hid o2
    have c3' : (L == 9223372036854775808) = false := by simp; omega
    have c4 : L ≤ 9223372036854775807 := by omega
    clear k1 k2 o1 o2 c2
    go_enter Tryd.func59, Tryd.ntmps59
    go_wp2_with (first | (go_at_call 60; with_reducible refine (hA _).mono ?_; rintro e w' ⟨rfl, rfl⟩) | (go_at_call 60; with_reducible refine (hB _).mono ?_; rintro e w' ⟨rfl, rfl⟩) | (go_at_call 108; refine (hM _).mono ?_; rintro e w' ⟨rfl, rfl⟩))
    go_ret2
    exact ⟨ret2 (by rw [O.out]) rfl, rfl⟩
set_option maxHeartbeats 4000000 in
theorem num_Mul_n (a b : Int) (ka : I64 a) (kb : I64 b) (sg : (a < 0 ∧ 0 ≤ b) ∨ (0 ≤ a ∧ b < 0)) (w : World) : Calls Tryd.prog 59 #[.int .i64 a, .int .i64 b] w fun e w' => e = .returned (.tuple #[.int .i64 (valI (a * b)), .int .i64 (errI (a * b))]) ∧ w = w' := by
  have hx : a.natAbs < 18446744073709551616 := by unfold I64 at ka; omega
  have hy : b.natAbs < 18446744073709551616 := by unfold I64 at kb; omega
  have hA := fun w => num_far a ka w
  have hB := fun w => num_far b kb w
  have hM := fun w => bits_Mul64 a.natAbs b.natAbs hx hy w
  have hs : a * b = -((a.natAbs * b.natAbs : Nat) : Int) := by
    rcases mul_abs a b with ⟨h1, h2⟩ | ⟨h1, h2⟩
    · exfalso; rcases sg with ⟨u, v⟩ | ⟨u, v⟩ <;> simp [u, v] at h2 <;> omega
    · exact h1
  generalize a.natAbs * b.natAbs = p at *
  generalize hH : ((p / 18446744073709551616 : Nat) : Int) = H at *
  generalize hL : ((p % 18446744073709551616 : Nat) : Int) = L at *
  have L0 : 0 ≤ L := by omega
  have L1 : L < 18446744073709551616 := by omega
  have H0 : 0 ≤ H := by omega
  have hp : (p : Int) = H * 18446744073709551616 + L := by omega
  obtain ⟨k1, k2⟩ := mul_near hp L0 L1 H0 hs
  generalize a * b = m at *
  have f1 : (decide (a < 0) == decide (b < 0)) = false := by rcases sg with ⟨u, v⟩ | ⟨u, v⟩ <;> simp [u, v] <;> omega
  have f2 : ((!decide (a < 0)) == decide (b < 0)) = true := by rcases sg with ⟨u, v⟩ | ⟨u, v⟩ <;> simp [u, v] <;> omega
  clear hH hL hx hy hs hp sg
  by_cases c1 : 0 < H
  · rw [(valI_n (k1 (.inl c1))).1, (valI_n (k1 (.inl c1))).2]
    clear k1 k2
    go_enter Tryd.func59, Tryd.ntmps59
    go_wp2_with (first | (go_at_call 60; with_reducible refine (hA _).mono ?_; rintro e w' ⟨rfl, rfl⟩) | (go_at_call 60; with_reducible refine (hB _).mono ?_; rintro e w' ⟨rfl, rfl⟩) | (go_at_call 108; refine (hM _).mono ?_; rintro e w' ⟨rfl, rfl⟩))
    go_ret2
    exact ⟨rfl, rfl⟩
  obtain rfl : H = 0 := by omega
  clear c1
  by_cases c2 : 9223372036854775808 < L
  · rw [(valI_n (k1 (.inr c2))).1, (valI_n (k1 (.inr c2))).2]
    clear k1 k2
    go_enter Tryd.func59, Tryd.ntmps59
    go_wp2_with (first | (go_at_call 60; with_reducible refine (hA _).mono ?_; rintro e w' ⟨rfl, rfl⟩) | (go_at_call 60; with_reducible refine (hB _).mono ?_; rintro e w' ⟨rfl, rfl⟩) | (go_at_call 108; refine (hM _).mono ?_; rintro e w' ⟨rfl, rfl⟩))
    go_ret2
    exact ⟨rfl, rfl⟩
  · obtain ⟨o1, o2⟩ := k2 ⟨rfl, by omega⟩
    rw [(valI_y o1).1, (valI_y o1).2]
    have O := Lib.hid o2
    have c4 : L ≤ 9223372036854775808 := by omega
    clear k1 k2 o1 o2 c2
    by_cases c3 : L = 9223372036854775808
    · subst c3
      go_enter Tryd.func59, Tryd.ntmps59
      go_wp2_with (first | (go_at_call 60; with_reducible refine (hA _).mono ?_; rintro e w' ⟨rfl, rfl⟩) | (go_at_call 60; with_reducible refine (hB _).mono ?_; rintro e w' ⟨rfl, rfl⟩) | (go_at_call 108; refine (hM _).mono ?_; rintro e w' ⟨rfl, rfl⟩))
      go_ret2
      exact ⟨ret2 (by rw [O.out]) rfl, rfl⟩
    · have c3' : (L == 9223372036854775808) = false := by simpa using c3
      clear c3
      go_enter Tryd.func59, Tryd.ntmps59
      go_wp2_with (first | (go_at_call 60; with_reducible refine (hA _).mono ?_; rintro e w' ⟨rfl, rfl⟩) | (go_at_call 60; with_reducible refine (hB _).mono ?_; rintro e w' ⟨rfl, rfl⟩) | (go_at_call 108; refine (hM _).mono ?_; rintro e w' ⟨rfl, rfl⟩))
      go_ret2
      exact ⟨ret2 (by rw [O.out]) rfl, rfl⟩
theorem num_Mul (a b : Int) (ka : I64 a) (kb : I64 b) (w : World) : Calls Tryd.prog 59 #[.int .i64 a, .int .i64 b] w fun e w' => e = .returned (.tuple #[.int .i64 (valI (a * b)), .int .i64 (errI (a * b))]) ∧ w = w' := by
  by_cases h : (a < 0 ∧ b < 0) ∨ (0 ≤ a ∧ 0 ≤ b)
  · exact num_Mul_y a b ka kb h w
  · exact num_Mul_n a b ka kb (by omega) w
end Go.Proofs.YtblmlglkjmilkacDoor
