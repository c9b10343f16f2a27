/-
  strings.ContainsRune of the two blanks, at a byte's rune.
-/
import Derived.Test.YtjddmcecllhlhaaDoorCuq
namespace Go.Proofs.YtjddmcecllhlhaaDoor
open Go.RowKit
def blanks : ByteArray := ⟨#[32, 9]⟩
theorem encode_two (r : Int) (h0 : 128 ≤ r) (h1 : r < 256) : ∃ a b : UInt8, Utf8.encode r = ⟨#[a, b]⟩ ∧ 128 ≤ b.toNat := by
  have hv : Utf8.valid r = true := by unfold Utf8.valid; simp; omega
  have hb : ∀ n : Nat, 128 ≤ (UInt8.ofNat (128 + n % 64)).toNat := fun n => by
    rw [UInt8.toNat_ofNat']
    omega
  unfold Utf8.encode
  simp only [hv, if_true]
  rw [if_neg (by omega), if_pos (by omega)]
  exact ⟨_, _, rfl, hb _⟩
theorem ValidRune_y (r : Int) (h0 : 128 ≤ r) (h1 : r < 256) (w : World) : Calls Tryd.prog 110 #[.int .i32 r] w fun e w' => e = .returned (.bool true) ∧ w = w' := by
  have g0 : 0 ≤ r := by omega
  have g1 : r < 55296 := by omega
  go_enter Tryd.func110, Tryd.ntmps110
  go_wp2
  go_ret
  exact ⟨rfl, rfl⟩
set_option maxRecDepth 100000 in
set_option maxHeartbeats 4000000 in
theorem IndexRune_two (r : Int) (h0 : 128 ≤ r) (h1 : r < 256) (w : World) : Calls Tryd.prog 82 #[.string blanks, .int .i32 r] w fun e w' => e = .returned (.int .i64 (-1)) ∧ Below w.heap.size w w' := by
  have hm : blanks.size = 2 := rfl
  have he' : (r == 65533) = false := by simp; omega
  have hv := fun w => ValidRune_y r h0 h1 w
  have g0 : ¬ r < 128 := by omega
  have g1 : 0 ≤ r := by omega
  have kb : ∀ (x : ByteArray) (b : UInt8) (w : World), Calls Tryd.prog 55 #[.string x, .int .u8 b.toNat] w fun e w' => e = .returned (.int .i64 (Lib.indexByte x.data.toList b)) ∧ w = w' := fun x b w => by
    have := Tryd.strings_IndexByte x (b.toNat : Int) w
    rw [show ((b.toNat : Int).toNat.toUInt8) = b by simp] at this
    exact this.mono fun _ _ ⟨h1, h2⟩ => ⟨h1, h2.symm⟩
  obtain ⟨a, b, hE, hb⟩ := encode_two r h0 h1
  have hn : Lib.indexByte (blanks.extract 2 2).data.toList b = -1 := rfl
  have kn := kb (blanks.extract 2 2) b
  rw [hn] at kn
  have q1 : (((blanks[1]'(by decide)).toNat : Int) != (((⟨#[a, b]⟩ : ByteArray)[1]'(by decide : 1 < 2)).toNat : Int)) = true := by
    show ((9 : Int) != (b.toNat : Int)) = true
    simp
    omega
  clear kb hn
  go_enter Tryd.func82, Tryd.ntmps82
  go_wp2_with (first | (go_at_call 110; refine (hv _).mono ?_; rintro e w' ⟨rfl, rfl⟩))
  go_step3
  go_wp2_with fail
  refine wp_loop_rounds 1 ?_
  rw [rounds_succ]
  go_wp2_with fail
  go_step3
  try go_wp2_with fail
  refine wp_region_bw (by kernel_rfl) (by kernel_rfl) ?_; (repeat (go_big_quiet_step (fail))); refine wpQuiet_nil ?_; intro _ hw'; obtain ⟨xq, hw''⟩ := hw'; subst hw''
  have b1 := xq.below
  go_wp2_with fail
  refine wp_region_bw (by kernel_rfl) (by kernel_rfl) ?_; (repeat (go_big_quiet_step ((go_at_call 55; exact bw_same (kn _))))); refine wpQuiet_nil ?_; intro _ hw'; obtain ⟨xq, hw''⟩ := hw'; subst hw''
  have b2 := xq.below
  go_wp2_with fail
  (try simp only [Exit.inBlock, Exit.then, Exit.noGoto])
  go_ret
  exact ⟨rfl, b1.trans (b2.mono b1.size)⟩
theorem blank_at (x : UInt8) (w : World) : Calls Tryd.prog 49 #[.string blanks, .int .i32 x.toNat] w fun e w' => e = .returned (.bool (x == 32 || x == 9)) ∧ Below w.heap.size w w' := by
  have hx : x.toNat < 256 := x.toNat_lt
  by_cases h : x.toNat < 128
  · refine (Tryd.strings_ContainsRune_ascii blanks (x.toNat : Int) w (by omega) (by omega)).mono ?_
    rintro e w' ⟨rfl, rfl⟩
    refine ⟨?_, Below.refl _ _⟩
    rw [show ((x.toNat : Int).toNat.toUInt8) = x by simp]
    show Ending.returned (.bool (decide (0 ≤ Lib.indexByte [32, 9] x))) = _
    by_cases h1 : x = 32
    · subst h1; rfl
    · by_cases h2 : x = 9
      · subst h2; rfl
      · simp [Lib.indexByte, Ne.symm h1, Ne.symm h2, h1, h2]
  · have e : (x == 32 || x == 9) = false := by
      have h1 : x ≠ 32 := fun h' => by rw [h'] at h; exact h (by decide)
      have h2 : x ≠ 9 := fun h' => by rw [h'] at h; exact h (by decide)
      simp [h1, h2]
    rw [e]
    have hI := IndexRune_two (x.toNat : Int) (by omega) (by omega) w
    unfold blanks at *
    go_enter Tryd.func49, Tryd.ntmps49
    go_wp2_with fail
    refine hI.mono ?_
    rintro e w1 ⟨rfl, hb⟩
    go_wp2_with fail
    go_ret
    exact ⟨rfl, hb⟩
end Go.Proofs.YtjddmcecllhlhaaDoor
