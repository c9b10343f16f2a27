/-
  strings.IndexRune at a rune beyond ASCII, in three marks; strings.ContainsAny at whatever bytes.
-/
import Derived.Test.YtjddmcecllhlhaaDoorShx
import Derived.Test.YtjddmcecllhlhaaDoorBase
import Derived.Laws.RangeAny
import Derived.Lib.OthersKept
import Derived.Laws.Runes
import Derived.WalkMore
namespace Go.Proofs.YtjddmcecllhlhaaDoor
open Go.RowKit
def marks : ByteArray := ⟨#[32, 9, 35]⟩
theorem ValidRune_at (r : Int) : ∃ b, ∀ w : World, Calls Tryd.prog 110 #[.int .i32 r] w fun e w' => e = .returned (.bool b) ∧ w = w' := by
  by_cases h1 : 0 ≤ r ∧ r < 55296
  · obtain ⟨h1, h2⟩ := h1
    refine ⟨true, fun w => ?_⟩
    go_enter Tryd.func110, Tryd.ntmps110
    go_wp2
    go_ret
    exact ⟨rfl, rfl⟩
  · by_cases h2 : 57343 < r ∧ r ≤ 1114111
    · obtain ⟨h2, h3⟩ := h2
      refine ⟨true, fun w => ?_⟩
      go_enter Tryd.func110, Tryd.ntmps110
      go_wp2
      all_goals first | (exfalso; omega) | (go_ret; exact ⟨rfl, rfl⟩)
    · refine ⟨false, fun w => ?_⟩
      go_enter Tryd.func110, Tryd.ntmps110
      go_wp2
      all_goals first | (exfalso; omega) | (go_ret; exact ⟨rfl, rfl⟩)
theorem encode_facts (r : Int) (h0 : 128 ≤ r) : (∃ a b : UInt8, Utf8.encode r = ⟨#[a, b]⟩ ∧ 128 ≤ b.toNat) ∨ (∃ a b c : UInt8, Utf8.encode r = ⟨#[a, b, c]⟩ ∧ 128 ≤ c.toNat) ∨ (∃ a b c d : UInt8, Utf8.encode r = ⟨#[a, b, c, d]⟩) := by
  have hb : ∀ n : Nat, 128 ≤ (UInt8.ofNat (128 + n % 64)).toNat := fun n => by
    rw [UInt8.toNat_ofNat']
    omega
  obtain ⟨c, hc, he⟩ : ∃ c : Nat, 128 ≤ c ∧ Utf8.encode r = (if c < 0x80 then ⟨#[UInt8.ofNat c]⟩ else if c < 0x800 then ⟨#[UInt8.ofNat (0xC0 + c / 64), UInt8.ofNat (0x80 + c % 64)]⟩ else if c < 0x10000 then ⟨#[UInt8.ofNat (0xE0 + c / 4096), UInt8.ofNat (0x80 + c / 64 % 64), UInt8.ofNat (0x80 + c % 64)]⟩
      else ⟨#[UInt8.ofNat (0xF0 + c / 262144), UInt8.ofNat (0x80 + c / 4096 % 64), UInt8.ofNat (0x80 + c / 64 % 64), UInt8.ofNat (0x80 + c % 64)]⟩) := by
    refine ⟨if Utf8.valid r then r.toNat else Utf8.runeError, ?_, rfl⟩
    split
    · omega
    · decide
  rw [if_neg (by omega)] at he
  by_cases h1 : c < 0x800
  · rw [if_pos h1] at he
    exact .inl ⟨_, _, he, hb c⟩
  · rw [if_neg h1] at he
    by_cases h2 : c < 0x10000
    · rw [if_pos h2] at he
      exact .inr (.inl ⟨_, _, _, he, hb c⟩)
    · rw [if_neg h2] at he
      exact .inr (.inr ⟨_, _, _, _, he⟩)
set_option maxRecDepth 100000 in
set_option maxHeartbeats 4000000 in
theorem IndexRune_high (r : Int) (h0 : 128 ≤ r) (h1 : r ≤ 2147483647) (w : World) : Calls Tryd.prog 82 #[.string marks, .int .i32 r] w fun e w' => (∃ n : Int, e = .returned (.int .i64 n)) ∧ Below w.heap.size w w' := by
  have hm : marks.size = 3 := rfl
  by_cases he : r = 65533
  · subst he
    have n0 := fun ty (w : World) => run_next_ascii (P := Tryd.prog) w marks 0 ty (by decide) (by decide)
    have n1 := fun ty (w : World) => run_next_ascii (P := Tryd.prog) w marks 1 ty (by decide) (by decide)
    have n2 := fun ty (w : World) => run_next_ascii (P := Tryd.prog) w marks 2 ty (by decide) (by decide)
    have n3 := fun ty (w : World) => run_next_end (P := Tryd.prog) w marks 3 ty (by decide)
    have e0 : ((marks[0]'(by decide)).toNat : Int) = 32 := by decide
    have e1 : ((marks[1]'(by decide)).toNat : Int) = 9 := by decide
    have e2 : ((marks[2]'(by decide)).toNat : Int) = 35 := by decide
    simp only [e0, e1, e2, Nat.reduceAdd] at n0 n1 n2
    go_enter Tryd.func82, Tryd.ntmps82
    go_wp2
    refine wp_loop_rounds 4 ?_
    rw [rounds_succ]
    go_wp2
    rw [rounds_succ]
    go_wp2
    rw [rounds_succ]
    go_wp2
    rw [rounds_succ]
    go_wp2
    go_ret
    exact ⟨⟨_, rfl⟩, (Below.refl _ w).alloc (Nat.le_refl _) (.stringIter marks 3)⟩
  · have he' : (r == 65533) = false := by simpa using he
    obtain ⟨v, hv⟩ := ValidRune_at r
    have g0 : ¬ r < 128 := by omega
    have g1 : 0 ≤ r := by omega
    cases v with
    | false =>
      go_enter Tryd.func82, Tryd.ntmps82
      go_wp2_with (go_at_call 110; refine (hv _).mono ?_; rintro e w' ⟨rfl, rfl⟩)
      go_ret
      exact ⟨⟨_, rfl⟩, Below.refl _ _⟩
    | true =>
      have kb : ∀ (x : ByteArray) (b : UInt8) (w : World), Calls Tryd.prog 55 #[.string x, .int .u8 b.toNat] w fun e w' => e = .returned (.int .i64 (Lib.indexByte x.data.toList b)) ∧ w = w' := fun x b w => by
        have := Tryd.strings_IndexByte x (b.toNat : Int) w
        rw [show ((b.toNat : Int).toNat.toUInt8) = b by simp] at this
        exact this.mono fun _ _ ⟨h1, h2⟩ => ⟨h1, h2.symm⟩
      rcases encode_facts r h0 with ⟨a, b, hE, hb⟩ | ⟨a, b, c, hE, hb⟩ | ⟨a, b, c, d, hE⟩
      · have hne : (35 : UInt8) ≠ b := fun h => by rw [← h] at hb; revert hb; decide
        have hn : Lib.indexByte (marks.extract 2 3).data.toList b = -1 := by
          show Lib.indexByte [35] b = -1
          simp [Lib.indexByte, hne]
        have kn := kb (marks.extract 2 3) b
        rw [hn] at kn
        have q1 : (((marks[1]'(by decide)).toNat : Int) != (((⟨#[a, b]⟩ : ByteArray)[1]'(by decide : 1 < 2)).toNat : Int)) = true := by
          show ((9 : Int) != (b.toNat : Int)) = true
          simp
          omega
        go_enter Tryd.func82, Tryd.ntmps82
        go_wp2_with (first | (go_at_call 110; refine (hv _).mono ?_; rintro e w' ⟨rfl, rfl⟩))
        go_step3
        go_wp2_with fail
        refine wp_loop_rounds 1 ?_
        rw [rounds_succ]
        go_wp2_with fail
        go_step3
        try go_wp2_with fail
        refine wp_region_bw (by kernel_rfl) (by kernel_rfl) ?_; (repeat (go_big_quiet_step (fail))); refine wpQuiet_nil ?_; intro _ hw'; obtain ⟨xq, hw''⟩ := hw'; subst hw''
        have b1 := xq.below
        go_wp2_with fail
        refine wp_region_bw (by kernel_rfl) (by kernel_rfl) ?_; (repeat (go_big_quiet_step ((go_at_call 55; exact bw_same (kn _))))); refine wpQuiet_nil ?_; intro _ hw'; obtain ⟨xq, hw''⟩ := hw'; subst hw''
        have b2 := xq.below
        go_wp2_with fail
        (try simp only [Exit.inBlock, Exit.then, Exit.noGoto])
        go_ret
        exact ⟨⟨_, rfl⟩, b1.trans (b2.mono b1.size)⟩
      · have hn : Lib.indexByte (marks.extract 3 3).data.toList c = -1 := rfl
        have kn := kb (marks.extract 3 3) c
        rw [hn] at kn
        have q1 : (((marks[2]'(by decide)).toNat : Int) != (((⟨#[a, b, c]⟩ : ByteArray)[2]'(by decide : 2 < 3)).toNat : Int)) = true := by
          show ((35 : Int) != (c.toNat : Int)) = true
          simp
          omega
        go_enter Tryd.func82, Tryd.ntmps82
        go_wp2_with (first | (go_at_call 110; refine (hv _).mono ?_; rintro e w' ⟨rfl, rfl⟩))
        go_step3
        go_wp2_with fail
        refine wp_loop_rounds 1 ?_
        rw [rounds_succ]
        go_wp2_with fail
        go_step3
        try go_wp2_with fail
        refine wp_region_bw (by kernel_rfl) (by kernel_rfl) ?_; (repeat (go_big_quiet_step (fail))); refine wpQuiet_nil ?_; intro _ hw'; obtain ⟨xq, hw''⟩ := hw'; subst hw''
        have b1 := xq.below
        go_wp2_with fail
        refine wp_region_bw (by kernel_rfl) (by kernel_rfl) ?_; (repeat (go_big_quiet_step ((go_at_call 55; exact bw_same (kn _))))); refine wpQuiet_nil ?_; intro _ hw'; obtain ⟨xq, hw''⟩ := hw'; subst hw''
        have b2 := xq.below
        go_wp2_with fail
        (try simp only [Exit.inBlock, Exit.then, Exit.noGoto])
        go_ret
        exact ⟨⟨_, rfl⟩, b1.trans (b2.mono b1.size)⟩
      · go_enter Tryd.func82, Tryd.ntmps82
        go_wp2_with (first | (go_at_call 110; refine (hv _).mono ?_; rintro e w' ⟨rfl, rfl⟩))
        go_step3
        go_wp2_with fail
        refine wp_loop_rounds 1 ?_
        rw [rounds_succ]
        go_wp2_with fail
        (try simp only [Exit.inBlock, Exit.then, Exit.noGoto])
        go_ret
        exact ⟨⟨_, rfl⟩, Below.refl _ _⟩
end Go.Proofs.YtjddmcecllhlhaaDoor
