/-
  TopCalled: the walk.
-/
import Derived.Test.YtjddmcecllhlhaaDoorFmtC
namespace Go.Proofs.YtjddmcecllhlhaaDoor
open Go.RowKit Go.Lib
set_option maxRecDepth 100000 in
set_option maxHeartbeats 2000000 in
theorem TopCalled_p1 (off : Int) (b1 b2 : UInt8) (hA : ∀ w : World, Calls Tryd.prog 11 #[.string ⟨#[37, 122]⟩, .int .i64 off, .int .i64 0, .string ⟨#[]⟩] w fun e w' => e = .returned (.tuple #[.string ⟨#[43, b1, b2]⟩, .int .i64 0]) ∧ Below w.heap.size w w')
    (hR : ∀ w : World, AKept w → Calls Tryd.prog 12 #[.string ⟨#[b1, b2]⟩] w fun e w' => e = .returned (.tuple #[.int .i64 off, .int .i64 0]) ∧ Below w.heap.size w w') (w : World) (K : AKept w) : Calls Tryd.prog 4 #[.int .i64 off] w fun e w' => e = .returned (.bool true) ∧ Below w.heap.size w w' := by
  have hC := clock_Read1 w K
  have x0 : (⟨#[43, b1, b2]⟩ : ByteArray).extract 1 3 = ⟨#[b1, b2]⟩ := by apply ext_list; simp
  have a0 : (⟨#[]⟩ : ByteArray) ++ ⟨#[b1, b2]⟩ = ⟨#[b1, b2]⟩ := by apply ext_list; simp
  go_enter Tryd.func4, Tryd.ntmps4
  go_wp2_with fail
  refine hC.mono ?_
  rintro e w1 ⟨rfl, hb1⟩
  have K1 := K.below hb1
  clear hC K
  go_wp2_with fail
  have K2 := K1.below ((Below.refl _ w1).alloc (Nat.le_refl _) (.cells #[.int .i64 3600, .int .i64 2] 33))
  have B2 := hb1.alloc hb1.size (.cells #[.int .i64 3600, .int .i64 2] 33)
  clear K1 hb1
  generalize w1.alloc (.cells #[.int .i64 3600, .int .i64 2] 33) = x2 at *
  refine (hA _).mono ?_
  rintro e w3 ⟨rfl, hb3⟩
  have K3 := K2.below hb3
  have B3 := B2.trans (hb3.mono B2.size)
  clear hA K2 hb3 B2
  go_wp2_with fail
  refine wp_loop_rounds 2 ?_
  rw [rounds_succ]
  go_wp2_with fail
  rw [rounds_succ]
  go_wp2_with fail
  refine (hR _ K3).mono ?_
  rintro e w4 ⟨rfl, hb4⟩
  go_wp2_with fail
  go_ret
  exact ⟨rfl, B3.trans (hb4.mono B3.size)⟩
set_option maxRecDepth 100000 in
set_option maxHeartbeats 2000000 in
theorem TopCalled_p2 (off : Int) (b1 b2 b3 b4 : UInt8) (hA : ∀ w : World, Calls Tryd.prog 11 #[.string ⟨#[37, 122]⟩, .int .i64 off, .int .i64 0, .string ⟨#[]⟩] w fun e w' => e = .returned (.tuple #[.string ⟨#[43, b1, b2, b3, b4]⟩, .int .i64 0]) ∧ Below w.heap.size w w')
    (hR : ∀ w : World, AKept w → Calls Tryd.prog 12 #[.string ⟨#[b1, b2, 58, b3, b4]⟩] w fun e w' => e = .returned (.tuple #[.int .i64 off, .int .i64 0]) ∧ Below w.heap.size w w') (w : World) (K : AKept w) : Calls Tryd.prog 4 #[.int .i64 off] w fun e w' => e = .returned (.bool true) ∧ Below w.heap.size w w' := by
  have hC := clock_Read1 w K
  have x0 : (⟨#[43, b1, b2, b3, b4]⟩ : ByteArray).extract 1 3 = ⟨#[b1, b2]⟩ := by apply ext_list; simp
  have x1 : (⟨#[43, b1, b2, b3, b4]⟩ : ByteArray).extract 3 5 = ⟨#[b3, b4]⟩ := by apply ext_list; simp
  have a0 : (⟨#[]⟩ : ByteArray) ++ ⟨#[b1, b2]⟩ = ⟨#[b1, b2]⟩ := by apply ext_list; simp
  have c1 : (⟨#[b1, b2]⟩ : ByteArray) ++ ⟨#[58]⟩ = ⟨#[b1, b2, 58]⟩ := by apply ext_list; simp
  have a1 : (⟨#[b1, b2, 58]⟩ : ByteArray) ++ ⟨#[b3, b4]⟩ = ⟨#[b1, b2, 58, b3, b4]⟩ := by apply ext_list; simp
  go_enter Tryd.func4, Tryd.ntmps4
  go_wp2_with fail
  refine hC.mono ?_
  rintro e w1 ⟨rfl, hb1⟩
  have K1 := K.below hb1
  clear hC K
  go_wp2_with fail
  have K2 := K1.below ((Below.refl _ w1).alloc (Nat.le_refl _) (.cells #[.int .i64 3600, .int .i64 2] 33))
  have B2 := hb1.alloc hb1.size (.cells #[.int .i64 3600, .int .i64 2] 33)
  clear K1 hb1
  generalize w1.alloc (.cells #[.int .i64 3600, .int .i64 2] 33) = x2 at *
  refine (hA _).mono ?_
  rintro e w3 ⟨rfl, hb3⟩
  have K3 := K2.below hb3
  have B3 := B2.trans (hb3.mono B2.size)
  clear hA K2 hb3 B2
  go_wp2_with fail
  refine wp_loop_rounds 3 ?_
  rw [rounds_succ]
  go_wp2_with fail
  rw [rounds_succ]
  go_wp2_with fail
  rw [rounds_succ]
  go_wp2_with fail
  refine (hR _ K3).mono ?_
  rintro e w4 ⟨rfl, hb4⟩
  go_wp2_with fail
  go_ret
  exact ⟨rfl, B3.trans (hb4.mono B3.size)⟩
set_option maxRecDepth 100000 in
set_option maxHeartbeats 2000000 in
theorem TopCalled_p3 (off : Int) (b1 b2 b3 b4 b5 b6 : UInt8) (hA : ∀ w : World, Calls Tryd.prog 11 #[.string ⟨#[37, 122]⟩, .int .i64 off, .int .i64 0, .string ⟨#[]⟩] w fun e w' => e = .returned (.tuple #[.string ⟨#[43, b1, b2, b3, b4, b5, b6]⟩, .int .i64 0]) ∧ Below w.heap.size w w')
    (hR : ∀ w : World, AKept w → Calls Tryd.prog 12 #[.string ⟨#[b1, b2, 58, b3, b4, 58, b5, b6]⟩] w fun e w' => e = .returned (.tuple #[.int .i64 off, .int .i64 0]) ∧ Below w.heap.size w w') (w : World) (K : AKept w) : Calls Tryd.prog 4 #[.int .i64 off] w fun e w' => e = .returned (.bool true) ∧ Below w.heap.size w w' := by
  have hC := clock_Read1 w K
  have x0 : (⟨#[43, b1, b2, b3, b4, b5, b6]⟩ : ByteArray).extract 1 3 = ⟨#[b1, b2]⟩ := by apply ext_list; simp
  have x1 : (⟨#[43, b1, b2, b3, b4, b5, b6]⟩ : ByteArray).extract 3 5 = ⟨#[b3, b4]⟩ := by apply ext_list; simp
  have x2 : (⟨#[43, b1, b2, b3, b4, b5, b6]⟩ : ByteArray).extract 5 7 = ⟨#[b5, b6]⟩ := by apply ext_list; simp
  have a0 : (⟨#[]⟩ : ByteArray) ++ ⟨#[b1, b2]⟩ = ⟨#[b1, b2]⟩ := by apply ext_list; simp
  have c1 : (⟨#[b1, b2]⟩ : ByteArray) ++ ⟨#[58]⟩ = ⟨#[b1, b2, 58]⟩ := by apply ext_list; simp
  have a1 : (⟨#[b1, b2, 58]⟩ : ByteArray) ++ ⟨#[b3, b4]⟩ = ⟨#[b1, b2, 58, b3, b4]⟩ := by apply ext_list; simp
  have c2 : (⟨#[b1, b2, 58, b3, b4]⟩ : ByteArray) ++ ⟨#[58]⟩ = ⟨#[b1, b2, 58, b3, b4, 58]⟩ := by apply ext_list; simp
  have a2 : (⟨#[b1, b2, 58, b3, b4, 58]⟩ : ByteArray) ++ ⟨#[b5, b6]⟩ = ⟨#[b1, b2, 58, b3, b4, 58, b5, b6]⟩ := by apply ext_list; simp
  go_enter Tryd.func4, Tryd.ntmps4
  go_wp2_with fail
  refine hC.mono ?_
  rintro e w1 ⟨rfl, hb1⟩
  have K1 := K.below hb1
  clear hC K
  go_wp2_with fail
  have K2 := K1.below ((Below.refl _ w1).alloc (Nat.le_refl _) (.cells #[.int .i64 3600, .int .i64 2] 33))
  have B2 := hb1.alloc hb1.size (.cells #[.int .i64 3600, .int .i64 2] 33)
  clear K1 hb1
  generalize w1.alloc (.cells #[.int .i64 3600, .int .i64 2] 33) = x2 at *
  refine (hA _).mono ?_
  rintro e w3 ⟨rfl, hb3⟩
  have K3 := K2.below hb3
  have B3 := B2.trans (hb3.mono B2.size)
  clear hA K2 hb3 B2
  go_wp2_with fail
  refine wp_loop_rounds 4 ?_
  rw [rounds_succ]
  go_wp2_with fail
  rw [rounds_succ]
  go_wp2_with fail
  rw [rounds_succ]
  go_wp2_with fail
  rw [rounds_succ]
  go_wp2_with fail
  refine (hR _ K3).mono ?_
  rintro e w4 ⟨rfl, hb4⟩
  go_wp2_with fail
  go_ret
  exact ⟨rfl, B3.trans (hb4.mono B3.size)⟩
set_option maxRecDepth 100000 in
set_option maxHeartbeats 2000000 in
theorem TopCalled_n1 (off : Int) (b1 b2 : UInt8) (hA : ∀ w : World, Calls Tryd.prog 11 #[.string ⟨#[37, 122]⟩, .int .i64 off, .int .i64 0, .string ⟨#[]⟩] w fun e w' => e = .returned (.tuple #[.string ⟨#[45, b1, b2]⟩, .int .i64 0]) ∧ Below w.heap.size w w')
    (hR : ∀ w : World, AKept w → Calls Tryd.prog 12 #[.string ⟨#[45, b1, b2]⟩] w fun e w' => e = .returned (.tuple #[.int .i64 off, .int .i64 0]) ∧ Below w.heap.size w w') (w : World) (K : AKept w) : Calls Tryd.prog 4 #[.int .i64 off] w fun e w' => e = .returned (.bool true) ∧ Below w.heap.size w w' := by
  have hC := clock_Read1 w K
  have x0 : (⟨#[45, b1, b2]⟩ : ByteArray).extract 1 3 = ⟨#[b1, b2]⟩ := by apply ext_list; simp
  have a0 : (⟨#[]⟩ : ByteArray) ++ ⟨#[b1, b2]⟩ = ⟨#[b1, b2]⟩ := by apply ext_list; simp
  have sg : (⟨#[45]⟩ : ByteArray) ++ ⟨#[b1, b2]⟩ = ⟨#[45, b1, b2]⟩ := by apply ext_list; simp
  go_enter Tryd.func4, Tryd.ntmps4
  go_wp2_with fail
  refine hC.mono ?_
  rintro e w1 ⟨rfl, hb1⟩
  have K1 := K.below hb1
  clear hC K
  go_wp2_with fail
  have K2 := K1.below ((Below.refl _ w1).alloc (Nat.le_refl _) (.cells #[.int .i64 3600, .int .i64 2] 33))
  have B2 := hb1.alloc hb1.size (.cells #[.int .i64 3600, .int .i64 2] 33)
  clear K1 hb1
  generalize w1.alloc (.cells #[.int .i64 3600, .int .i64 2] 33) = x2 at *
  refine (hA _).mono ?_
  rintro e w3 ⟨rfl, hb3⟩
  have K3 := K2.below hb3
  have B3 := B2.trans (hb3.mono B2.size)
  clear hA K2 hb3 B2
  go_wp2_with fail
  refine wp_loop_rounds 2 ?_
  rw [rounds_succ]
  go_wp2_with fail
  rw [rounds_succ]
  go_wp2_with fail
  refine (hR _ K3).mono ?_
  rintro e w4 ⟨rfl, hb4⟩
  go_wp2_with fail
  go_ret
  exact ⟨rfl, B3.trans (hb4.mono B3.size)⟩
set_option maxRecDepth 100000 in
set_option maxHeartbeats 2000000 in
theorem TopCalled_n2 (off : Int) (b1 b2 b3 b4 : UInt8) (hA : ∀ w : World, Calls Tryd.prog 11 #[.string ⟨#[37, 122]⟩, .int .i64 off, .int .i64 0, .string ⟨#[]⟩] w fun e w' => e = .returned (.tuple #[.string ⟨#[45, b1, b2, b3, b4]⟩, .int .i64 0]) ∧ Below w.heap.size w w')
    (hR : ∀ w : World, AKept w → Calls Tryd.prog 12 #[.string ⟨#[45, b1, b2, 58, b3, b4]⟩] w fun e w' => e = .returned (.tuple #[.int .i64 off, .int .i64 0]) ∧ Below w.heap.size w w') (w : World) (K : AKept w) : Calls Tryd.prog 4 #[.int .i64 off] w fun e w' => e = .returned (.bool true) ∧ Below w.heap.size w w' := by
  have hC := clock_Read1 w K
  have x0 : (⟨#[45, b1, b2, b3, b4]⟩ : ByteArray).extract 1 3 = ⟨#[b1, b2]⟩ := by apply ext_list; simp
  have x1 : (⟨#[45, b1, b2, b3, b4]⟩ : ByteArray).extract 3 5 = ⟨#[b3, b4]⟩ := by apply ext_list; simp
  have a0 : (⟨#[]⟩ : ByteArray) ++ ⟨#[b1, b2]⟩ = ⟨#[b1, b2]⟩ := by apply ext_list; simp
  have c1 : (⟨#[b1, b2]⟩ : ByteArray) ++ ⟨#[58]⟩ = ⟨#[b1, b2, 58]⟩ := by apply ext_list; simp
  have a1 : (⟨#[b1, b2, 58]⟩ : ByteArray) ++ ⟨#[b3, b4]⟩ = ⟨#[b1, b2, 58, b3, b4]⟩ := by apply ext_list; simp
  have sg : (⟨#[45]⟩ : ByteArray) ++ ⟨#[b1, b2, 58, b3, b4]⟩ = ⟨#[45, b1, b2, 58, b3, b4]⟩ := by apply ext_list; simp
  go_enter Tryd.func4, Tryd.ntmps4
  go_wp2_with fail
  refine hC.mono ?_
  rintro e w1 ⟨rfl, hb1⟩
  have K1 := K.below hb1
  clear hC K
  go_wp2_with fail
  have K2 := K1.below ((Below.refl _ w1).alloc (Nat.le_refl _) (.cells #[.int .i64 3600, .int .i64 2] 33))
  have B2 := hb1.alloc hb1.size (.cells #[.int .i64 3600, .int .i64 2] 33)
  clear K1 hb1
  generalize w1.alloc (.cells #[.int .i64 3600, .int .i64 2] 33) = x2 at *
  refine (hA _).mono ?_
  rintro e w3 ⟨rfl, hb3⟩
  have K3 := K2.below hb3
  have B3 := B2.trans (hb3.mono B2.size)
  clear hA K2 hb3 B2
  go_wp2_with fail
  refine wp_loop_rounds 3 ?_
  rw [rounds_succ]
  go_wp2_with fail
  rw [rounds_succ]
  go_wp2_with fail
  rw [rounds_succ]
  go_wp2_with fail
  refine (hR _ K3).mono ?_
  rintro e w4 ⟨rfl, hb4⟩
  go_wp2_with fail
  go_ret
  exact ⟨rfl, B3.trans (hb4.mono B3.size)⟩
set_option maxRecDepth 100000 in
set_option maxHeartbeats 2000000 in
theorem TopCalled_n3 (off : Int) (b1 b2 b3 b4 b5 b6 : UInt8) (hA : ∀ w : World, Calls Tryd.prog 11 #[.string ⟨#[37, 122]⟩, .int .i64 off, .int .i64 0, .string ⟨#[]⟩] w fun e w' => e = .returned (.tuple #[.string ⟨#[45, b1, b2, b3, b4, b5, b6]⟩, .int .i64 0]) ∧ Below w.heap.size w w')
    (hR : ∀ w : World, AKept w → Calls Tryd.prog 12 #[.string ⟨#[45, b1, b2, 58, b3, b4, 58, b5, b6]⟩] w fun e w' => e = .returned (.tuple #[.int .i64 off, .int .i64 0]) ∧ Below w.heap.size w w') (w : World) (K : AKept w) : Calls Tryd.prog 4 #[.int .i64 off] w fun e w' => e = .returned (.bool true) ∧ Below w.heap.size w w' := by
  have hC := clock_Read1 w K
  have x0 : (⟨#[45, b1, b2, b3, b4, b5, b6]⟩ : ByteArray).extract 1 3 = ⟨#[b1, b2]⟩ := by apply ext_list; simp
  have x1 : (⟨#[45, b1, b2, b3, b4, b5, b6]⟩ : ByteArray).extract 3 5 = ⟨#[b3, b4]⟩ := by apply ext_list; simp
  have x2 : (⟨#[45, b1, b2, b3, b4, b5, b6]⟩ : ByteArray).extract 5 7 = ⟨#[b5, b6]⟩ := by apply ext_list; simp
  have a0 : (⟨#[]⟩ : ByteArray) ++ ⟨#[b1, b2]⟩ = ⟨#[b1, b2]⟩ := by apply ext_list; simp
  have c1 : (⟨#[b1, b2]⟩ : ByteArray) ++ ⟨#[58]⟩ = ⟨#[b1, b2, 58]⟩ := by apply ext_list; simp
  have a1 : (⟨#[b1, b2, 58]⟩ : ByteArray) ++ ⟨#[b3, b4]⟩ = ⟨#[b1, b2, 58, b3, b4]⟩ := by apply ext_list; simp
  have c2 : (⟨#[b1, b2, 58, b3, b4]⟩ : ByteArray) ++ ⟨#[58]⟩ = ⟨#[b1, b2, 58, b3, b4, 58]⟩ := by apply ext_list; simp
  have a2 : (⟨#[b1, b2, 58, b3, b4, 58]⟩ : ByteArray) ++ ⟨#[b5, b6]⟩ = ⟨#[b1, b2, 58, b3, b4, 58, b5, b6]⟩ := by apply ext_list; simp
  have sg : (⟨#[45]⟩ : ByteArray) ++ ⟨#[b1, b2, 58, b3, b4, 58, b5, b6]⟩ = ⟨#[45, b1, b2, 58, b3, b4, 58, b5, b6]⟩ := by apply ext_list; simp
  go_enter Tryd.func4, Tryd.ntmps4
  go_wp2_with fail
  refine hC.mono ?_
  rintro e w1 ⟨rfl, hb1⟩
  have K1 := K.below hb1
  clear hC K
  go_wp2_with fail
  have K2 := K1.below ((Below.refl _ w1).alloc (Nat.le_refl _) (.cells #[.int .i64 3600, .int .i64 2] 33))
  have B2 := hb1.alloc hb1.size (.cells #[.int .i64 3600, .int .i64 2] 33)
  clear K1 hb1
  generalize w1.alloc (.cells #[.int .i64 3600, .int .i64 2] 33) = x2 at *
  refine (hA _).mono ?_
  rintro e w3 ⟨rfl, hb3⟩
  have K3 := K2.below hb3
  have B3 := B2.trans (hb3.mono B2.size)
  clear hA K2 hb3 B2
  go_wp2_with fail
  refine wp_loop_rounds 4 ?_
  rw [rounds_succ]
  go_wp2_with fail
  rw [rounds_succ]
  go_wp2_with fail
  rw [rounds_succ]
  go_wp2_with fail
  rw [rounds_succ]
  go_wp2_with fail
  refine (hR _ K3).mono ?_
  rintro e w4 ⟨rfl, hb4⟩
  go_wp2_with fail
  go_ret
  exact ⟨rfl, B3.trans (hb4.mono B3.size)⟩
set_option maxRecDepth 100000 in
theorem TopCalled_out (off : Int) (h : off < -359999 ∨ 359999 < off) (w : World) (K : AKept w) : Calls Tryd.prog 4 #[.int .i64 off] w fun e w' => e = .returned (.bool true) ∧ Below w.heap.size w w' := by
  have hC := clock_Read1 w K
  have hA := fun w => format_Abbr_o off h w
  by_cases g0 : off < -359999
  · clear h
    go_enter Tryd.func4, Tryd.ntmps4
    go_wp2_with fail
    refine hC.mono ?_
    rintro e w1 ⟨rfl, hb1⟩
    go_wp2_with fail
    refine (hA _).mono ?_
    rintro e w3 ⟨rfl, hb3⟩
    have B2 := hb1.alloc hb1.size (.cells #[.int .i64 3600, .int .i64 2] 33)
    go_wp2_with fail
    go_ret
    exact ⟨rfl, B2.trans (hb3.mono B2.size)⟩
  · have g1 : 359999 < off := by omega
    clear h
    go_enter Tryd.func4, Tryd.ntmps4
    go_wp2_with fail
    refine hC.mono ?_
    rintro e w1 ⟨rfl, hb1⟩
    go_wp2_with fail
    refine (hA _).mono ?_
    rintro e w3 ⟨rfl, hb3⟩
    have B2 := hb1.alloc hb1.size (.cells #[.int .i64 3600, .int .i64 2] 33)
    go_wp2_with fail
    go_ret
    exact ⟨rfl, B2.trans (hb3.mono B2.size)⟩
theorem two_digs {n : Nat} (h : n ≤ 99) : (∀ x ∈ two n, isDig x) ∧ natOf (two n) = n := by
  constructor
  · intro x hx
    simp only [two, List.mem_cons, List.not_mem_nil, or_false] at hx
    rcases hx with rfl | rfl
    · exact dig_of (by omega)
    · exact dig_of (by omega)
  · have a := dig_byte (k := n / 10) (by omega)
    have b := dig_byte (k := n % 10) (by omega)
    unfold two natOf
    simp only [List.foldl_cons, List.foldl_nil]
    omega
/-- The sum of the parts. -/
theorem sum_off {off : Int} {a : Nat} {neg : Bool} {s : Int} (h : off = if neg = true then -(a : Int) else (a : Int)) (hs : s = a) : sumV neg s = off := by
  subst h hs
  cases neg <;> simp [sumV]
theorem TopCalled_in (a : Nat) (neg : Bool) (ha : a ≤ 359999) (hz : neg = true → 0 < a) (w : World) (K : AKept w) : Calls Tryd.prog 4 #[.int .i64 (if neg = true then -(a : Int) else (a : Int))] w fun e w' => e = .returned (.bool true) ∧ Below w.heap.size w w' := by
  obtain ⟨d1, n1⟩ := two_digs (n := a / 3600) (by omega)
  obtain ⟨d2, n2⟩ := two_digs (n := a % 3600 / 60) (by omega)
  obtain ⟨d3, n3⟩ := two_digs (n := a % 3600 % 60) (by omega)
  by_cases h1 : a % 3600 = 0
  · cases neg
    · refine TopCalled_p1 (a : Int) (UInt8.ofNat (48 + a / 3600 / 10)) (UInt8.ofNat (48 + a / 3600 % 10)) (fun w => format_Abbr_z (a : Int) _ (by omega) (by omega) (fun w => written_wp1 a ha h1 w) w) (fun w K => ?_) w K
      have z : Calls Tryd.prog 12 #[.string ⟨#[(UInt8.ofNat (48 + a / 3600 / 10)), (UInt8.ofNat (48 + a / 3600 % 10))]⟩] w fun e w' => e = .returned (.tuple #[.int .i64 (sumV false (((natOf (two (a / 3600)) : Nat) : Int) * 3600)), .int .i64 0]) ∧ Below w.heap.size w w' := amount_Read1 false (UInt8.ofNat (48 + a / 3600 / 10)) [(UInt8.ofNat (48 + a / 3600 % 10))]  d1 (by simp) (by have := n1; unfold two at this; rw [this]; omega)  w K
      rw [n1, sum_off (off := (a : Int)) (a := a) (neg := false) (by simp) (by omega)] at z
      exact z
    · refine TopCalled_n1 (-(a : Int)) (UInt8.ofNat (48 + a / 3600 / 10)) (UInt8.ofNat (48 + a / 3600 % 10)) (fun w => format_Abbr_z (-(a : Int)) _ (by omega) (by omega) (fun w => written_wn1 a ha (hz rfl) h1 w) w) (fun w K => ?_) w K
      have z : Calls Tryd.prog 12 #[.string ⟨#[45, (UInt8.ofNat (48 + a / 3600 / 10)), (UInt8.ofNat (48 + a / 3600 % 10))]⟩] w fun e w' => e = .returned (.tuple #[.int .i64 (sumV true (((natOf (two (a / 3600)) : Nat) : Int) * 3600)), .int .i64 0]) ∧ Below w.heap.size w w' := amount_Read1 true (UInt8.ofNat (48 + a / 3600 / 10)) [(UInt8.ofNat (48 + a / 3600 % 10))]  d1 (by simp) (by have := n1; unfold two at this; rw [this]; omega)  w K
      rw [n1, sum_off (off := (-(a : Int))) (a := a) (neg := true) (by simp) (by omega)] at z
      exact z
  · have h1 : 0 < a % 3600 := by omega
    by_cases h2 : a % 3600 % 60 = 0
    · cases neg
      · refine TopCalled_p2 (a : Int) (UInt8.ofNat (48 + a / 3600 / 10)) (UInt8.ofNat (48 + a / 3600 % 10)) (UInt8.ofNat (48 + a % 3600 / 60 / 10)) (UInt8.ofNat (48 + a % 3600 / 60 % 10)) (fun w => format_Abbr_z (a : Int) _ (by omega) (by omega) (fun w => written_wp2 a ha h1 h2 w) w) (fun w K => ?_) w K
        have z : Calls Tryd.prog 12 #[.string ⟨#[(UInt8.ofNat (48 + a / 3600 / 10)), (UInt8.ofNat (48 + a / 3600 % 10)), 58, (UInt8.ofNat (48 + a % 3600 / 60 / 10)), (UInt8.ofNat (48 + a % 3600 / 60 % 10))]⟩] w fun e w' => e = .returned (.tuple #[.int .i64 (sumV false (((natOf (two (a / 3600)) : Nat) : Int) * 3600 + ((natOf (two (a % 3600 / 60)) : Nat) : Int) * 60)), .int .i64 0]) ∧ Below w.heap.size w w' := amount_Read2 false (UInt8.ofNat (48 + a / 3600 / 10)) [(UInt8.ofNat (48 + a / 3600 % 10))] (two (a % 3600 / 60)) d1 (by simp) (by have := n1; unfold two at this; rw [this]; omega) d2 rfl (by rw [n2]; omega) w K
        rw [n1, n2, sum_off (off := (a : Int)) (a := a) (neg := false) (by simp) (by omega)] at z
        exact z
      · refine TopCalled_n2 (-(a : Int)) (UInt8.ofNat (48 + a / 3600 / 10)) (UInt8.ofNat (48 + a / 3600 % 10)) (UInt8.ofNat (48 + a % 3600 / 60 / 10)) (UInt8.ofNat (48 + a % 3600 / 60 % 10)) (fun w => format_Abbr_z (-(a : Int)) _ (by omega) (by omega) (fun w => written_wn2 a ha (hz rfl) h1 h2 w) w) (fun w K => ?_) w K
        have z : Calls Tryd.prog 12 #[.string ⟨#[45, (UInt8.ofNat (48 + a / 3600 / 10)), (UInt8.ofNat (48 + a / 3600 % 10)), 58, (UInt8.ofNat (48 + a % 3600 / 60 / 10)), (UInt8.ofNat (48 + a % 3600 / 60 % 10))]⟩] w fun e w' => e = .returned (.tuple #[.int .i64 (sumV true (((natOf (two (a / 3600)) : Nat) : Int) * 3600 + ((natOf (two (a % 3600 / 60)) : Nat) : Int) * 60)), .int .i64 0]) ∧ Below w.heap.size w w' := amount_Read2 true (UInt8.ofNat (48 + a / 3600 / 10)) [(UInt8.ofNat (48 + a / 3600 % 10))] (two (a % 3600 / 60)) d1 (by simp) (by have := n1; unfold two at this; rw [this]; omega) d2 rfl (by rw [n2]; omega) w K
        rw [n1, n2, sum_off (off := (-(a : Int))) (a := a) (neg := true) (by simp) (by omega)] at z
        exact z
    · have h2 : 0 < a % 3600 % 60 := by omega
      cases neg
      · refine TopCalled_p3 (a : Int) (UInt8.ofNat (48 + a / 3600 / 10)) (UInt8.ofNat (48 + a / 3600 % 10)) (UInt8.ofNat (48 + a % 3600 / 60 / 10)) (UInt8.ofNat (48 + a % 3600 / 60 % 10)) (UInt8.ofNat (48 + a % 3600 % 60 / 10)) (UInt8.ofNat (48 + a % 3600 % 60 % 10)) (fun w => format_Abbr_z (a : Int) _ (by omega) (by omega) (fun w => written_wp3 a ha h1 h2 w) w) (fun w K => ?_) w K
        have z : Calls Tryd.prog 12 #[.string ⟨#[(UInt8.ofNat (48 + a / 3600 / 10)), (UInt8.ofNat (48 + a / 3600 % 10)), 58, (UInt8.ofNat (48 + a % 3600 / 60 / 10)), (UInt8.ofNat (48 + a % 3600 / 60 % 10)), 58, (UInt8.ofNat (48 + a % 3600 % 60 / 10)), (UInt8.ofNat (48 + a % 3600 % 60 % 10))]⟩] w fun e w' => e = .returned (.tuple #[.int .i64 (sumV false (((natOf (two (a / 3600)) : Nat) : Int) * 3600 + ((natOf (two (a % 3600 / 60)) : Nat) : Int) * 60 + ((natOf (two (a % 3600 % 60)) : Nat) : Int))), .int .i64 0]) ∧ Below w.heap.size w w' := amount_Read3 false (UInt8.ofNat (48 + a / 3600 / 10)) [(UInt8.ofNat (48 + a / 3600 % 10))] (two (a % 3600 / 60)) (two (a % 3600 % 60)) d1 (by simp) (by have := n1; unfold two at this; rw [this]; omega) d2 rfl (by rw [n2]; omega) d3 rfl (by rw [n3]; omega) w K
        rw [n1, n2, n3, sum_off (off := (a : Int)) (a := a) (neg := false) (by simp) (by omega)] at z
        exact z
      · refine TopCalled_n3 (-(a : Int)) (UInt8.ofNat (48 + a / 3600 / 10)) (UInt8.ofNat (48 + a / 3600 % 10)) (UInt8.ofNat (48 + a % 3600 / 60 / 10)) (UInt8.ofNat (48 + a % 3600 / 60 % 10)) (UInt8.ofNat (48 + a % 3600 % 60 / 10)) (UInt8.ofNat (48 + a % 3600 % 60 % 10)) (fun w => format_Abbr_z (-(a : Int)) _ (by omega) (by omega) (fun w => written_wn3 a ha (hz rfl) h1 h2 w) w) (fun w K => ?_) w K
        have z : Calls Tryd.prog 12 #[.string ⟨#[45, (UInt8.ofNat (48 + a / 3600 / 10)), (UInt8.ofNat (48 + a / 3600 % 10)), 58, (UInt8.ofNat (48 + a % 3600 / 60 / 10)), (UInt8.ofNat (48 + a % 3600 / 60 % 10)), 58, (UInt8.ofNat (48 + a % 3600 % 60 / 10)), (UInt8.ofNat (48 + a % 3600 % 60 % 10))]⟩] w fun e w' => e = .returned (.tuple #[.int .i64 (sumV true (((natOf (two (a / 3600)) : Nat) : Int) * 3600 + ((natOf (two (a % 3600 / 60)) : Nat) : Int) * 60 + ((natOf (two (a % 3600 % 60)) : Nat) : Int))), .int .i64 0]) ∧ Below w.heap.size w w' := amount_Read3 true (UInt8.ofNat (48 + a / 3600 / 10)) [(UInt8.ofNat (48 + a / 3600 % 10))] (two (a % 3600 / 60)) (two (a % 3600 % 60)) d1 (by simp) (by have := n1; unfold two at this; rw [this]; omega) d2 rfl (by rw [n2]; omega) d3 rfl (by rw [n3]; omega) w K
        rw [n1, n2, n3, sum_off (off := (-(a : Int))) (a := a) (neg := true) (by simp) (by omega)] at z
        exact z
theorem TopCalled_frame (off : Int) (w : World) (K : AKept w) : Calls Tryd.prog 4 #[.int .i64 off] w fun e w' => e = .returned (.bool true) ∧ Below w.heap.size w w' := by
  by_cases hout : off < -359999 ∨ 359999 < off
  · exact TopCalled_out off hout w K
  by_cases h : off < 0
  · have := TopCalled_in off.natAbs true (by omega) (fun _ => by omega) w K
    rwa [if_pos rfl, show -(off.natAbs : Int) = off by omega] at this
  · have := TopCalled_in off.natAbs false (by omega) (fun h => by cases h) w K
    rwa [if_neg (by decide), show (off.natAbs : Int) = off by omega] at this
end Go.Proofs.YtjddmcecllhlhaaDoor
