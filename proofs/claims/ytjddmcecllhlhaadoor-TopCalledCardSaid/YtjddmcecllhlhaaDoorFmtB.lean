/-
  format.written: the walk.
-/
import Derived.Test.YtjddmcecllhlhaaDoorFmtA
namespace Go.Proofs.YtjddmcecllhlhaaDoor
open Go.RowKit Go.Lib
/-- Two digits. -/
def two (n : Nat) : List UInt8 := [UInt8.ofNat (48 + n / 10), UInt8.ofNat (48 + n % 10)]
/-- Hours, and what is left of them. -/
def wrH (a : Nat) : List UInt8 := two (a / 3600) ++ (if 0 < a % 3600 then two (a % 3600 / 60) ++ (if 0 < a % 3600 % 60 then two (a % 3600 % 60) else []) else [])
def wrT (off : Int) : List UInt8 := (if off < 0 then 45 else 43) :: wrH off.natAbs
theorem dig_byte {k : Nat} (h : k < 10) : ((UInt8.ofNat (48 + k)).toNat : Int) = 48 + k := by
  rw [UInt8.toNat_ofNat']
  omega
theorem u8_48 {k : Int} (h0 : 0 ≤ k) (h1 : k ≤ 9) : IntKind.u8.wrap (48 + k) = 48 + k := by
  unfold IntKind.wrap
  simp [IntKind.bits, IntKind.signed]
  omega
/-- What a number of two digits is made of, as the walk has it. -/
structure Dg (n : Nat) (x : Int) (d e : Int) : Prop where
  q : Int.tdiv x 10 = d
  r : Int.tmod x 10 = e
  d0 : 0 ≤ d
  d1 : d ≤ 9
  e0 : 0 ≤ e
  e1 : e ≤ 9
  cd : (48 + d : Int) = ((UInt8.ofNat (48 + n / 10)).toNat : Int)
  ce : (48 + e : Int) = ((UInt8.ofNat (48 + n % 10)).toNat : Int)
theorem Dg.of {n : Nat} (h : n ≤ 99) : ∃ d e, Dg n (n : Int) d e := by
  refine ⟨((n / 10 : Nat) : Int), ((n % 10 : Nat) : Int), ?_, ?_, by omega, by omega, by omega, by omega, (dig_byte (by omega)).symm, (dig_byte (by omega)).symm⟩
  · rw [Int.tdiv_eq_ediv_of_nonneg (by omega)]; omega
  · rw [Int.tmod_eq_emod_of_nonneg (by omega)]; omega
set_option maxRecDepth 100000 in
set_option maxHeartbeats 2000000 in
theorem written_wp1 (a : Nat) (ha : a ≤ 359999)  (h1 : a % 3600 = 0) (w : World) : Calls Tryd.prog 31 #[.int .i64 ((a : Int))] w fun e w' => e = .returned (.string ⟨(43 :: (two (a / 3600))).toArray⟩) ∧ Below w.heap.size w w' := by
  obtain ⟨dH, eH, gH⟩ := Dg.of (n := a / 3600) (by omega)
  obtain ⟨dM, eM, gM⟩ := Dg.of (n := a % 3600 / 60) (by omega)
  obtain ⟨dS, eS, gS⟩ := Dg.of (n := a % 3600 % 60) (by omega)
  have iH : Int.tdiv (a : Int) 3600 = ((a / 3600 : Nat) : Int) := by rw [Int.tdiv_eq_ediv_of_nonneg (by omega)]; omega
  have rH : Int.tmod (a : Int) 3600 = ((a % 3600 : Nat) : Int) := by rw [Int.tmod_eq_emod_of_nonneg (by omega)]; omega
  have iM : Int.tdiv ((a % 3600 : Nat) : Int) 60 = ((a % 3600 / 60 : Nat) : Int) := by rw [Int.tdiv_eq_ediv_of_nonneg (by omega)]; omega
  have rM : Int.tmod ((a % 3600 : Nat) : Int) 60 = ((a % 3600 % 60 : Nat) : Int) := by rw [Int.tmod_eq_emod_of_nonneg (by omega)]; omega
  have iS : Int.tdiv ((a % 3600 % 60 : Nat) : Int) 1 = ((a % 3600 % 60 : Nat) : Int) := by simp
  have rS : Int.tmod ((a % 3600 % 60 : Nat) : Int) 1 = 0 := by simp
  have bH : ((a / 3600 : Nat) : Int) ≤ 99 := by omega
  have bR : ((a % 3600 : Nat) : Int) ≤ 3599 := by omega
  have bM : ((a % 3600 / 60 : Nat) : Int) ≤ 59 := by omega
  have bS : ((a % 3600 % 60 : Nat) : Int) ≤ 59 := by omega
  have bz : a % 3600 = 0 → a % 3600 % 60 = 0 := by omega
  unfold two
  obtain ⟨qH, pH, d0, d1, d2, d3, cH, kH⟩ := gH
  obtain ⟨qM, pM, d4, d5, d6, d7, cM, kM⟩ := gM
  obtain ⟨qS, pS, d8, d9, d10, d11, cS, kS⟩ := gS
  generalize UInt8.ofNat (48 + a / 3600 / 10) = b1 at *
  generalize UInt8.ofNat (48 + a / 3600 % 10) = b2 at *
  generalize UInt8.ofNat (48 + a % 3600 / 60 / 10) = b3 at *
  generalize UInt8.ofNat (48 + a % 3600 / 60 % 10) = b4 at *
  generalize UInt8.ofNat (48 + a % 3600 % 60 / 10) = b5 at *
  generalize UInt8.ofNat (48 + a % 3600 % 60 % 10) = b6 at *
  generalize a / 3600 = H at *
  generalize a % 3600 % 60 = S at *
  generalize a % 3600 / 60 = M at *
  generalize a % 3600 = R at *
  obtain ⟨x, hx⟩ : ∃ x : Int, (a : Int) = x := ⟨_, rfl⟩
  rw [hx] at iH rH ⊢
  have CH := Lib.hid cH
  have KH := Lib.hid kH
  have CM := Lib.hid cM
  have KM := Lib.hid kM
  have CS := Lib.hid cS
  have KS := Lib.hid kS
  have x0 : 0 ≤ x := by omega
  have x1 : x ≤ 359999 := by omega
  have x2 : ¬ x < 0 := by omega
  clear cH kH cM kM cS kS hx ha
  have hr : ¬ (0 : Int) < (R : Int) := by omega
  have hs : ¬ (0 : Int) < (S : Int) := by have := bz h1; omega
  clear h1
  have i0 : ∀ w : World, (Instr.index 115 (.agg #[.int .i64 3600, .int .i64 60, .int .i64 1]) (.int .i64 0)).run Tryd.prog w = .ok (.int .i64 3600) w := fun _ => by kernel_rfl
  have i1 : ∀ w : World, (Instr.index 115 (.agg #[.int .i64 3600, .int .i64 60, .int .i64 1]) (.int .i64 1)).run Tryd.prog w = .ok (.int .i64 60) w := fun _ => by kernel_rfl
  have i2 : ∀ w : World, (Instr.index 115 (.agg #[.int .i64 3600, .int .i64 60, .int .i64 1]) (.int .i64 2)).run Tryd.prog w = .ok (.int .i64 1) w := fun _ => by kernel_rfl
  have O0 : BytesAt (w.alloc (.cells #[.int .u8 43] 5)) w.heap.size (.slice (some ⟨w.heap.size, 0, none⟩) 1 1) [43] := BytesAt.new w 43
  have B1 : Below w.heap.size w (w.alloc (.cells #[.int .u8 43] 5)) := (Below.refl _ w).alloc (Nat.le_refl _) _
  go_enter Tryd.func31, Tryd.ntmps31
  go_wp2_with fail
  have B2 : Below w.heap.size w ((w.alloc (.cells #[.int .u8 43] 5)).alloc (.cells #[.int .i64 3600, .int .i64 60, .int .i64 1] 115)) := B1.alloc B1.size _
  have O1 := Lib.hid (O0.below ((Below.refl _ _).alloc (Nat.le_refl _) (.cells #[.int .i64 3600, .int .i64 60, .int .i64 1] 115)))
  have z2 := B2.size
  clear O0 B1
  generalize ((w.alloc (.cells #[.int .u8 43] 5)).alloc (.cells #[.int .i64 3600, .int .i64 60, .int .i64 1] 115)) = X at *
  refine wp_loop_rounds 4 ?_
  rw [rounds_succ]
  go_wp2_with (at_builtin; refine app_two rfl _ _ rfl w.heap.size _ ([43]) rfl (O1.out.below ((Below.refl _ _).alloc (Nat.le_refl _) _)) _ b1 b2 rfl ?_ ?_ ?_ ?_ ?_; (rw [← CH.out]; simp [Addr.add]); (rw [← KH.out]; simp [Addr.add]); (simp); (simp; omega); intro v3 w3 own3 hb3; have O3 := Lib.hid own3; clear own3; have B3 := (B2.alloc z2 _).trans hb3; have z3 := B3.size; clear hb3)
  rw [rounds_succ]
  go_wp2_with fail
  rw [rounds_succ]
  go_wp2_with fail
  have BK := back_text O3.out
  rw [rounds_succ]
  go_wp2_with fail
  go_ret
  exact ⟨rfl, B3⟩
set_option maxRecDepth 100000 in
set_option maxHeartbeats 2000000 in
theorem written_wp2 (a : Nat) (ha : a ≤ 359999)  (h1 : 0 < a % 3600) (h2 : a % 3600 % 60 = 0) (w : World) : Calls Tryd.prog 31 #[.int .i64 ((a : Int))] w fun e w' => e = .returned (.string ⟨(43 :: (two (a / 3600) ++ two (a % 3600 / 60))).toArray⟩) ∧ Below w.heap.size w w' := by
  obtain ⟨dH, eH, gH⟩ := Dg.of (n := a / 3600) (by omega)
  obtain ⟨dM, eM, gM⟩ := Dg.of (n := a % 3600 / 60) (by omega)
  obtain ⟨dS, eS, gS⟩ := Dg.of (n := a % 3600 % 60) (by omega)
  have iH : Int.tdiv (a : Int) 3600 = ((a / 3600 : Nat) : Int) := by rw [Int.tdiv_eq_ediv_of_nonneg (by omega)]; omega
  have rH : Int.tmod (a : Int) 3600 = ((a % 3600 : Nat) : Int) := by rw [Int.tmod_eq_emod_of_nonneg (by omega)]; omega
  have iM : Int.tdiv ((a % 3600 : Nat) : Int) 60 = ((a % 3600 / 60 : Nat) : Int) := by rw [Int.tdiv_eq_ediv_of_nonneg (by omega)]; omega
  have rM : Int.tmod ((a % 3600 : Nat) : Int) 60 = ((a % 3600 % 60 : Nat) : Int) := by rw [Int.tmod_eq_emod_of_nonneg (by omega)]; omega
  have iS : Int.tdiv ((a % 3600 % 60 : Nat) : Int) 1 = ((a % 3600 % 60 : Nat) : Int) := by simp
  have rS : Int.tmod ((a % 3600 % 60 : Nat) : Int) 1 = 0 := by simp
  have bH : ((a / 3600 : Nat) : Int) ≤ 99 := by omega
  have bR : ((a % 3600 : Nat) : Int) ≤ 3599 := by omega
  have bM : ((a % 3600 / 60 : Nat) : Int) ≤ 59 := by omega
  have bS : ((a % 3600 % 60 : Nat) : Int) ≤ 59 := by omega
  have bz : a % 3600 = 0 → a % 3600 % 60 = 0 := by omega
  unfold two
  obtain ⟨qH, pH, d0, d1, d2, d3, cH, kH⟩ := gH
  obtain ⟨qM, pM, d4, d5, d6, d7, cM, kM⟩ := gM
  obtain ⟨qS, pS, d8, d9, d10, d11, cS, kS⟩ := gS
  generalize UInt8.ofNat (48 + a / 3600 / 10) = b1 at *
  generalize UInt8.ofNat (48 + a / 3600 % 10) = b2 at *
  generalize UInt8.ofNat (48 + a % 3600 / 60 / 10) = b3 at *
  generalize UInt8.ofNat (48 + a % 3600 / 60 % 10) = b4 at *
  generalize UInt8.ofNat (48 + a % 3600 % 60 / 10) = b5 at *
  generalize UInt8.ofNat (48 + a % 3600 % 60 % 10) = b6 at *
  generalize a / 3600 = H at *
  generalize a % 3600 % 60 = S at *
  generalize a % 3600 / 60 = M at *
  generalize a % 3600 = R at *
  obtain ⟨x, hx⟩ : ∃ x : Int, (a : Int) = x := ⟨_, rfl⟩
  rw [hx] at iH rH ⊢
  have CH := Lib.hid cH
  have KH := Lib.hid kH
  have CM := Lib.hid cM
  have KM := Lib.hid kM
  have CS := Lib.hid cS
  have KS := Lib.hid kS
  have x0 : 0 ≤ x := by omega
  have x1 : x ≤ 359999 := by omega
  have x2 : ¬ x < 0 := by omega
  clear cH kH cM kM cS kS hx ha
  have hr : (0 : Int) < (R : Int) := by omega
  have hs : ¬ (0 : Int) < (S : Int) := by omega
  clear h1 h2
  have i0 : ∀ w : World, (Instr.index 115 (.agg #[.int .i64 3600, .int .i64 60, .int .i64 1]) (.int .i64 0)).run Tryd.prog w = .ok (.int .i64 3600) w := fun _ => by kernel_rfl
  have i1 : ∀ w : World, (Instr.index 115 (.agg #[.int .i64 3600, .int .i64 60, .int .i64 1]) (.int .i64 1)).run Tryd.prog w = .ok (.int .i64 60) w := fun _ => by kernel_rfl
  have i2 : ∀ w : World, (Instr.index 115 (.agg #[.int .i64 3600, .int .i64 60, .int .i64 1]) (.int .i64 2)).run Tryd.prog w = .ok (.int .i64 1) w := fun _ => by kernel_rfl
  have O0 : BytesAt (w.alloc (.cells #[.int .u8 43] 5)) w.heap.size (.slice (some ⟨w.heap.size, 0, none⟩) 1 1) [43] := BytesAt.new w 43
  have B1 : Below w.heap.size w (w.alloc (.cells #[.int .u8 43] 5)) := (Below.refl _ w).alloc (Nat.le_refl _) _
  go_enter Tryd.func31, Tryd.ntmps31
  go_wp2_with fail
  have B2 : Below w.heap.size w ((w.alloc (.cells #[.int .u8 43] 5)).alloc (.cells #[.int .i64 3600, .int .i64 60, .int .i64 1] 115)) := B1.alloc B1.size _
  have O1 := Lib.hid (O0.below ((Below.refl _ _).alloc (Nat.le_refl _) (.cells #[.int .i64 3600, .int .i64 60, .int .i64 1] 115)))
  have z2 := B2.size
  clear O0 B1
  generalize ((w.alloc (.cells #[.int .u8 43] 5)).alloc (.cells #[.int .i64 3600, .int .i64 60, .int .i64 1] 115)) = X at *
  refine wp_loop_rounds 4 ?_
  rw [rounds_succ]
  go_wp2_with (at_builtin; refine app_two rfl _ _ rfl w.heap.size _ ([43]) rfl (O1.out.below ((Below.refl _ _).alloc (Nat.le_refl _) _)) _ b1 b2 rfl ?_ ?_ ?_ ?_ ?_; (rw [← CH.out]; simp [Addr.add]); (rw [← KH.out]; simp [Addr.add]); (simp); (simp; omega); intro v3 w3 own3 hb3; have O3 := Lib.hid own3; clear own3; have B3 := (B2.alloc z2 _).trans hb3; have z3 := B3.size; clear hb3)
  rw [rounds_succ]
  go_wp2_with (at_builtin; refine app_two rfl _ _ rfl w.heap.size _ (([43] ++ [b1, b2])) rfl (O3.out.below ((Below.refl _ _).alloc (Nat.le_refl _) _)) _ b3 b4 rfl ?_ ?_ ?_ ?_ ?_; (rw [← CM.out]; simp [Addr.add]); (rw [← KM.out]; simp [Addr.add]); (simp); (simp; omega); intro v4 w4 own4 hb4; have O4 := Lib.hid own4; clear own4; have B4 := (B3.alloc z3 _).trans hb4; have z4 := B4.size; clear hb4)
  rw [rounds_succ]
  go_wp2_with fail
  have BK := back_text O4.out
  rw [rounds_succ]
  go_wp2_with fail
  go_ret
  exact ⟨rfl, B4⟩
set_option maxRecDepth 100000 in
set_option maxHeartbeats 2000000 in
theorem written_wp3 (a : Nat) (ha : a ≤ 359999)  (h1 : 0 < a % 3600) (h2 : 0 < a % 3600 % 60) (w : World) : Calls Tryd.prog 31 #[.int .i64 ((a : Int))] w fun e w' => e = .returned (.string ⟨(43 :: (two (a / 3600) ++ two (a % 3600 / 60) ++ two (a % 3600 % 60))).toArray⟩) ∧ Below w.heap.size w w' := by
  obtain ⟨dH, eH, gH⟩ := Dg.of (n := a / 3600) (by omega)
  obtain ⟨dM, eM, gM⟩ := Dg.of (n := a % 3600 / 60) (by omega)
  obtain ⟨dS, eS, gS⟩ := Dg.of (n := a % 3600 % 60) (by omega)
  have iH : Int.tdiv (a : Int) 3600 = ((a / 3600 : Nat) : Int) := by rw [Int.tdiv_eq_ediv_of_nonneg (by omega)]; omega
  have rH : Int.tmod (a : Int) 3600 = ((a % 3600 : Nat) : Int) := by rw [Int.tmod_eq_emod_of_nonneg (by omega)]; omega
  have iM : Int.tdiv ((a % 3600 : Nat) : Int) 60 = ((a % 3600 / 60 : Nat) : Int) := by rw [Int.tdiv_eq_ediv_of_nonneg (by omega)]; omega
  have rM : Int.tmod ((a % 3600 : Nat) : Int) 60 = ((a % 3600 % 60 : Nat) : Int) := by rw [Int.tmod_eq_emod_of_nonneg (by omega)]; omega
  have iS : Int.tdiv ((a % 3600 % 60 : Nat) : Int) 1 = ((a % 3600 % 60 : Nat) : Int) := by simp
  have rS : Int.tmod ((a % 3600 % 60 : Nat) : Int) 1 = 0 := by simp
  have bH : ((a / 3600 : Nat) : Int) ≤ 99 := by omega
  have bR : ((a % 3600 : Nat) : Int) ≤ 3599 := by omega
  have bM : ((a % 3600 / 60 : Nat) : Int) ≤ 59 := by omega
  have bS : ((a % 3600 % 60 : Nat) : Int) ≤ 59 := by omega
  have bz : a % 3600 = 0 → a % 3600 % 60 = 0 := by omega
  unfold two
  obtain ⟨qH, pH, d0, d1, d2, d3, cH, kH⟩ := gH
  obtain ⟨qM, pM, d4, d5, d6, d7, cM, kM⟩ := gM
  obtain ⟨qS, pS, d8, d9, d10, d11, cS, kS⟩ := gS
  generalize UInt8.ofNat (48 + a / 3600 / 10) = b1 at *
  generalize UInt8.ofNat (48 + a / 3600 % 10) = b2 at *
  generalize UInt8.ofNat (48 + a % 3600 / 60 / 10) = b3 at *
  generalize UInt8.ofNat (48 + a % 3600 / 60 % 10) = b4 at *
  generalize UInt8.ofNat (48 + a % 3600 % 60 / 10) = b5 at *
  generalize UInt8.ofNat (48 + a % 3600 % 60 % 10) = b6 at *
  generalize a / 3600 = H at *
  generalize a % 3600 % 60 = S at *
  generalize a % 3600 / 60 = M at *
  generalize a % 3600 = R at *
  obtain ⟨x, hx⟩ : ∃ x : Int, (a : Int) = x := ⟨_, rfl⟩
  rw [hx] at iH rH ⊢
  have CH := Lib.hid cH
  have KH := Lib.hid kH
  have CM := Lib.hid cM
  have KM := Lib.hid kM
  have CS := Lib.hid cS
  have KS := Lib.hid kS
  have x0 : 0 ≤ x := by omega
  have x1 : x ≤ 359999 := by omega
  have x2 : ¬ x < 0 := by omega
  clear cH kH cM kM cS kS hx ha
  have hr : (0 : Int) < (R : Int) := by omega
  have hs : (0 : Int) < (S : Int) := by omega
  clear h1 h2
  have i0 : ∀ w : World, (Instr.index 115 (.agg #[.int .i64 3600, .int .i64 60, .int .i64 1]) (.int .i64 0)).run Tryd.prog w = .ok (.int .i64 3600) w := fun _ => by kernel_rfl
  have i1 : ∀ w : World, (Instr.index 115 (.agg #[.int .i64 3600, .int .i64 60, .int .i64 1]) (.int .i64 1)).run Tryd.prog w = .ok (.int .i64 60) w := fun _ => by kernel_rfl
  have i2 : ∀ w : World, (Instr.index 115 (.agg #[.int .i64 3600, .int .i64 60, .int .i64 1]) (.int .i64 2)).run Tryd.prog w = .ok (.int .i64 1) w := fun _ => by kernel_rfl
  have O0 : BytesAt (w.alloc (.cells #[.int .u8 43] 5)) w.heap.size (.slice (some ⟨w.heap.size, 0, none⟩) 1 1) [43] := BytesAt.new w 43
  have B1 : Below w.heap.size w (w.alloc (.cells #[.int .u8 43] 5)) := (Below.refl _ w).alloc (Nat.le_refl _) _
  go_enter Tryd.func31, Tryd.ntmps31
  go_wp2_with fail
  have B2 : Below w.heap.size w ((w.alloc (.cells #[.int .u8 43] 5)).alloc (.cells #[.int .i64 3600, .int .i64 60, .int .i64 1] 115)) := B1.alloc B1.size _
  have O1 := Lib.hid (O0.below ((Below.refl _ _).alloc (Nat.le_refl _) (.cells #[.int .i64 3600, .int .i64 60, .int .i64 1] 115)))
  have z2 := B2.size
  clear O0 B1
  generalize ((w.alloc (.cells #[.int .u8 43] 5)).alloc (.cells #[.int .i64 3600, .int .i64 60, .int .i64 1] 115)) = X at *
  refine wp_loop_rounds 4 ?_
  rw [rounds_succ]
  go_wp2_with (at_builtin; refine app_two rfl _ _ rfl w.heap.size _ ([43]) rfl (O1.out.below ((Below.refl _ _).alloc (Nat.le_refl _) _)) _ b1 b2 rfl ?_ ?_ ?_ ?_ ?_; (rw [← CH.out]; simp [Addr.add]); (rw [← KH.out]; simp [Addr.add]); (simp); (simp; omega); intro v3 w3 own3 hb3; have O3 := Lib.hid own3; clear own3; have B3 := (B2.alloc z2 _).trans hb3; have z3 := B3.size; clear hb3)
  rw [rounds_succ]
  go_wp2_with (at_builtin; refine app_two rfl _ _ rfl w.heap.size _ (([43] ++ [b1, b2])) rfl (O3.out.below ((Below.refl _ _).alloc (Nat.le_refl _) _)) _ b3 b4 rfl ?_ ?_ ?_ ?_ ?_; (rw [← CM.out]; simp [Addr.add]); (rw [← KM.out]; simp [Addr.add]); (simp); (simp; omega); intro v4 w4 own4 hb4; have O4 := Lib.hid own4; clear own4; have B4 := (B3.alloc z3 _).trans hb4; have z4 := B4.size; clear hb4)
  rw [rounds_succ]
  go_wp2_with (at_builtin; refine app_two rfl _ _ rfl w.heap.size _ ((([43] ++ [b1, b2]) ++ [b3, b4])) rfl (O4.out.below ((Below.refl _ _).alloc (Nat.le_refl _) _)) _ b5 b6 rfl ?_ ?_ ?_ ?_ ?_; (rw [← CS.out]; simp [Addr.add]); (rw [← KS.out]; simp [Addr.add]); (simp); (simp; omega); intro v5 w5 own5 hb5; have O5 := Lib.hid own5; clear own5; have B5 := (B4.alloc z4 _).trans hb5; have z5 := B5.size; clear hb5)
  have BK := back_text O5.out
  rw [rounds_succ]
  go_wp2_with fail
  go_ret
  exact ⟨rfl, B5⟩
set_option maxRecDepth 100000 in
set_option maxHeartbeats 2000000 in
theorem written_wn1 (a : Nat) (ha : a ≤ 359999) (hz : 0 < a) (h1 : a % 3600 = 0) (w : World) : Calls Tryd.prog 31 #[.int .i64 (-(a : Int))] w fun e w' => e = .returned (.string ⟨(45 :: (two (a / 3600))).toArray⟩) ∧ Below w.heap.size w w' := by
  obtain ⟨dH, eH, gH⟩ := Dg.of (n := a / 3600) (by omega)
  obtain ⟨dM, eM, gM⟩ := Dg.of (n := a % 3600 / 60) (by omega)
  obtain ⟨dS, eS, gS⟩ := Dg.of (n := a % 3600 % 60) (by omega)
  have iH : Int.tdiv (a : Int) 3600 = ((a / 3600 : Nat) : Int) := by rw [Int.tdiv_eq_ediv_of_nonneg (by omega)]; omega
  have rH : Int.tmod (a : Int) 3600 = ((a % 3600 : Nat) : Int) := by rw [Int.tmod_eq_emod_of_nonneg (by omega)]; omega
  have iM : Int.tdiv ((a % 3600 : Nat) : Int) 60 = ((a % 3600 / 60 : Nat) : Int) := by rw [Int.tdiv_eq_ediv_of_nonneg (by omega)]; omega
  have rM : Int.tmod ((a % 3600 : Nat) : Int) 60 = ((a % 3600 % 60 : Nat) : Int) := by rw [Int.tmod_eq_emod_of_nonneg (by omega)]; omega
  have iS : Int.tdiv ((a % 3600 % 60 : Nat) : Int) 1 = ((a % 3600 % 60 : Nat) : Int) := by simp
  have rS : Int.tmod ((a % 3600 % 60 : Nat) : Int) 1 = 0 := by simp
  have bH : ((a / 3600 : Nat) : Int) ≤ 99 := by omega
  have bR : ((a % 3600 : Nat) : Int) ≤ 3599 := by omega
  have bM : ((a % 3600 / 60 : Nat) : Int) ≤ 59 := by omega
  have bS : ((a % 3600 % 60 : Nat) : Int) ≤ 59 := by omega
  have bz : a % 3600 = 0 → a % 3600 % 60 = 0 := by omega
  unfold two
  obtain ⟨qH, pH, d0, d1, d2, d3, cH, kH⟩ := gH
  obtain ⟨qM, pM, d4, d5, d6, d7, cM, kM⟩ := gM
  obtain ⟨qS, pS, d8, d9, d10, d11, cS, kS⟩ := gS
  generalize UInt8.ofNat (48 + a / 3600 / 10) = b1 at *
  generalize UInt8.ofNat (48 + a / 3600 % 10) = b2 at *
  generalize UInt8.ofNat (48 + a % 3600 / 60 / 10) = b3 at *
  generalize UInt8.ofNat (48 + a % 3600 / 60 % 10) = b4 at *
  generalize UInt8.ofNat (48 + a % 3600 % 60 / 10) = b5 at *
  generalize UInt8.ofNat (48 + a % 3600 % 60 % 10) = b6 at *
  generalize a / 3600 = H at *
  generalize a % 3600 % 60 = S at *
  generalize a % 3600 / 60 = M at *
  generalize a % 3600 = R at *
  obtain ⟨x, hx⟩ : ∃ x : Int, (a : Int) = x := ⟨_, rfl⟩
  rw [hx] at iH rH ⊢
  have CH := Lib.hid cH
  have KH := Lib.hid kH
  have CM := Lib.hid cM
  have KM := Lib.hid kM
  have CS := Lib.hid cS
  have KS := Lib.hid kS
  have x0 : 0 ≤ x := by omega
  have x1 : x ≤ 359999 := by omega
  have x2 : -x < 0 := by omega
  clear cH kH cM kM cS kS hx ha
  have hr : ¬ (0 : Int) < (R : Int) := by omega
  have hs : ¬ (0 : Int) < (S : Int) := by have := bz h1; omega
  clear h1
  have i0 : ∀ w : World, (Instr.index 115 (.agg #[.int .i64 3600, .int .i64 60, .int .i64 1]) (.int .i64 0)).run Tryd.prog w = .ok (.int .i64 3600) w := fun _ => by kernel_rfl
  have i1 : ∀ w : World, (Instr.index 115 (.agg #[.int .i64 3600, .int .i64 60, .int .i64 1]) (.int .i64 1)).run Tryd.prog w = .ok (.int .i64 60) w := fun _ => by kernel_rfl
  have i2 : ∀ w : World, (Instr.index 115 (.agg #[.int .i64 3600, .int .i64 60, .int .i64 1]) (.int .i64 2)).run Tryd.prog w = .ok (.int .i64 1) w := fun _ => by kernel_rfl
  have O0 : BytesAt (w.alloc (.cells #[.int .u8 45] 5)) w.heap.size (.slice (some ⟨w.heap.size, 0, none⟩) 1 1) [45] := BytesAt.new w 45
  have B1 : Below w.heap.size w (w.alloc (.cells #[.int .u8 45] 5)) := (Below.refl _ w).alloc (Nat.le_refl _) _
  go_enter Tryd.func31, Tryd.ntmps31
  go_wp2_with fail
  have B2 : Below w.heap.size w ((w.alloc (.cells #[.int .u8 45] 5)).alloc (.cells #[.int .i64 3600, .int .i64 60, .int .i64 1] 115)) := B1.alloc B1.size _
  have O1 := Lib.hid (O0.below ((Below.refl _ _).alloc (Nat.le_refl _) (.cells #[.int .i64 3600, .int .i64 60, .int .i64 1] 115)))
  have z2 := B2.size
  clear O0 B1
  generalize ((w.alloc (.cells #[.int .u8 45] 5)).alloc (.cells #[.int .i64 3600, .int .i64 60, .int .i64 1] 115)) = X at *
  refine wp_loop_rounds 4 ?_
  rw [rounds_succ]
  go_wp2_with (at_builtin; refine app_two rfl _ _ rfl w.heap.size _ ([45]) rfl (O1.out.below ((Below.refl _ _).alloc (Nat.le_refl _) _)) _ b1 b2 rfl ?_ ?_ ?_ ?_ ?_; (rw [← CH.out]; simp [Addr.add]); (rw [← KH.out]; simp [Addr.add]); (simp); (simp; omega); intro v3 w3 own3 hb3; have O3 := Lib.hid own3; clear own3; have B3 := (B2.alloc z2 _).trans hb3; have z3 := B3.size; clear hb3)
  rw [rounds_succ]
  go_wp2_with fail
  rw [rounds_succ]
  go_wp2_with fail
  have BK := back_text O3.out
  rw [rounds_succ]
  go_wp2_with fail
  go_ret
  exact ⟨rfl, B3⟩
set_option maxRecDepth 100000 in
set_option maxHeartbeats 2000000 in
theorem written_wn2 (a : Nat) (ha : a ≤ 359999) (hz : 0 < a) (h1 : 0 < a % 3600) (h2 : a % 3600 % 60 = 0) (w : World) : Calls Tryd.prog 31 #[.int .i64 (-(a : Int))] w fun e w' => e = .returned (.string ⟨(45 :: (two (a / 3600) ++ two (a % 3600 / 60))).toArray⟩) ∧ Below w.heap.size w w' := by
  obtain ⟨dH, eH, gH⟩ := Dg.of (n := a / 3600) (by omega)
  obtain ⟨dM, eM, gM⟩ := Dg.of (n := a % 3600 / 60) (by omega)
  obtain ⟨dS, eS, gS⟩ := Dg.of (n := a % 3600 % 60) (by omega)
  have iH : Int.tdiv (a : Int) 3600 = ((a / 3600 : Nat) : Int) := by rw [Int.tdiv_eq_ediv_of_nonneg (by omega)]; omega
  have rH : Int.tmod (a : Int) 3600 = ((a % 3600 : Nat) : Int) := by rw [Int.tmod_eq_emod_of_nonneg (by omega)]; omega
  have iM : Int.tdiv ((a % 3600 : Nat) : Int) 60 = ((a % 3600 / 60 : Nat) : Int) := by rw [Int.tdiv_eq_ediv_of_nonneg (by omega)]; omega
  have rM : Int.tmod ((a % 3600 : Nat) : Int) 60 = ((a % 3600 % 60 : Nat) : Int) := by rw [Int.tmod_eq_emod_of_nonneg (by omega)]; omega
  have iS : Int.tdiv ((a % 3600 % 60 : Nat) : Int) 1 = ((a % 3600 % 60 : Nat) : Int) := by simp
  have rS : Int.tmod ((a % 3600 % 60 : Nat) : Int) 1 = 0 := by simp
  have bH : ((a / 3600 : Nat) : Int) ≤ 99 := by omega
  have bR : ((a % 3600 : Nat) : Int) ≤ 3599 := by omega
  have bM : ((a % 3600 / 60 : Nat) : Int) ≤ 59 := by omega
  have bS : ((a % 3600 % 60 : Nat) : Int) ≤ 59 := by omega
  have bz : a % 3600 = 0 → a % 3600 % 60 = 0 := by omega
  unfold two
  obtain ⟨qH, pH, d0, d1, d2, d3, cH, kH⟩ := gH
  obtain ⟨qM, pM, d4, d5, d6, d7, cM, kM⟩ := gM
  obtain ⟨qS, pS, d8, d9, d10, d11, cS, kS⟩ := gS
  generalize UInt8.ofNat (48 + a / 3600 / 10) = b1 at *
  generalize UInt8.ofNat (48 + a / 3600 % 10) = b2 at *
  generalize UInt8.ofNat (48 + a % 3600 / 60 / 10) = b3 at *
  generalize UInt8.ofNat (48 + a % 3600 / 60 % 10) = b4 at *
  generalize UInt8.ofNat (48 + a % 3600 % 60 / 10) = b5 at *
  generalize UInt8.ofNat (48 + a % 3600 % 60 % 10) = b6 at *
  generalize a / 3600 = H at *
  generalize a % 3600 % 60 = S at *
  generalize a % 3600 / 60 = M at *
  generalize a % 3600 = R at *
  obtain ⟨x, hx⟩ : ∃ x : Int, (a : Int) = x := ⟨_, rfl⟩
  rw [hx] at iH rH ⊢
  have CH := Lib.hid cH
  have KH := Lib.hid kH
  have CM := Lib.hid cM
  have KM := Lib.hid kM
  have CS := Lib.hid cS
  have KS := Lib.hid kS
  have x0 : 0 ≤ x := by omega
  have x1 : x ≤ 359999 := by omega
  have x2 : -x < 0 := by omega
  clear cH kH cM kM cS kS hx ha
  have hr : (0 : Int) < (R : Int) := by omega
  have hs : ¬ (0 : Int) < (S : Int) := by omega
  clear h1 h2
  have i0 : ∀ w : World, (Instr.index 115 (.agg #[.int .i64 3600, .int .i64 60, .int .i64 1]) (.int .i64 0)).run Tryd.prog w = .ok (.int .i64 3600) w := fun _ => by kernel_rfl
  have i1 : ∀ w : World, (Instr.index 115 (.agg #[.int .i64 3600, .int .i64 60, .int .i64 1]) (.int .i64 1)).run Tryd.prog w = .ok (.int .i64 60) w := fun _ => by kernel_rfl
  have i2 : ∀ w : World, (Instr.index 115 (.agg #[.int .i64 3600, .int .i64 60, .int .i64 1]) (.int .i64 2)).run Tryd.prog w = .ok (.int .i64 1) w := fun _ => by kernel_rfl
  have O0 : BytesAt (w.alloc (.cells #[.int .u8 45] 5)) w.heap.size (.slice (some ⟨w.heap.size, 0, none⟩) 1 1) [45] := BytesAt.new w 45
  have B1 : Below w.heap.size w (w.alloc (.cells #[.int .u8 45] 5)) := (Below.refl _ w).alloc (Nat.le_refl _) _
  go_enter Tryd.func31, Tryd.ntmps31
  go_wp2_with fail
  have B2 : Below w.heap.size w ((w.alloc (.cells #[.int .u8 45] 5)).alloc (.cells #[.int .i64 3600, .int .i64 60, .int .i64 1] 115)) := B1.alloc B1.size _
  have O1 := Lib.hid (O0.below ((Below.refl _ _).alloc (Nat.le_refl _) (.cells #[.int .i64 3600, .int .i64 60, .int .i64 1] 115)))
  have z2 := B2.size
  clear O0 B1
  generalize ((w.alloc (.cells #[.int .u8 45] 5)).alloc (.cells #[.int .i64 3600, .int .i64 60, .int .i64 1] 115)) = X at *
  refine wp_loop_rounds 4 ?_
  rw [rounds_succ]
  go_wp2_with (at_builtin; refine app_two rfl _ _ rfl w.heap.size _ ([45]) rfl (O1.out.below ((Below.refl _ _).alloc (Nat.le_refl _) _)) _ b1 b2 rfl ?_ ?_ ?_ ?_ ?_; (rw [← CH.out]; simp [Addr.add]); (rw [← KH.out]; simp [Addr.add]); (simp); (simp; omega); intro v3 w3 own3 hb3; have O3 := Lib.hid own3; clear own3; have B3 := (B2.alloc z2 _).trans hb3; have z3 := B3.size; clear hb3)
  rw [rounds_succ]
  go_wp2_with (at_builtin; refine app_two rfl _ _ rfl w.heap.size _ (([45] ++ [b1, b2])) rfl (O3.out.below ((Below.refl _ _).alloc (Nat.le_refl _) _)) _ b3 b4 rfl ?_ ?_ ?_ ?_ ?_; (rw [← CM.out]; simp [Addr.add]); (rw [← KM.out]; simp [Addr.add]); (simp); (simp; omega); intro v4 w4 own4 hb4; have O4 := Lib.hid own4; clear own4; have B4 := (B3.alloc z3 _).trans hb4; have z4 := B4.size; clear hb4)
  rw [rounds_succ]
  go_wp2_with fail
  have BK := back_text O4.out
  rw [rounds_succ]
  go_wp2_with fail
  go_ret
  exact ⟨rfl, B4⟩
set_option maxRecDepth 100000 in
set_option maxHeartbeats 2000000 in
theorem written_wn3 (a : Nat) (ha : a ≤ 359999) (hz : 0 < a) (h1 : 0 < a % 3600) (h2 : 0 < a % 3600 % 60) (w : World) : Calls Tryd.prog 31 #[.int .i64 (-(a : Int))] w fun e w' => e = .returned (.string ⟨(45 :: (two (a / 3600) ++ two (a % 3600 / 60) ++ two (a % 3600 % 60))).toArray⟩) ∧ Below w.heap.size w w' := by
  obtain ⟨dH, eH, gH⟩ := Dg.of (n := a / 3600) (by omega)
  obtain ⟨dM, eM, gM⟩ := Dg.of (n := a % 3600 / 60) (by omega)
  obtain ⟨dS, eS, gS⟩ := Dg.of (n := a % 3600 % 60) (by omega)
  have iH : Int.tdiv (a : Int) 3600 = ((a / 3600 : Nat) : Int) := by rw [Int.tdiv_eq_ediv_of_nonneg (by omega)]; omega
  have rH : Int.tmod (a : Int) 3600 = ((a % 3600 : Nat) : Int) := by rw [Int.tmod_eq_emod_of_nonneg (by omega)]; omega
  have iM : Int.tdiv ((a % 3600 : Nat) : Int) 60 = ((a % 3600 / 60 : Nat) : Int) := by rw [Int.tdiv_eq_ediv_of_nonneg (by omega)]; omega
  have rM : Int.tmod ((a % 3600 : Nat) : Int) 60 = ((a % 3600 % 60 : Nat) : Int) := by rw [Int.tmod_eq_emod_of_nonneg (by omega)]; omega
  have iS : Int.tdiv ((a % 3600 % 60 : Nat) : Int) 1 = ((a % 3600 % 60 : Nat) : Int) := by simp
  have rS : Int.tmod ((a % 3600 % 60 : Nat) : Int) 1 = 0 := by simp
  have bH : ((a / 3600 : Nat) : Int) ≤ 99 := by omega
  have bR : ((a % 3600 : Nat) : Int) ≤ 3599 := by omega
  have bM : ((a % 3600 / 60 : Nat) : Int) ≤ 59 := by omega
  have bS : ((a % 3600 % 60 : Nat) : Int) ≤ 59 := by omega
  have bz : a % 3600 = 0 → a % 3600 % 60 = 0 := by omega
  unfold two
  obtain ⟨qH, pH, d0, d1, d2, d3, cH, kH⟩ := gH
  obtain ⟨qM, pM, d4, d5, d6, d7, cM, kM⟩ := gM
  obtain ⟨qS, pS, d8, d9, d10, d11, cS, kS⟩ := gS
  generalize UInt8.ofNat (48 + a / 3600 / 10) = b1 at *
  generalize UInt8.ofNat (48 + a / 3600 % 10) = b2 at *
  generalize UInt8.ofNat (48 + a % 3600 / 60 / 10) = b3 at *
  generalize UInt8.ofNat (48 + a % 3600 / 60 % 10) = b4 at *
  generalize UInt8.ofNat (48 + a % 3600 % 60 / 10) = b5 at *
  generalize UInt8.ofNat (48 + a % 3600 % 60 % 10) = b6 at *
  generalize a / 3600 = H at *
  generalize a % 3600 % 60 = S at *
  generalize a % 3600 / 60 = M at *
  generalize a % 3600 = R at *
  obtain ⟨x, hx⟩ : ∃ x : Int, (a : Int) = x := ⟨_, rfl⟩
  rw [hx] at iH rH ⊢
  have CH := Lib.hid cH
  have KH := Lib.hid kH
  have CM := Lib.hid cM
  have KM := Lib.hid kM
  have CS := Lib.hid cS
  have KS := Lib.hid kS
  have x0 : 0 ≤ x := by omega
  have x1 : x ≤ 359999 := by omega
  have x2 : -x < 0 := by omega
  clear cH kH cM kM cS kS hx ha
  have hr : (0 : Int) < (R : Int) := by omega
  have hs : (0 : Int) < (S : Int) := by omega
  clear h1 h2
  have i0 : ∀ w : World, (Instr.index 115 (.agg #[.int .i64 3600, .int .i64 60, .int .i64 1]) (.int .i64 0)).run Tryd.prog w = .ok (.int .i64 3600) w := fun _ => by kernel_rfl
  have i1 : ∀ w : World, (Instr.index 115 (.agg #[.int .i64 3600, .int .i64 60, .int .i64 1]) (.int .i64 1)).run Tryd.prog w = .ok (.int .i64 60) w := fun _ => by kernel_rfl
  have i2 : ∀ w : World, (Instr.index 115 (.agg #[.int .i64 3600, .int .i64 60, .int .i64 1]) (.int .i64 2)).run Tryd.prog w = .ok (.int .i64 1) w := fun _ => by kernel_rfl
  have O0 : BytesAt (w.alloc (.cells #[.int .u8 45] 5)) w.heap.size (.slice (some ⟨w.heap.size, 0, none⟩) 1 1) [45] := BytesAt.new w 45
  have B1 : Below w.heap.size w (w.alloc (.cells #[.int .u8 45] 5)) := (Below.refl _ w).alloc (Nat.le_refl _) _
  go_enter Tryd.func31, Tryd.ntmps31
  go_wp2_with fail
  have B2 : Below w.heap.size w ((w.alloc (.cells #[.int .u8 45] 5)).alloc (.cells #[.int .i64 3600, .int .i64 60, .int .i64 1] 115)) := B1.alloc B1.size _
  have O1 := Lib.hid (O0.below ((Below.refl _ _).alloc (Nat.le_refl _) (.cells #[.int .i64 3600, .int .i64 60, .int .i64 1] 115)))
  have z2 := B2.size
  clear O0 B1
  generalize ((w.alloc (.cells #[.int .u8 45] 5)).alloc (.cells #[.int .i64 3600, .int .i64 60, .int .i64 1] 115)) = X at *
  refine wp_loop_rounds 4 ?_
  rw [rounds_succ]
  go_wp2_with (at_builtin; refine app_two rfl _ _ rfl w.heap.size _ ([45]) rfl (O1.out.below ((Below.refl _ _).alloc (Nat.le_refl _) _)) _ b1 b2 rfl ?_ ?_ ?_ ?_ ?_; (rw [← CH.out]; simp [Addr.add]); (rw [← KH.out]; simp [Addr.add]); (simp); (simp; omega); intro v3 w3 own3 hb3; have O3 := Lib.hid own3; clear own3; have B3 := (B2.alloc z2 _).trans hb3; have z3 := B3.size; clear hb3)
  rw [rounds_succ]
  go_wp2_with (at_builtin; refine app_two rfl _ _ rfl w.heap.size _ (([45] ++ [b1, b2])) rfl (O3.out.below ((Below.refl _ _).alloc (Nat.le_refl _) _)) _ b3 b4 rfl ?_ ?_ ?_ ?_ ?_; (rw [← CM.out]; simp [Addr.add]); (rw [← KM.out]; simp [Addr.add]); (simp); (simp; omega); intro v4 w4 own4 hb4; have O4 := Lib.hid own4; clear own4; have B4 := (B3.alloc z3 _).trans hb4; have z4 := B4.size; clear hb4)
  rw [rounds_succ]
  go_wp2_with (at_builtin; refine app_two rfl _ _ rfl w.heap.size _ ((([45] ++ [b1, b2]) ++ [b3, b4])) rfl (O4.out.below ((Below.refl _ _).alloc (Nat.le_refl _) _)) _ b5 b6 rfl ?_ ?_ ?_ ?_ ?_; (rw [← CS.out]; simp [Addr.add]); (rw [← KS.out]; simp [Addr.add]); (simp); (simp; omega); intro v5 w5 own5 hb5; have O5 := Lib.hid own5; clear own5; have B5 := (B4.alloc z4 _).trans hb5; have z5 := B5.size; clear hb5)
  have BK := back_text O5.out
  rw [rounds_succ]
  go_wp2_with fail
  go_ret
  exact ⟨rfl, B5⟩
end Go.Proofs.YtjddmcecllhlhaaDoor
