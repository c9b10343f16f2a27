/-
  noontidelaw02: RealTells, the walk.
-/
import Derived.Test.YtblmlglkjmilkabReaV
namespace Go.Proofs.Ytblmlglkjmilkab
open Go.RowKit Flo
attribute [local go_sem] BW.cell BW.frozen
theorem same_cls {x y : Nat} {X : Option Nat} (h : Hid (x < 18446744073709551616 ∧ nz x = X)) (h' : Hid (y < 18446744073709551616 ∧ nz y = X)) (w : World) : Calls Try.prog 33 #[.float .f64 x, .float .f64 y] w fun e w' => e = .returned (.bool true) ∧ w = w' := by
  have := ref02_Same x y w
  rwa [show (plc x == plc y) = true by rw [plc_nz (h.out.2.trans h'.out.2.symm)]; simp] at this
set_option maxRecDepth 100000 in
set_option maxHeartbeats 4000000 in
theorem RealTells_long (w : World) (a b : Nat) (m n : Int) (p : Option Addr) (k cap : Nat) (h : 100 < (k : Int)) : Calls Try.prog 13 #[.float .f64 a, .float .f64 b, .int .i64 m, .slice p k cap, .int .i64 n] w fun e w' => e = .returned (.bool true) ∧ Below w.heap.size w w' := by
  go_enter Try.func13, Try.ntmps13
  go_wp2_with fail
  refine (real_lives _).mono ?_
  rintro e w1 ⟨rfl, hb1⟩
  have B1 : Below w.heap.size w w1 := by (focus (repeat' (first | assumption | exact Below.refl _ _ | refine Below.alloc ?_ ?_ _ | refine Below.setCell ?_ ?_ _ | refine Below.drew ?_ | refine below_drewN ?_ _ | refine Below.trans ?_ (Below.mono (by assumption) ?_) | refine Below.trans ?_ (Below.mono (BW.below _) ?_) | (simp; done) | (simp; omega) | omega)))
  have n1 : w.heap.size ≤ w1.heap.size := B1.size
  clear hb1
  go_wp2_with fail
  go_ret
  exact ⟨rfl, by (focus (repeat' (first | assumption | exact Below.refl _ _ | refine Below.alloc ?_ ?_ _ | refine Below.setCell ?_ ?_ _ | refine Below.drew ?_ | refine below_drewN ?_ _ | refine Below.trans ?_ (Below.mono (by assumption) ?_) | refine Below.trans ?_ (Below.mono (BW.below _) ?_) | (simp; done) | (simp; omega) | omega)))⟩
set_option maxRecDepth 100000 in
set_option maxHeartbeats 4000000 in
theorem RealTells_leaf (w : World) (a b r : Nat) (m n V G E K : Int) (s t v : Bool) (X S : Option Nat) (p : Option Addr) (k cap : Nat) (h : (k : Int) ≤ 100) (h1 : ∀ w : World, Calls Try.prog 55 #[.float .f64 a, .int .i64 m] w (GFE w X E)) (h2 : ∀ w : World, Calls Try.prog 56 #[.float .f64 a, .int .i64 m] w (GFE w X E)) (h3 : ∀ w : World, Calls Try.prog 57 #[.float .f64 a, .int .i64 m] w fun e w' => e = .returned (.tuple #[.int .i64 V, .int .i64 G]) ∧ Below w.heap.size w w') (h4 : ∀ w : World, Calls Try.prog 58 #[.float .f64 a, .int .i64 m] w fun e w' => e = .returned (.tuple #[.int .i64 V, .int .i64 G]) ∧ Below w.heap.size w w') (h5 : ∀ w1 : World, Below w.heap.size w w1 → Calls Try.prog 59 #[.slice p k cap] w1 fun e w' => e = .returned (.tuple #[.float .f64 r, .bool v]) ∧ w1 = w') (h6 : ∀ w1 : World, Below w.heap.size w w1 → Calls Try.prog 60 #[.slice p k cap] w1 fun e w' => e = .returned (.tuple #[.float .f64 r, .bool v]) ∧ w1 = w') (h7 : ∀ w : World, Calls Try.prog 45 #[.float .f64 a] w fun e w' => e = .returned (.int .i64 K) ∧ w = w') (h8 : ∀ w : World, Calls Try.prog 61 #[.float .f64 a] w fun e w' => e = .returned (.int .i64 K) ∧ w = w') (h9 : ∀ w : World, Calls Try.prog 46 #[.float .f64 a, .float .f64 b] w fun e w' => e = .returned (.bool s) ∧ w = w') (h10 : ∀ w : World, Calls Try.prog 33 #[.float .f64 a, .float .f64 b] w fun e w' => e = .returned (.bool s) ∧ w = w') (h11 : ∀ w : World, Calls Try.prog 62 #[.float .f64 a, .float .f64 b] w fun e w' => e = .returned (.bool t) ∧ w = w') (h12 : ∀ w : World, Calls Try.prog 63 #[.float .f64 a, .float .f64 b] w fun e w' => e = .returned (.bool t) ∧ w = w') (h13 : ∀ w : World, Calls Try.prog 33 #[.float .f64 r, .float .f64 r] w fun e w' => e = .returned (.bool true) ∧ w = w') (h14 : ∀ w1 : World, Below w.heap.size w w1 → Calls Try.prog 64 #[.slice p k cap] w1 (GF w1 S)) (h15 : ∀ w1 : World, Below w.heap.size w w1 → Calls Try.prog 65 #[.slice p k cap] w1 (GF w1 S)) (h16 : ∀ w : World, Calls Try.prog 66 #[.int .i64 n] w fun e w' => e = .returned (.float .f64 (floatOfInt .f64 n)) ∧ w = w') (h17 : ∀ w : World, Calls Try.prog 33 #[.float .f64 (floatOfInt .f64 n), .float .f64 (floatOfInt .f64 n)] w fun e w' => e = .returned (.bool true) ∧ w = w') : Calls Try.prog 13 #[.float .f64 a, .float .f64 b, .int .i64 m, .slice p k cap, .int .i64 n] w fun e w' => e = .returned (.bool true) ∧ Below w.heap.size w w' := by
  go_enter Try.func13, Try.ntmps13
  go_wp2_with fail
  refine (h1 _).mono ?_
  rintro e w1 ⟨x1, rfl, HX1, hb1⟩
  have B1 : Below w.heap.size w w1 := by (focus (repeat' (first | assumption | exact Below.refl _ _ | refine Below.alloc ?_ ?_ _ | refine Below.setCell ?_ ?_ _ | refine Below.drew ?_ | refine below_drewN ?_ _ | refine Below.trans ?_ (Below.mono (by assumption) ?_) | refine Below.trans ?_ (Below.mono (BW.below _) ?_) | (simp; done) | (simp; omega) | omega)))
  have n1 : w.heap.size ≤ w1.heap.size := B1.size
  clear hb1
  go_wp2_with fail
  refine (h2 _).mono ?_
  rintro e w2 ⟨x2, rfl, HX2, hb2⟩
  have B2 : Below w.heap.size w w2 := by (focus (repeat' (first | assumption | exact Below.refl _ _ | refine Below.alloc ?_ ?_ _ | refine Below.setCell ?_ ?_ _ | refine Below.drew ?_ | refine below_drewN ?_ _ | refine Below.trans ?_ (Below.mono (by assumption) ?_) | refine Below.trans ?_ (Below.mono (BW.below _) ?_) | (simp; done) | (simp; omega) | omega)))
  have n2 : w.heap.size ≤ w2.heap.size := B2.size
  clear hb2 B1
  go_wp2_with fail
  refine (h3 _).mono ?_
  rintro e w3 ⟨rfl, hb3⟩
  have B3 : Below w.heap.size w w3 := by (focus (repeat' (first | assumption | exact Below.refl _ _ | refine Below.alloc ?_ ?_ _ | refine Below.setCell ?_ ?_ _ | refine Below.drew ?_ | refine below_drewN ?_ _ | refine Below.trans ?_ (Below.mono (by assumption) ?_) | refine Below.trans ?_ (Below.mono (BW.below _) ?_) | (simp; done) | (simp; omega) | omega)))
  have n3 : w.heap.size ≤ w3.heap.size := B3.size
  clear hb3 B2
  go_wp2_with fail
  refine (h4 _).mono ?_
  rintro e w4 ⟨rfl, hb4⟩
  have B4 : Below w.heap.size w w4 := by (focus (repeat' (first | assumption | exact Below.refl _ _ | refine Below.alloc ?_ ?_ _ | refine Below.setCell ?_ ?_ _ | refine Below.drew ?_ | refine below_drewN ?_ _ | refine Below.trans ?_ (Below.mono (by assumption) ?_) | refine Below.trans ?_ (Below.mono (BW.below _) ?_) | (simp; done) | (simp; omega) | omega)))
  have n4 : w.heap.size ≤ w4.heap.size := B4.size
  clear hb4 B3
  go_wp2_with fail
  refine (h5 _ (by assumption)).mono ?_
  rintro e w' ⟨rfl, rfl⟩
  go_wp2_with fail
  refine (h6 _ (by assumption)).mono ?_
  rintro e w' ⟨rfl, rfl⟩
  go_wp2_with fail
  refine (h7 _).mono ?_
  rintro e w' ⟨rfl, rfl⟩
  go_wp2_with fail
  refine (h8 _).mono ?_
  rintro e w' ⟨rfl, rfl⟩
  go_wp2_with fail
  refine (h9 _).mono ?_
  rintro e w' ⟨rfl, rfl⟩
  go_wp2_with fail
  refine (h10 _).mono ?_
  rintro e w' ⟨rfl, rfl⟩
  go_wp2_with fail
  refine (h11 _).mono ?_
  rintro e w' ⟨rfl, rfl⟩
  go_wp2_with fail
  refine (h12 _).mono ?_
  rintro e w' ⟨rfl, rfl⟩
  go_wp2_with fail
  refine (same_cls HX1 HX2 _).mono ?_
  rintro e w' ⟨rfl, rfl⟩
  go_wp2_with fail
  refine (h13 _).mono ?_
  rintro e w' ⟨rfl, rfl⟩
  go_wp2_with fail
  refine (h14 _ (by assumption)).mono ?_
  rintro e w15 ⟨x15, rfl, HX15, hb15⟩
  have B15 : Below w.heap.size w w15 := by (focus (repeat' (first | assumption | exact Below.refl _ _ | refine Below.alloc ?_ ?_ _ | refine Below.setCell ?_ ?_ _ | refine Below.drew ?_ | refine below_drewN ?_ _ | refine Below.trans ?_ (Below.mono (by assumption) ?_) | refine Below.trans ?_ (Below.mono (BW.below _) ?_) | (simp; done) | (simp; omega) | omega)))
  have n15 : w.heap.size ≤ w15.heap.size := B15.size
  clear hb15 B4
  go_wp2_with fail
  refine (h15 _ (by assumption)).mono ?_
  rintro e w16 ⟨x16, rfl, HX16, hb16⟩
  have B16 : Below w.heap.size w w16 := by (focus (repeat' (first | assumption | exact Below.refl _ _ | refine Below.alloc ?_ ?_ _ | refine Below.setCell ?_ ?_ _ | refine Below.drew ?_ | refine below_drewN ?_ _ | refine Below.trans ?_ (Below.mono (by assumption) ?_) | refine Below.trans ?_ (Below.mono (BW.below _) ?_) | (simp; done) | (simp; omega) | omega)))
  have n16 : w.heap.size ≤ w16.heap.size := B16.size
  clear hb16 B15
  go_wp2_with fail
  refine (same_cls HX15 HX16 _).mono ?_
  rintro e w' ⟨rfl, rfl⟩
  go_wp2_with fail
  refine (h16 _).mono ?_
  rintro e w' ⟨rfl, rfl⟩
  go_wp2_with fail
  refine (h17 _).mono ?_
  rintro e w' ⟨rfl, rfl⟩
  go_wp2_with fail
  refine (real_lives _).mono ?_
  rintro e w20 ⟨rfl, hb20⟩
  have B20 : Below w.heap.size w w20 := by (focus (repeat' (first | assumption | exact Below.refl _ _ | refine Below.alloc ?_ ?_ _ | refine Below.setCell ?_ ?_ _ | refine Below.drew ?_ | refine below_drewN ?_ _ | refine Below.trans ?_ (Below.mono (by assumption) ?_) | refine Below.trans ?_ (Below.mono (BW.below _) ?_) | (simp; done) | (simp; omega) | omega)))
  have n20 : w.heap.size ≤ w20.heap.size := B20.size
  clear hb20 B16
  go_wp2_with fail
  go_ret
  exact ⟨rfl, by (focus (repeat' (first | assumption | exact Below.refl _ _ | refine Below.alloc ?_ ?_ _ | refine Below.setCell ?_ ?_ _ | refine Below.drew ?_ | refine below_drewN ?_ _ | refine Below.trans ?_ (Below.mono (by assumption) ?_) | refine Below.trans ?_ (Below.mono (BW.below _) ?_) | (simp; done) | (simp; omega) | omega)))⟩
theorem cell_lt {w : World} {a : Addr} {v : Value} (h : w.cell? a = some v) : a.block < w.heap.size := by
  unfold World.cell? at h
  split at h
  · rename_i hb; exact (Array.getElem?_eq_some_iff.1 hb).1
  · cases h
theorem FlAt.below {w w1 : World} {b off cap : Nat} {l : List Nat} (h : FlAt w b off cap l) (hb : Below w.heap.size w w1) : FlAt w1 b off cap l := by
  obtain ⟨h0, h1, h2, h3⟩ := h
  have hlt : b < w.heap.size := cell_lt (h3 0 h0)
  exact ⟨h0, h1, h2, fun k hk => (hb.cell (p := ⟨b, off + k, none⟩) hlt).trans (h3 k hk)⟩
theorem plc_self (x : Nat) : (plc x == plc x) = true := by simp
theorem RealTells_walk (a b : Nat) (m n : Int) (p : Option Addr) (cap : Nat) (l : List Nat) (ha : a < 18446744073709551616) (hb : b < 18446744073709551616) (hl : ∀ x ∈ l, x < 18446744073709551616) (w : World) (hp : l = [] ∨ ∃ c off, p = some ⟨c, off, none⟩ ∧ FlAt w c off cap l) : Calls Try.prog 13 #[.float .f64 a, .float .f64 b, .int .i64 m, .slice p l.length cap, .int .i64 n] w fun e w' => e = .returned (.bool true) ∧ Below w.heap.size w w' := by
  by_cases h : 100 < (l.length : Int)
  · exact RealTells_long w a b m n p l.length cap h
  have s17 : ∀ w : World, Calls Try.prog 33 #[.float .f64 (floatOfInt .f64 n), .float .f64 (floatOfInt .f64 n)] w fun e w' => e = .returned (.bool true) ∧ w = w' := fun w => by
    have := ref02_Same (floatOfInt .f64 n) (floatOfInt .f64 n) w
    rwa [plc_self] at this
  have s13 : ∀ (r : Nat) (w : World), Calls Try.prog 33 #[.float .f64 r, .float .f64 r] w fun e w' => e = .returned (.bool true) ∧ w = w' := fun r w => by
    have := ref02_Same r r w
    rwa [plc_self] at this
  rcases hp with rfl | ⟨c, off, rfl, hF⟩
  · exact RealTells_leaf w a b _ m n _ _ _ _ _ _ _ _ _ p 0 cap (by omega) (fun w => real_Round a m ha w) (fun w => ref02_Round a m ha w) (fun w => real_Whole a m ha w) (fun w => ref02_Whole a m ha w) (fun w1 _ => real_Least_nil p cap w1) (fun w1 _ => ref02_Least_nil p cap w1) (fun w => real_Kind a ha w) (fun w => ref02_Kind a w) (fun w => real_Same a b ha hb w) (fun w => ref02_Same a b w) (fun w => real_Less a b ha hb w) (fun w => ref02_Less a b w) (s13 _) (fun w1 _ => real_Sum_nil p cap w1) (fun w1 _ => ref02_Sum_nil p cap w1) (fun w => real_Of n w) s17
  · exact RealTells_leaf w a b _ m n _ _ _ _ _ _ _ _ _ _ l.length cap (by omega) (fun w => real_Round a m ha w) (fun w => ref02_Round a m ha w) (fun w => real_Whole a m ha w) (fun w => ref02_Whole a m ha w) (fun w1 hw => real_Least (hF.below hw) hl) (fun w1 hw => ref02_Least (hF.below hw) hl) (fun w => real_Kind a ha w) (fun w => ref02_Kind a w) (fun w => real_Same a b ha hb w) (fun w => ref02_Same a b w) (fun w => real_Less a b ha hb w) (fun w => ref02_Less a b w) (s13 _) (fun w1 hw => real_Sum (hF.below hw) hl) (fun w1 hw => ref02_Sum (hF.below hw) hl) (fun w => real_Of n w) s17
theorem RealTells_frame (a b : Nat) (m : Int) (p : Option Addr) (cap : Nat) (l : List Nat) (n : Int) (ha : a < 18446744073709551616) (hb : b < 18446744073709551616) (hl : ∀ x ∈ l, x < 18446744073709551616) (w : World) (hp : l = [] ∨ ∃ c off, p = some ⟨c, off, none⟩ ∧ FlAt w c off cap l) : Calls Try.prog 13 #[.float .f64 a, .float .f64 b, .int .i64 m, .slice p l.length cap, .int .i64 n] w fun e w' => e = .returned (.bool true) ∧ Below w.heap.size w w' :=
  RealTells_walk a b m n p cap l ha hb hl w hp
end Go.Proofs.Ytblmlglkjmilkab
