/-
  noontidelaw02: RealRounded, the walk.
-/
import Derived.Test.YtblmlglkjmilkacReaW
namespace Go.Proofs.Ytblmlglkjmilkac
open Go.RowKit Flo
attribute [local go_sem] BW.cell BW.frozen
set_option maxRecDepth 100000 in
set_option maxHeartbeats 4000000 in
theorem RealRounded_fin (x d u z v : Nat) (Q K : World → Nat) (n : Int) (h1 : ∀ w : World, Calls Try.prog 11 #[.float .f64 x, .int .i64 1] w fun e w' => e = .returned (.tuple #[.float .f64 d, .int .i64 0]) ∧ Below w.heap.size w w') (h2 : ∀ w : World, Calls Try.prog 11 #[.float .f64 x, .int .i64 2] w fun e w' => e = .returned (.tuple #[.float .f64 u, .int .i64 0]) ∧ Below w.heap.size w w') (h3 : ∀ w : World, Calls Try.prog 11 #[.float .f64 x, .int .i64 3] w fun e w' => e = .returned (.tuple #[.float .f64 z, .int .i64 0]) ∧ Below w.heap.size w w') (h4 : ∀ w : World, Calls Try.prog 11 #[.float .f64 x, .int .i64 4] w fun e w' => e = .returned (.tuple #[.float .f64 v, .int .i64 0]) ∧ Below w.heap.size w w') (hRd : ∀ (m : Int) (w : World), 1 ≤ m ∧ m ≤ 4 → Calls Try.prog 11 #[.float .f64 d, .int .i64 m] w fun e w' => e = .returned (.tuple #[.float .f64 d, .int .i64 0]) ∧ Below w.heap.size w w') (hSd : ∀ w : World, Calls Try.prog 9 #[.float .f64 d, .float .f64 d] w fun e w' => e = .returned (.bool true) ∧ w = w') (hRu : ∀ (m : Int) (w : World), 1 ≤ m ∧ m ≤ 4 → Calls Try.prog 11 #[.float .f64 u, .int .i64 m] w fun e w' => e = .returned (.tuple #[.float .f64 u, .int .i64 0]) ∧ Below w.heap.size w w') (hSu : ∀ w : World, Calls Try.prog 9 #[.float .f64 u, .float .f64 u] w fun e w' => e = .returned (.bool true) ∧ w = w') (hRz : ∀ (m : Int) (w : World), 1 ≤ m ∧ m ≤ 4 → Calls Try.prog 11 #[.float .f64 z, .int .i64 m] w fun e w' => e = .returned (.tuple #[.float .f64 z, .int .i64 0]) ∧ Below w.heap.size w w') (hSz : ∀ w : World, Calls Try.prog 9 #[.float .f64 z, .float .f64 z] w fun e w' => e = .returned (.bool true) ∧ w = w') (hRv : ∀ (m : Int) (w : World), 1 ≤ m ∧ m ≤ 4 → Calls Try.prog 11 #[.float .f64 v, .int .i64 m] w fun e w' => e = .returned (.tuple #[.float .f64 v, .int .i64 0]) ∧ Below w.heap.size w w') (hSv : ∀ w : World, Calls Try.prog 9 #[.float .f64 v, .float .f64 v] w fun e w' => e = .returned (.bool true) ∧ w = w') (hW : ∀ (m : Int) (w : World), 1 ≤ m ∧ m ≤ 4 → Calls Try.prog 12 #[.float .f64 (floatOfInt .f64 (n.tmod 1000000)), .int .i64 m] w fun e w' => e = .returned (.tuple #[.int .i64 (n.tmod 1000000), .int .i64 0]) ∧ Below w.heap.size w w') (n0 : (FloatKind.f64.format.order x x != some .eq) = false) (g1 : (FloatKind.f64.format.order d x == some .gt) = false) (g2 : (FloatKind.f64.format.order u x == some .lt) = false) (hq : ∀ w : World, (binOp .sub 22 (.float .f64 u) (.float .f64 d)).run Try.prog w = .ok (.float .f64 (Q w)) (w.drewN (K w))) (g3 : ∀ w : World, (FloatKind.f64.format.order (Q w) 4607182418800017408 == some .gt) = false) (HX : Hid ((FloatKind.f64.format.order x 0 = some .gt ∧ FloatKind.f64.format.order z d = some .eq) ∨ (FloatKind.f64.format.order x 0 = some .eq ∧ FloatKind.f64.format.order z d = some .eq ∧ FloatKind.f64.format.order z u = some .eq) ∨ (FloatKind.f64.format.order x 0 = some .lt ∧ FloatKind.f64.format.order z u = some .eq))) (HE : Hid ((FloatKind.f64.format.order v d = some .eq ∧ FloatKind.f64.format.order v u = some .eq) ∨ (FloatKind.f64.format.order v d = some .eq ∧ ¬ FloatKind.f64.format.order v u = some .eq ∧ ∃ p r, (∀ w : World, (binOp .sub 22 (.float .f64 u) (.float .f64 x)).run Try.prog w = .ok (.float .f64 p) w) ∧ (∀ w : World, (binOp .sub 22 (.float .f64 x) (.float .f64 d)).run Try.prog w = .ok (.float .f64 r) w) ∧ (FloatKind.f64.format.order r p = some .lt ∨ FloatKind.f64.format.order r p = some .eq)) ∨ (¬ FloatKind.f64.format.order v d = some .eq ∧ FloatKind.f64.format.order v u = some .eq ∧ ∃ p r, (∀ w : World, (binOp .sub 22 (.float .f64 u) (.float .f64 x)).run Try.prog w = .ok (.float .f64 p) w) ∧ (∀ w : World, (binOp .sub 22 (.float .f64 x) (.float .f64 d)).run Try.prog w = .ok (.float .f64 r) w) ∧ (FloatKind.f64.format.order p r = some .lt ∨ FloatKind.f64.format.order p r = some .eq)))) (w : World) : Calls Try.prog 4 #[.float .f64 x, .int .i64 n] w fun e w' => e = .returned (.bool true) ∧ Below w.heap.size w w' := by
  go_enter Try.func4, Try.ntmps4
  go_wp2_with fail
  refine (real_lives _).mono ?_
  rintro e w1 ⟨rfl, hb1⟩
  have B1 : Below w.heap.size w w1 := by (focus (repeat' (first | assumption | exact Below.refl _ _ | refine Below.alloc ?_ ?_ _ | refine Below.setCell ?_ ?_ _ | refine Below.drew ?_ | refine below_drewN ?_ _ | refine Below.trans ?_ (Below.mono (by assumption) ?_) | refine Below.trans ?_ (Below.mono (BW.below _) ?_) | (simp; done) | (simp; omega) | omega)))
  have n1 : w.heap.size ≤ w1.heap.size := B1.size
  clear hb1
  go_wp2_with fail
  refine (h1 _).mono ?_
  rintro e w2 ⟨rfl, hb2⟩
  have B2 : Below w.heap.size w w2 := by (focus (repeat' (first | assumption | exact Below.refl _ _ | refine Below.alloc ?_ ?_ _ | refine Below.setCell ?_ ?_ _ | refine Below.drew ?_ | refine below_drewN ?_ _ | refine Below.trans ?_ (Below.mono (by assumption) ?_) | refine Below.trans ?_ (Below.mono (BW.below _) ?_) | (simp; done) | (simp; omega) | omega)))
  have n2 : w.heap.size ≤ w2.heap.size := B2.size
  clear hb2 B1
  go_wp2_with fail
  refine (h2 _).mono ?_
  rintro e w3 ⟨rfl, hb3⟩
  have B3 : Below w.heap.size w w3 := by (focus (repeat' (first | assumption | exact Below.refl _ _ | refine Below.alloc ?_ ?_ _ | refine Below.setCell ?_ ?_ _ | refine Below.drew ?_ | refine below_drewN ?_ _ | refine Below.trans ?_ (Below.mono (by assumption) ?_) | refine Below.trans ?_ (Below.mono (BW.below _) ?_) | (simp; done) | (simp; omega) | omega)))
  have n3 : w.heap.size ≤ w3.heap.size := B3.size
  clear hb3 B2
  go_wp2_with fail
  refine (h3 _).mono ?_
  rintro e w4 ⟨rfl, hb4⟩
  have B4 : Below w.heap.size w w4 := by (focus (repeat' (first | assumption | exact Below.refl _ _ | refine Below.alloc ?_ ?_ _ | refine Below.setCell ?_ ?_ _ | refine Below.drew ?_ | refine below_drewN ?_ _ | refine Below.trans ?_ (Below.mono (by assumption) ?_) | refine Below.trans ?_ (Below.mono (BW.below _) ?_) | (simp; done) | (simp; omega) | omega)))
  have n4 : w.heap.size ≤ w4.heap.size := B4.size
  clear hb4 B3
  go_wp2_with fail
  refine (h4 _).mono ?_
  rintro e w5 ⟨rfl, hb5⟩
  have B5 : Below w.heap.size w w5 := by (focus (repeat' (first | assumption | exact Below.refl _ _ | refine Below.alloc ?_ ?_ _ | refine Below.setCell ?_ ?_ _ | refine Below.drew ?_ | refine below_drewN ?_ _ | refine Below.trans ?_ (Below.mono (by assumption) ?_) | refine Below.trans ?_ (Below.mono (BW.below _) ?_) | (simp; done) | (simp; omega) | omega)))
  have n5 : w.heap.size ≤ w5.heap.size := B5.size
  clear hb5 B4
  go_wp2_with fail
  refine wp_loop_rounds 8 ?_
  rw [rounds_succ]
  go_wp2_with fail
  refine wp_loop_rounds 8 ?_
  rw [rounds_succ]
  go_wp2_with fail
  refine (hRd 1 _ (by omega)).mono ?_
  rintro e w6 ⟨rfl, hb6⟩
  have B6 : Below w.heap.size w w6 := by (focus (repeat' (first | assumption | exact Below.refl _ _ | refine Below.alloc ?_ ?_ _ | refine Below.setCell ?_ ?_ _ | refine Below.drew ?_ | refine below_drewN ?_ _ | refine Below.trans ?_ (Below.mono (by assumption) ?_) | refine Below.trans ?_ (Below.mono (BW.below _) ?_) | (simp; done) | (simp; omega) | omega)))
  have n6 : w.heap.size ≤ w6.heap.size := B6.size
  have s6_0 : w5.heap.size < w6.heap.size := Nat.lt_of_lt_of_le (by first | (simp; done) | (simp; omega) | omega) hb6.size
  have c6_0_0 : w6.cell? ⟨w5.heap.size, 0, none⟩ = some (.float .f64 d) := (hb6.cell (p := ⟨w5.heap.size, 0, none⟩) (by first | (simp; done) | (simp; omega) | omega)).trans (by go_simp)
  have c6_0_1 : w6.cell? ⟨w5.heap.size, 1, none⟩ = some (.float .f64 u) := (hb6.cell (p := ⟨w5.heap.size, 1, none⟩) (by first | (simp; done) | (simp; omega) | omega)).trans (by go_simp)
  have c6_0_2 : w6.cell? ⟨w5.heap.size, 2, none⟩ = some (.float .f64 z) := (hb6.cell (p := ⟨w5.heap.size, 2, none⟩) (by first | (simp; done) | (simp; omega) | omega)).trans (by go_simp)
  have c6_0_3 : w6.cell? ⟨w5.heap.size, 3, none⟩ = some (.float .f64 v) := (hb6.cell (p := ⟨w5.heap.size, 3, none⟩) (by first | (simp; done) | (simp; omega) | omega)).trans (by go_simp)
  clear hb6 B5
  go_wp2_with fail
  refine (hSd _).mono ?_
  rintro e w' ⟨rfl, rfl⟩
  go_wp2_with fail
  rw [rounds_succ]
  go_wp2_with fail
  refine (hRu 1 _ (by omega)).mono ?_
  rintro e w8 ⟨rfl, hb8⟩
  have B8 : Below w.heap.size w w8 := by (focus (repeat' (first | assumption | exact Below.refl _ _ | refine Below.alloc ?_ ?_ _ | refine Below.setCell ?_ ?_ _ | refine Below.drew ?_ | refine below_drewN ?_ _ | refine Below.trans ?_ (Below.mono (by assumption) ?_) | refine Below.trans ?_ (Below.mono (BW.below _) ?_) | (simp; done) | (simp; omega) | omega)))
  have n8 : w.heap.size ≤ w8.heap.size := B8.size
  have s8_0 : w5.heap.size < w8.heap.size := Nat.lt_of_lt_of_le (by first | (simp; done) | (simp; omega) | omega) hb8.size
  have c8_0_0 : w8.cell? ⟨w5.heap.size, 0, none⟩ = some (.float .f64 d) := (hb8.cell (p := ⟨w5.heap.size, 0, none⟩) (by first | (simp; done) | (simp; omega) | omega)).trans (by go_simp)
  have c8_0_1 : w8.cell? ⟨w5.heap.size, 1, none⟩ = some (.float .f64 u) := (hb8.cell (p := ⟨w5.heap.size, 1, none⟩) (by first | (simp; done) | (simp; omega) | omega)).trans (by go_simp)
  have c8_0_2 : w8.cell? ⟨w5.heap.size, 2, none⟩ = some (.float .f64 z) := (hb8.cell (p := ⟨w5.heap.size, 2, none⟩) (by first | (simp; done) | (simp; omega) | omega)).trans (by go_simp)
  have c8_0_3 : w8.cell? ⟨w5.heap.size, 3, none⟩ = some (.float .f64 v) := (hb8.cell (p := ⟨w5.heap.size, 3, none⟩) (by first | (simp; done) | (simp; omega) | omega)).trans (by go_simp)
  clear hb8 B6 c6_0_0 c6_0_1 c6_0_2 c6_0_3
  go_wp2_with fail
  refine (hSu _).mono ?_
  rintro e w' ⟨rfl, rfl⟩
  go_wp2_with fail
  rw [rounds_succ]
  go_wp2_with fail
  refine (hRz 1 _ (by omega)).mono ?_
  rintro e w10 ⟨rfl, hb10⟩
  have B10 : Below w.heap.size w w10 := by (focus (repeat' (first | assumption | exact Below.refl _ _ | refine Below.alloc ?_ ?_ _ | refine Below.setCell ?_ ?_ _ | refine Below.drew ?_ | refine below_drewN ?_ _ | refine Below.trans ?_ (Below.mono (by assumption) ?_) | refine Below.trans ?_ (Below.mono (BW.below _) ?_) | (simp; done) | (simp; omega) | omega)))
  have n10 : w.heap.size ≤ w10.heap.size := B10.size
  have s10_0 : w5.heap.size < w10.heap.size := Nat.lt_of_lt_of_le (by first | (simp; done) | (simp; omega) | omega) hb10.size
  have c10_0_0 : w10.cell? ⟨w5.heap.size, 0, none⟩ = some (.float .f64 d) := (hb10.cell (p := ⟨w5.heap.size, 0, none⟩) (by first | (simp; done) | (simp; omega) | omega)).trans (by go_simp)
  have c10_0_1 : w10.cell? ⟨w5.heap.size, 1, none⟩ = some (.float .f64 u) := (hb10.cell (p := ⟨w5.heap.size, 1, none⟩) (by first | (simp; done) | (simp; omega) | omega)).trans (by go_simp)
  have c10_0_2 : w10.cell? ⟨w5.heap.size, 2, none⟩ = some (.float .f64 z) := (hb10.cell (p := ⟨w5.heap.size, 2, none⟩) (by first | (simp; done) | (simp; omega) | omega)).trans (by go_simp)
  have c10_0_3 : w10.cell? ⟨w5.heap.size, 3, none⟩ = some (.float .f64 v) := (hb10.cell (p := ⟨w5.heap.size, 3, none⟩) (by first | (simp; done) | (simp; omega) | omega)).trans (by go_simp)
  clear hb10 B8 c8_0_0 c8_0_1 c8_0_2 c8_0_3
  go_wp2_with fail
  refine (hSz _).mono ?_
  rintro e w' ⟨rfl, rfl⟩
  go_wp2_with fail
  rw [rounds_succ]
  go_wp2_with fail
  refine (hRv 1 _ (by omega)).mono ?_
  rintro e w12 ⟨rfl, hb12⟩
  have B12 : Below w.heap.size w w12 := by (focus (repeat' (first | assumption | exact Below.refl _ _ | refine Below.alloc ?_ ?_ _ | refine Below.setCell ?_ ?_ _ | refine Below.drew ?_ | refine below_drewN ?_ _ | refine Below.trans ?_ (Below.mono (by assumption) ?_) | refine Below.trans ?_ (Below.mono (BW.below _) ?_) | (simp; done) | (simp; omega) | omega)))
  have n12 : w.heap.size ≤ w12.heap.size := B12.size
  have s12_0 : w5.heap.size < w12.heap.size := Nat.lt_of_lt_of_le (by first | (simp; done) | (simp; omega) | omega) hb12.size
  have c12_0_0 : w12.cell? ⟨w5.heap.size, 0, none⟩ = some (.float .f64 d) := (hb12.cell (p := ⟨w5.heap.size, 0, none⟩) (by first | (simp; done) | (simp; omega) | omega)).trans (by go_simp)
  have c12_0_1 : w12.cell? ⟨w5.heap.size, 1, none⟩ = some (.float .f64 u) := (hb12.cell (p := ⟨w5.heap.size, 1, none⟩) (by first | (simp; done) | (simp; omega) | omega)).trans (by go_simp)
  have c12_0_2 : w12.cell? ⟨w5.heap.size, 2, none⟩ = some (.float .f64 z) := (hb12.cell (p := ⟨w5.heap.size, 2, none⟩) (by first | (simp; done) | (simp; omega) | omega)).trans (by go_simp)
  have c12_0_3 : w12.cell? ⟨w5.heap.size, 3, none⟩ = some (.float .f64 v) := (hb12.cell (p := ⟨w5.heap.size, 3, none⟩) (by first | (simp; done) | (simp; omega) | omega)).trans (by go_simp)
  clear hb12 B10 c10_0_0 c10_0_1 c10_0_2 c10_0_3
  go_wp2_with fail
  refine (hSv _).mono ?_
  rintro e w' ⟨rfl, rfl⟩
  go_wp2_with fail
  rw [rounds_succ]
  go_wp2_with fail
  refine (hW 1 _ (by omega)).mono ?_
  rintro e w14 ⟨rfl, hb14⟩
  have B14 : Below w.heap.size w w14 := by (focus (repeat' (first | assumption | exact Below.refl _ _ | refine Below.alloc ?_ ?_ _ | refine Below.setCell ?_ ?_ _ | refine Below.drew ?_ | refine below_drewN ?_ _ | refine Below.trans ?_ (Below.mono (by assumption) ?_) | refine Below.trans ?_ (Below.mono (BW.below _) ?_) | (simp; done) | (simp; omega) | omega)))
  have n14 : w.heap.size ≤ w14.heap.size := B14.size
  have s14_0 : w5.heap.size < w14.heap.size := Nat.lt_of_lt_of_le (by first | (simp; done) | (simp; omega) | omega) hb14.size
  have c14_0_0 : w14.cell? ⟨w5.heap.size, 0, none⟩ = some (.float .f64 d) := (hb14.cell (p := ⟨w5.heap.size, 0, none⟩) (by first | (simp; done) | (simp; omega) | omega)).trans (by go_simp)
  have c14_0_1 : w14.cell? ⟨w5.heap.size, 1, none⟩ = some (.float .f64 u) := (hb14.cell (p := ⟨w5.heap.size, 1, none⟩) (by first | (simp; done) | (simp; omega) | omega)).trans (by go_simp)
  have c14_0_2 : w14.cell? ⟨w5.heap.size, 2, none⟩ = some (.float .f64 z) := (hb14.cell (p := ⟨w5.heap.size, 2, none⟩) (by first | (simp; done) | (simp; omega) | omega)).trans (by go_simp)
  have c14_0_3 : w14.cell? ⟨w5.heap.size, 3, none⟩ = some (.float .f64 v) := (hb14.cell (p := ⟨w5.heap.size, 3, none⟩) (by first | (simp; done) | (simp; omega) | omega)).trans (by go_simp)
  clear hb14 B12 c12_0_0 c12_0_1 c12_0_2 c12_0_3
  go_wp2_with fail
  rw [rounds_succ]
  go_wp2_with fail
  refine wp_loop_rounds 8 ?_
  rw [rounds_succ]
  go_wp2_with fail
  refine (hRd 2 _ (by omega)).mono ?_
  rintro e w15 ⟨rfl, hb15⟩
  have B15 : Below w.heap.size w w15 := by (focus (repeat' (first | assumption | exact Below.refl _ _ | refine Below.alloc ?_ ?_ _ | refine Below.setCell ?_ ?_ _ | refine Below.drew ?_ | refine below_drewN ?_ _ | refine Below.trans ?_ (Below.mono (by assumption) ?_) | refine Below.trans ?_ (Below.mono (BW.below _) ?_) | (simp; done) | (simp; omega) | omega)))
  have n15 : w.heap.size ≤ w15.heap.size := B15.size
  have s15_0 : w14.heap.size < w15.heap.size := Nat.lt_of_lt_of_le (by first | (simp; done) | (simp; omega) | omega) hb15.size
  have c15_0_0 : w15.cell? ⟨w14.heap.size, 0, none⟩ = some (.float .f64 d) := (hb15.cell (p := ⟨w14.heap.size, 0, none⟩) (by first | (simp; done) | (simp; omega) | omega)).trans (by go_simp)
  have c15_0_1 : w15.cell? ⟨w14.heap.size, 1, none⟩ = some (.float .f64 u) := (hb15.cell (p := ⟨w14.heap.size, 1, none⟩) (by first | (simp; done) | (simp; omega) | omega)).trans (by go_simp)
  have c15_0_2 : w15.cell? ⟨w14.heap.size, 2, none⟩ = some (.float .f64 z) := (hb15.cell (p := ⟨w14.heap.size, 2, none⟩) (by first | (simp; done) | (simp; omega) | omega)).trans (by go_simp)
  have c15_0_3 : w15.cell? ⟨w14.heap.size, 3, none⟩ = some (.float .f64 v) := (hb15.cell (p := ⟨w14.heap.size, 3, none⟩) (by first | (simp; done) | (simp; omega) | omega)).trans (by go_simp)
  clear hb15 B14 c14_0_0 c14_0_1 c14_0_2 c14_0_3
  go_wp2_with fail
  refine (hSd _).mono ?_
  rintro e w' ⟨rfl, rfl⟩
  go_wp2_with fail
  rw [rounds_succ]
  go_wp2_with fail
  refine (hRu 2 _ (by omega)).mono ?_
  rintro e w17 ⟨rfl, hb17⟩
  have B17 : Below w.heap.size w w17 := by (focus (repeat' (first | assumption | exact Below.refl _ _ | refine Below.alloc ?_ ?_ _ | refine Below.setCell ?_ ?_ _ | refine Below.drew ?_ | refine below_drewN ?_ _ | refine Below.trans ?_ (Below.mono (by assumption) ?_) | refine Below.trans ?_ (Below.mono (BW.below _) ?_) | (simp; done) | (simp; omega) | omega)))
  have n17 : w.heap.size ≤ w17.heap.size := B17.size
  have s17_0 : w14.heap.size < w17.heap.size := Nat.lt_of_lt_of_le (by first | (simp; done) | (simp; omega) | omega) hb17.size
  have c17_0_0 : w17.cell? ⟨w14.heap.size, 0, none⟩ = some (.float .f64 d) := (hb17.cell (p := ⟨w14.heap.size, 0, none⟩) (by first | (simp; done) | (simp; omega) | omega)).trans (by go_simp)
  have c17_0_1 : w17.cell? ⟨w14.heap.size, 1, none⟩ = some (.float .f64 u) := (hb17.cell (p := ⟨w14.heap.size, 1, none⟩) (by first | (simp; done) | (simp; omega) | omega)).trans (by go_simp)
  have c17_0_2 : w17.cell? ⟨w14.heap.size, 2, none⟩ = some (.float .f64 z) := (hb17.cell (p := ⟨w14.heap.size, 2, none⟩) (by first | (simp; done) | (simp; omega) | omega)).trans (by go_simp)
  have c17_0_3 : w17.cell? ⟨w14.heap.size, 3, none⟩ = some (.float .f64 v) := (hb17.cell (p := ⟨w14.heap.size, 3, none⟩) (by first | (simp; done) | (simp; omega) | omega)).trans (by go_simp)
  clear hb17 B15 c15_0_0 c15_0_1 c15_0_2 c15_0_3
  go_wp2_with fail
  refine (hSu _).mono ?_
  rintro e w' ⟨rfl, rfl⟩
  go_wp2_with fail
  rw [rounds_succ]
  go_wp2_with fail
  refine (hRz 2 _ (by omega)).mono ?_
  rintro e w19 ⟨rfl, hb19⟩
  have B19 : Below w.heap.size w w19 := by (focus (repeat' (first | assumption | exact Below.refl _ _ | refine Below.alloc ?_ ?_ _ | refine Below.setCell ?_ ?_ _ | refine Below.drew ?_ | refine below_drewN ?_ _ | refine Below.trans ?_ (Below.mono (by assumption) ?_) | refine Below.trans ?_ (Below.mono (BW.below _) ?_) | (simp; done) | (simp; omega) | omega)))
  have n19 : w.heap.size ≤ w19.heap.size := B19.size
  have s19_0 : w14.heap.size < w19.heap.size := Nat.lt_of_lt_of_le (by first | (simp; done) | (simp; omega) | omega) hb19.size
  have c19_0_0 : w19.cell? ⟨w14.heap.size, 0, none⟩ = some (.float .f64 d) := (hb19.cell (p := ⟨w14.heap.size, 0, none⟩) (by first | (simp; done) | (simp; omega) | omega)).trans (by go_simp)
  have c19_0_1 : w19.cell? ⟨w14.heap.size, 1, none⟩ = some (.float .f64 u) := (hb19.cell (p := ⟨w14.heap.size, 1, none⟩) (by first | (simp; done) | (simp; omega) | omega)).trans (by go_simp)
  have c19_0_2 : w19.cell? ⟨w14.heap.size, 2, none⟩ = some (.float .f64 z) := (hb19.cell (p := ⟨w14.heap.size, 2, none⟩) (by first | (simp; done) | (simp; omega) | omega)).trans (by go_simp)
  have c19_0_3 : w19.cell? ⟨w14.heap.size, 3, none⟩ = some (.float .f64 v) := (hb19.cell (p := ⟨w14.heap.size, 3, none⟩) (by first | (simp; done) | (simp; omega) | omega)).trans (by go_simp)
  clear hb19 B17 c17_0_0 c17_0_1 c17_0_2 c17_0_3
  go_wp2_with fail
  refine (hSz _).mono ?_
  rintro e w' ⟨rfl, rfl⟩
  go_wp2_with fail
  rw [rounds_succ]
  go_wp2_with fail
  refine (hRv 2 _ (by omega)).mono ?_
  rintro e w21 ⟨rfl, hb21⟩
  have B21 : Below w.heap.size w w21 := by (focus (repeat' (first | assumption | exact Below.refl _ _ | refine Below.alloc ?_ ?_ _ | refine Below.setCell ?_ ?_ _ | refine Below.drew ?_ | refine below_drewN ?_ _ | refine Below.trans ?_ (Below.mono (by assumption) ?_) | refine Below.trans ?_ (Below.mono (BW.below _) ?_) | (simp; done) | (simp; omega) | omega)))
  have n21 : w.heap.size ≤ w21.heap.size := B21.size
  have s21_0 : w14.heap.size < w21.heap.size := Nat.lt_of_lt_of_le (by first | (simp; done) | (simp; omega) | omega) hb21.size
  have c21_0_0 : w21.cell? ⟨w14.heap.size, 0, none⟩ = some (.float .f64 d) := (hb21.cell (p := ⟨w14.heap.size, 0, none⟩) (by first | (simp; done) | (simp; omega) | omega)).trans (by go_simp)
  have c21_0_1 : w21.cell? ⟨w14.heap.size, 1, none⟩ = some (.float .f64 u) := (hb21.cell (p := ⟨w14.heap.size, 1, none⟩) (by first | (simp; done) | (simp; omega) | omega)).trans (by go_simp)
  have c21_0_2 : w21.cell? ⟨w14.heap.size, 2, none⟩ = some (.float .f64 z) := (hb21.cell (p := ⟨w14.heap.size, 2, none⟩) (by first | (simp; done) | (simp; omega) | omega)).trans (by go_simp)
  have c21_0_3 : w21.cell? ⟨w14.heap.size, 3, none⟩ = some (.float .f64 v) := (hb21.cell (p := ⟨w14.heap.size, 3, none⟩) (by first | (simp; done) | (simp; omega) | omega)).trans (by go_simp)
  clear hb21 B19 c19_0_0 c19_0_1 c19_0_2 c19_0_3
  go_wp2_with fail
  refine (hSv _).mono ?_
  rintro e w' ⟨rfl, rfl⟩
  go_wp2_with fail
  rw [rounds_succ]
  go_wp2_with fail
  refine (hW 2 _ (by omega)).mono ?_
  rintro e w23 ⟨rfl, hb23⟩
  have B23 : Below w.heap.size w w23 := by (focus (repeat' (first | assumption | exact Below.refl _ _ | refine Below.alloc ?_ ?_ _ | refine Below.setCell ?_ ?_ _ | refine Below.drew ?_ | refine below_drewN ?_ _ | refine Below.trans ?_ (Below.mono (by assumption) ?_) | refine Below.trans ?_ (Below.mono (BW.below _) ?_) | (simp; done) | (simp; omega) | omega)))
  have n23 : w.heap.size ≤ w23.heap.size := B23.size
  have s23_0 : w14.heap.size < w23.heap.size := Nat.lt_of_lt_of_le (by first | (simp; done) | (simp; omega) | omega) hb23.size
  have c23_0_0 : w23.cell? ⟨w14.heap.size, 0, none⟩ = some (.float .f64 d) := (hb23.cell (p := ⟨w14.heap.size, 0, none⟩) (by first | (simp; done) | (simp; omega) | omega)).trans (by go_simp)
  have c23_0_1 : w23.cell? ⟨w14.heap.size, 1, none⟩ = some (.float .f64 u) := (hb23.cell (p := ⟨w14.heap.size, 1, none⟩) (by first | (simp; done) | (simp; omega) | omega)).trans (by go_simp)
  have c23_0_2 : w23.cell? ⟨w14.heap.size, 2, none⟩ = some (.float .f64 z) := (hb23.cell (p := ⟨w14.heap.size, 2, none⟩) (by first | (simp; done) | (simp; omega) | omega)).trans (by go_simp)
  have c23_0_3 : w23.cell? ⟨w14.heap.size, 3, none⟩ = some (.float .f64 v) := (hb23.cell (p := ⟨w14.heap.size, 3, none⟩) (by first | (simp; done) | (simp; omega) | omega)).trans (by go_simp)
  clear hb23 B21 c21_0_0 c21_0_1 c21_0_2 c21_0_3
  go_wp2_with fail
  rw [rounds_succ]
  go_wp2_with fail
  refine wp_loop_rounds 8 ?_
  rw [rounds_succ]
  go_wp2_with fail
  refine (hRd 3 _ (by omega)).mono ?_
  rintro e w24 ⟨rfl, hb24⟩
  have B24 : Below w.heap.size w w24 := by (focus (repeat' (first | assumption | exact Below.refl _ _ | refine Below.alloc ?_ ?_ _ | refine Below.setCell ?_ ?_ _ | refine Below.drew ?_ | refine below_drewN ?_ _ | refine Below.trans ?_ (Below.mono (by assumption) ?_) | refine Below.trans ?_ (Below.mono (BW.below _) ?_) | (simp; done) | (simp; omega) | omega)))
  have n24 : w.heap.size ≤ w24.heap.size := B24.size
  have s24_0 : w23.heap.size < w24.heap.size := Nat.lt_of_lt_of_le (by first | (simp; done) | (simp; omega) | omega) hb24.size
  have c24_0_0 : w24.cell? ⟨w23.heap.size, 0, none⟩ = some (.float .f64 d) := (hb24.cell (p := ⟨w23.heap.size, 0, none⟩) (by first | (simp; done) | (simp; omega) | omega)).trans (by go_simp)
  have c24_0_1 : w24.cell? ⟨w23.heap.size, 1, none⟩ = some (.float .f64 u) := (hb24.cell (p := ⟨w23.heap.size, 1, none⟩) (by first | (simp; done) | (simp; omega) | omega)).trans (by go_simp)
  have c24_0_2 : w24.cell? ⟨w23.heap.size, 2, none⟩ = some (.float .f64 z) := (hb24.cell (p := ⟨w23.heap.size, 2, none⟩) (by first | (simp; done) | (simp; omega) | omega)).trans (by go_simp)
  have c24_0_3 : w24.cell? ⟨w23.heap.size, 3, none⟩ = some (.float .f64 v) := (hb24.cell (p := ⟨w23.heap.size, 3, none⟩) (by first | (simp; done) | (simp; omega) | omega)).trans (by go_simp)
  clear hb24 B23 c23_0_0 c23_0_1 c23_0_2 c23_0_3
  go_wp2_with fail
  refine (hSd _).mono ?_
  rintro e w' ⟨rfl, rfl⟩
  go_wp2_with fail
  rw [rounds_succ]
  go_wp2_with fail
  refine (hRu 3 _ (by omega)).mono ?_
  rintro e w26 ⟨rfl, hb26⟩
  have B26 : Below w.heap.size w w26 := by (focus (repeat' (first | assumption | exact Below.refl _ _ | refine Below.alloc ?_ ?_ _ | refine Below.setCell ?_ ?_ _ | refine Below.drew ?_ | refine below_drewN ?_ _ | refine Below.trans ?_ (Below.mono (by assumption) ?_) | refine Below.trans ?_ (Below.mono (BW.below _) ?_) | (simp; done) | (simp; omega) | omega)))
  have n26 : w.heap.size ≤ w26.heap.size := B26.size
  have s26_0 : w23.heap.size < w26.heap.size := Nat.lt_of_lt_of_le (by first | (simp; done) | (simp; omega) | omega) hb26.size
  have c26_0_0 : w26.cell? ⟨w23.heap.size, 0, none⟩ = some (.float .f64 d) := (hb26.cell (p := ⟨w23.heap.size, 0, none⟩) (by first | (simp; done) | (simp; omega) | omega)).trans (by go_simp)
  have c26_0_1 : w26.cell? ⟨w23.heap.size, 1, none⟩ = some (.float .f64 u) := (hb26.cell (p := ⟨w23.heap.size, 1, none⟩) (by first | (simp; done) | (simp; omega) | omega)).trans (by go_simp)
  have c26_0_2 : w26.cell? ⟨w23.heap.size, 2, none⟩ = some (.float .f64 z) := (hb26.cell (p := ⟨w23.heap.size, 2, none⟩) (by first | (simp; done) | (simp; omega) | omega)).trans (by go_simp)
  have c26_0_3 : w26.cell? ⟨w23.heap.size, 3, none⟩ = some (.float .f64 v) := (hb26.cell (p := ⟨w23.heap.size, 3, none⟩) (by first | (simp; done) | (simp; omega) | omega)).trans (by go_simp)
  clear hb26 B24 c24_0_0 c24_0_1 c24_0_2 c24_0_3
  go_wp2_with fail
  refine (hSu _).mono ?_
  rintro e w' ⟨rfl, rfl⟩
  go_wp2_with fail
  rw [rounds_succ]
  go_wp2_with fail
  refine (hRz 3 _ (by omega)).mono ?_
  rintro e w28 ⟨rfl, hb28⟩
  have B28 : Below w.heap.size w w28 := by (focus (repeat' (first | assumption | exact Below.refl _ _ | refine Below.alloc ?_ ?_ _ | refine Below.setCell ?_ ?_ _ | refine Below.drew ?_ | refine below_drewN ?_ _ | refine Below.trans ?_ (Below.mono (by assumption) ?_) | refine Below.trans ?_ (Below.mono (BW.below _) ?_) | (simp; done) | (simp; omega) | omega)))
  have n28 : w.heap.size ≤ w28.heap.size := B28.size
  have s28_0 : w23.heap.size < w28.heap.size := Nat.lt_of_lt_of_le (by first | (simp; done) | (simp; omega) | omega) hb28.size
  have c28_0_0 : w28.cell? ⟨w23.heap.size, 0, none⟩ = some (.float .f64 d) := (hb28.cell (p := ⟨w23.heap.size, 0, none⟩) (by first | (simp; done) | (simp; omega) | omega)).trans (by go_simp)
  have c28_0_1 : w28.cell? ⟨w23.heap.size, 1, none⟩ = some (.float .f64 u) := (hb28.cell (p := ⟨w23.heap.size, 1, none⟩) (by first | (simp; done) | (simp; omega) | omega)).trans (by go_simp)
  have c28_0_2 : w28.cell? ⟨w23.heap.size, 2, none⟩ = some (.float .f64 z) := (hb28.cell (p := ⟨w23.heap.size, 2, none⟩) (by first | (simp; done) | (simp; omega) | omega)).trans (by go_simp)
  have c28_0_3 : w28.cell? ⟨w23.heap.size, 3, none⟩ = some (.float .f64 v) := (hb28.cell (p := ⟨w23.heap.size, 3, none⟩) (by first | (simp; done) | (simp; omega) | omega)).trans (by go_simp)
  clear hb28 B26 c26_0_0 c26_0_1 c26_0_2 c26_0_3
  go_wp2_with fail
  refine (hSz _).mono ?_
  rintro e w' ⟨rfl, rfl⟩
  go_wp2_with fail
  rw [rounds_succ]
  go_wp2_with fail
  refine (hRv 3 _ (by omega)).mono ?_
  rintro e w30 ⟨rfl, hb30⟩
  have B30 : Below w.heap.size w w30 := by (focus (repeat' (first | assumption | exact Below.refl _ _ | refine Below.alloc ?_ ?_ _ | refine Below.setCell ?_ ?_ _ | refine Below.drew ?_ | refine below_drewN ?_ _ | refine Below.trans ?_ (Below.mono (by assumption) ?_) | refine Below.trans ?_ (Below.mono (BW.below _) ?_) | (simp; done) | (simp; omega) | omega)))
  have n30 : w.heap.size ≤ w30.heap.size := B30.size
  have s30_0 : w23.heap.size < w30.heap.size := Nat.lt_of_lt_of_le (by first | (simp; done) | (simp; omega) | omega) hb30.size
  have c30_0_0 : w30.cell? ⟨w23.heap.size, 0, none⟩ = some (.float .f64 d) := (hb30.cell (p := ⟨w23.heap.size, 0, none⟩) (by first | (simp; done) | (simp; omega) | omega)).trans (by go_simp)
  have c30_0_1 : w30.cell? ⟨w23.heap.size, 1, none⟩ = some (.float .f64 u) := (hb30.cell (p := ⟨w23.heap.size, 1, none⟩) (by first | (simp; done) | (simp; omega) | omega)).trans (by go_simp)
  have c30_0_2 : w30.cell? ⟨w23.heap.size, 2, none⟩ = some (.float .f64 z) := (hb30.cell (p := ⟨w23.heap.size, 2, none⟩) (by first | (simp; done) | (simp; omega) | omega)).trans (by go_simp)
  have c30_0_3 : w30.cell? ⟨w23.heap.size, 3, none⟩ = some (.float .f64 v) := (hb30.cell (p := ⟨w23.heap.size, 3, none⟩) (by first | (simp; done) | (simp; omega) | omega)).trans (by go_simp)
  clear hb30 B28 c28_0_0 c28_0_1 c28_0_2 c28_0_3
  go_wp2_with fail
  refine (hSv _).mono ?_
  rintro e w' ⟨rfl, rfl⟩
  go_wp2_with fail
  rw [rounds_succ]
  go_wp2_with fail
  refine (hW 3 _ (by omega)).mono ?_
  rintro e w32 ⟨rfl, hb32⟩
  have B32 : Below w.heap.size w w32 := by (focus (repeat' (first | assumption | exact Below.refl _ _ | refine Below.alloc ?_ ?_ _ | refine Below.setCell ?_ ?_ _ | refine Below.drew ?_ | refine below_drewN ?_ _ | refine Below.trans ?_ (Below.mono (by assumption) ?_) | refine Below.trans ?_ (Below.mono (BW.below _) ?_) | (simp; done) | (simp; omega) | omega)))
  have n32 : w.heap.size ≤ w32.heap.size := B32.size
  have s32_0 : w23.heap.size < w32.heap.size := Nat.lt_of_lt_of_le (by first | (simp; done) | (simp; omega) | omega) hb32.size
  have c32_0_0 : w32.cell? ⟨w23.heap.size, 0, none⟩ = some (.float .f64 d) := (hb32.cell (p := ⟨w23.heap.size, 0, none⟩) (by first | (simp; done) | (simp; omega) | omega)).trans (by go_simp)
  have c32_0_1 : w32.cell? ⟨w23.heap.size, 1, none⟩ = some (.float .f64 u) := (hb32.cell (p := ⟨w23.heap.size, 1, none⟩) (by first | (simp; done) | (simp; omega) | omega)).trans (by go_simp)
  have c32_0_2 : w32.cell? ⟨w23.heap.size, 2, none⟩ = some (.float .f64 z) := (hb32.cell (p := ⟨w23.heap.size, 2, none⟩) (by first | (simp; done) | (simp; omega) | omega)).trans (by go_simp)
  have c32_0_3 : w32.cell? ⟨w23.heap.size, 3, none⟩ = some (.float .f64 v) := (hb32.cell (p := ⟨w23.heap.size, 3, none⟩) (by first | (simp; done) | (simp; omega) | omega)).trans (by go_simp)
  clear hb32 B30 c30_0_0 c30_0_1 c30_0_2 c30_0_3
  go_wp2_with fail
  rw [rounds_succ]
  go_wp2_with fail
  refine wp_loop_rounds 8 ?_
  rw [rounds_succ]
  go_wp2_with fail
  refine (hRd 4 _ (by omega)).mono ?_
  rintro e w33 ⟨rfl, hb33⟩
  have B33 : Below w.heap.size w w33 := by (focus (repeat' (first | assumption | exact Below.refl _ _ | refine Below.alloc ?_ ?_ _ | refine Below.setCell ?_ ?_ _ | refine Below.drew ?_ | refine below_drewN ?_ _ | refine Below.trans ?_ (Below.mono (by assumption) ?_) | refine Below.trans ?_ (Below.mono (BW.below _) ?_) | (simp; done) | (simp; omega) | omega)))
  have n33 : w.heap.size ≤ w33.heap.size := B33.size
  have s33_0 : w32.heap.size < w33.heap.size := Nat.lt_of_lt_of_le (by first | (simp; done) | (simp; omega) | omega) hb33.size
  have c33_0_0 : w33.cell? ⟨w32.heap.size, 0, none⟩ = some (.float .f64 d) := (hb33.cell (p := ⟨w32.heap.size, 0, none⟩) (by first | (simp; done) | (simp; omega) | omega)).trans (by go_simp)
  have c33_0_1 : w33.cell? ⟨w32.heap.size, 1, none⟩ = some (.float .f64 u) := (hb33.cell (p := ⟨w32.heap.size, 1, none⟩) (by first | (simp; done) | (simp; omega) | omega)).trans (by go_simp)
  have c33_0_2 : w33.cell? ⟨w32.heap.size, 2, none⟩ = some (.float .f64 z) := (hb33.cell (p := ⟨w32.heap.size, 2, none⟩) (by first | (simp; done) | (simp; omega) | omega)).trans (by go_simp)
  have c33_0_3 : w33.cell? ⟨w32.heap.size, 3, none⟩ = some (.float .f64 v) := (hb33.cell (p := ⟨w32.heap.size, 3, none⟩) (by first | (simp; done) | (simp; omega) | omega)).trans (by go_simp)
  clear hb33 B32 c32_0_0 c32_0_1 c32_0_2 c32_0_3
  go_wp2_with fail
  refine (hSd _).mono ?_
  rintro e w' ⟨rfl, rfl⟩
  go_wp2_with fail
  rw [rounds_succ]
  go_wp2_with fail
  refine (hRu 4 _ (by omega)).mono ?_
  rintro e w35 ⟨rfl, hb35⟩
  have B35 : Below w.heap.size w w35 := by (focus (repeat' (first | assumption | exact Below.refl _ _ | refine Below.alloc ?_ ?_ _ | refine Below.setCell ?_ ?_ _ | refine Below.drew ?_ | refine below_drewN ?_ _ | refine Below.trans ?_ (Below.mono (by assumption) ?_) | refine Below.trans ?_ (Below.mono (BW.below _) ?_) | (simp; done) | (simp; omega) | omega)))
  have n35 : w.heap.size ≤ w35.heap.size := B35.size
  have s35_0 : w32.heap.size < w35.heap.size := Nat.lt_of_lt_of_le (by first | (simp; done) | (simp; omega) | omega) hb35.size
  have c35_0_0 : w35.cell? ⟨w32.heap.size, 0, none⟩ = some (.float .f64 d) := (hb35.cell (p := ⟨w32.heap.size, 0, none⟩) (by first | (simp; done) | (simp; omega) | omega)).trans (by go_simp)
  have c35_0_1 : w35.cell? ⟨w32.heap.size, 1, none⟩ = some (.float .f64 u) := (hb35.cell (p := ⟨w32.heap.size, 1, none⟩) (by first | (simp; done) | (simp; omega) | omega)).trans (by go_simp)
  have c35_0_2 : w35.cell? ⟨w32.heap.size, 2, none⟩ = some (.float .f64 z) := (hb35.cell (p := ⟨w32.heap.size, 2, none⟩) (by first | (simp; done) | (simp; omega) | omega)).trans (by go_simp)
  have c35_0_3 : w35.cell? ⟨w32.heap.size, 3, none⟩ = some (.float .f64 v) := (hb35.cell (p := ⟨w32.heap.size, 3, none⟩) (by first | (simp; done) | (simp; omega) | omega)).trans (by go_simp)
  clear hb35 B33 c33_0_0 c33_0_1 c33_0_2 c33_0_3
  go_wp2_with fail
  refine (hSu _).mono ?_
  rintro e w' ⟨rfl, rfl⟩
  go_wp2_with fail
  rw [rounds_succ]
  go_wp2_with fail
  refine (hRz 4 _ (by omega)).mono ?_
  rintro e w37 ⟨rfl, hb37⟩
  have B37 : Below w.heap.size w w37 := by (focus (repeat' (first | assumption | exact Below.refl _ _ | refine Below.alloc ?_ ?_ _ | refine Below.setCell ?_ ?_ _ | refine Below.drew ?_ | refine below_drewN ?_ _ | refine Below.trans ?_ (Below.mono (by assumption) ?_) | refine Below.trans ?_ (Below.mono (BW.below _) ?_) | (simp; done) | (simp; omega) | omega)))
  have n37 : w.heap.size ≤ w37.heap.size := B37.size
  have s37_0 : w32.heap.size < w37.heap.size := Nat.lt_of_lt_of_le (by first | (simp; done) | (simp; omega) | omega) hb37.size
  have c37_0_0 : w37.cell? ⟨w32.heap.size, 0, none⟩ = some (.float .f64 d) := (hb37.cell (p := ⟨w32.heap.size, 0, none⟩) (by first | (simp; done) | (simp; omega) | omega)).trans (by go_simp)
  have c37_0_1 : w37.cell? ⟨w32.heap.size, 1, none⟩ = some (.float .f64 u) := (hb37.cell (p := ⟨w32.heap.size, 1, none⟩) (by first | (simp; done) | (simp; omega) | omega)).trans (by go_simp)
  have c37_0_2 : w37.cell? ⟨w32.heap.size, 2, none⟩ = some (.float .f64 z) := (hb37.cell (p := ⟨w32.heap.size, 2, none⟩) (by first | (simp; done) | (simp; omega) | omega)).trans (by go_simp)
  have c37_0_3 : w37.cell? ⟨w32.heap.size, 3, none⟩ = some (.float .f64 v) := (hb37.cell (p := ⟨w32.heap.size, 3, none⟩) (by first | (simp; done) | (simp; omega) | omega)).trans (by go_simp)
  clear hb37 B35 c35_0_0 c35_0_1 c35_0_2 c35_0_3
  go_wp2_with fail
  refine (hSz _).mono ?_
  rintro e w' ⟨rfl, rfl⟩
  go_wp2_with fail
  rw [rounds_succ]
  go_wp2_with fail
  refine (hRv 4 _ (by omega)).mono ?_
  rintro e w39 ⟨rfl, hb39⟩
  have B39 : Below w.heap.size w w39 := by (focus (repeat' (first | assumption | exact Below.refl _ _ | refine Below.alloc ?_ ?_ _ | refine Below.setCell ?_ ?_ _ | refine Below.drew ?_ | refine below_drewN ?_ _ | refine Below.trans ?_ (Below.mono (by assumption) ?_) | refine Below.trans ?_ (Below.mono (BW.below _) ?_) | (simp; done) | (simp; omega) | omega)))
  have n39 : w.heap.size ≤ w39.heap.size := B39.size
  clear hb39 B37 c37_0_0 c37_0_1 c37_0_2 c37_0_3
  go_wp2_with fail
  refine (hSv _).mono ?_
  rintro e w' ⟨rfl, rfl⟩
  go_wp2_with fail
  rw [rounds_succ]
  go_wp2_with fail
  refine (hW 4 _ (by omega)).mono ?_
  rintro e w41 ⟨rfl, hb41⟩
  have B41 : Below w.heap.size w w41 := by (focus (repeat' (first | assumption | exact Below.refl _ _ | refine Below.alloc ?_ ?_ _ | refine Below.setCell ?_ ?_ _ | refine Below.drew ?_ | refine below_drewN ?_ _ | refine Below.trans ?_ (Below.mono (by assumption) ?_) | refine Below.trans ?_ (Below.mono (BW.below _) ?_) | (simp; done) | (simp; omega) | omega)))
  have n41 : w.heap.size ≤ w41.heap.size := B41.size
  clear hb41 B39
  go_wp2_with fail
  rw [rounds_succ]
  rcases HX.out with ⟨x1, x2⟩ | ⟨x1, x2, x3⟩ | ⟨x1, x2⟩
  all_goals
    rcases HE.out with ⟨y1, y2⟩ | ⟨y1, y2, p, r, y3, y4, y5 | y5⟩ | ⟨y1, y2, p, r, y3, y4, y5 | y5⟩
    all_goals
      go_wp2_with fail
      go_ret
      exact ⟨rfl, by (focus (repeat' (first | assumption | exact Below.refl _ _ | refine Below.alloc ?_ ?_ _ | refine Below.setCell ?_ ?_ _ | refine Below.drew ?_ | refine below_drewN ?_ _ | refine Below.trans ?_ (Below.mono (by assumption) ?_) | refine Below.trans ?_ (Below.mono (BW.below _) ?_) | (simp; done) | (simp; omega) | omega)))⟩
end Go.Proofs.Ytblmlglkjmilkac
