/-
  noontidetop.TopHours: the walk.
-/
import Derived.Test.YtblmlglkjmilkabLonV
import Derived.Test.YtblmlglkjmilkabSpanA
namespace Go.Proofs.Ytblmlglkjmilkab
open Go.RowKit Flo
attribute [local go_sem] BW.cell BW.frozen

/-- 15 degrees an hour: looked at one by one. -/
def hourB (h : Int) : Bool := ([1, 2, 3, 4] : List Int).all (fun m => offV (floatOfInt .f64 (15 * h)) m == h * 3600 && offE (floatOfInt .f64 (15 * h)) m == 0) && hourV (floatOfInt .f64 (15 * h)) == h && fitE (floatOfInt .f64 (15 * h)) == 0 && degX (h * 3600) == some (floatOfInt .f64 (15 * h)) && degE (h * 3600) == 0 &&
  (FloatKind.f64.format.order (floatOfInt .f64 (15 * h)) (floatOfInt .f64 (15 * h)) == some Ordering.eq) && decide (floatOfInt .f64 (15 * h) < 18446744073709551616)
theorem hours_all : ((List.range 25).all fun k => hourB ((k : Int) - 12)) = true := by kernel_rfl
theorem hour_of {h : Int} (h0 : -12 ≤ h) (h1 : h ≤ 12) : hourB h = true := by
  have := List.all_eq_true.1 hours_all (h + 12).toNat (List.mem_range.2 (by omega))
  rwa [show ((h + 12).toNat : Int) - 12 = h by omega] at this
set_option maxRecDepth 100000 in
set_option maxHeartbeats 4000000 in
theorem TopHours_n (h a b t u1 u2 V E G H : Int) (x : Nat) (hz : ∀ w : World, Calls Try.prog 39 #[.float .f64 4624633867356078080, .int .i64 1] w fun e w' => e = .returned (.tuple #[.int .i64 3600, .int .i64 0]) ∧ Below w.heap.size w w') (t0 : -1152921504606846976 ≤ t) (t1 : t ≤ 1152921504606846976) (g0 : -12 ≤ h) (g1 : h ≤ 12) (hx : floatOfInt .f64 (15 * h) = x) (ho : (FloatKind.f64.format.order x x == some Ordering.eq) = true) (hA1 : ∀ w : World, Calls Try.prog 39 #[.float .f64 x, .int .i64 1] w fun e w' => e = .returned (.tuple #[.int .i64 (h * 3600), .int .i64 0]) ∧ Below w.heap.size w w') (hA2 : ∀ w : World, Calls Try.prog 39 #[.float .f64 x, .int .i64 2] w fun e w' => e = .returned (.tuple #[.int .i64 (h * 3600), .int .i64 0]) ∧ Below w.heap.size w w') (hA3 : ∀ w : World, Calls Try.prog 39 #[.float .f64 x, .int .i64 3] w fun e w' => e = .returned (.tuple #[.int .i64 (h * 3600), .int .i64 0]) ∧ Below w.heap.size w w') (hA4 : ∀ w : World, Calls Try.prog 39 #[.float .f64 x, .int .i64 4] w fun e w' => e = .returned (.tuple #[.int .i64 (h * 3600), .int .i64 0]) ∧ Below w.heap.size w w') (hK : ∀ w : World, Calls Try.prog 40 #[.float .f64 x] w fun e w' => e = .returned (.tuple #[.int .i64 h, .int .i64 0]) ∧ Below w.heap.size w w') (hD : ∀ w : World, Calls Try.prog 41 #[.int .i64 (h * 3600)] w fun e w' => e = .returned (.tuple #[.float .f64 x, .int .i64 0]) ∧ Below w.heap.size w w') (hM : ∀ w : World, Calls Try.prog 42 #[spn a b, .int .i64 (h * 3600)] w fun e w' => e = .returned (.tuple #[spn u1 u2, .int .i64 1]) ∧ Below w.heap.size w w') (hL : ∀ w : World, Calls Try.prog 43 #[spn a b] w fun e w' => e = .returned (.tuple #[.int .i64 V, .int .i64 E]) ∧ Below w.heap.size w w') (hN : ∀ w : World, Calls Try.prog 43 #[spn u1 u2] w fun e w' => e = .returned (.tuple #[.int .i64 G, .int .i64 H]) ∧ Below w.heap.size w w') (w : World) : Calls Try.prog 8 #[.int .i64 h, spn a b, .int .i64 t] w fun e w' => e = .returned (.bool true) ∧ Below w.heap.size w w' := by
  go_enter Try.func8, Try.ntmps8
  go_wp2_with fail
  refine (hz _).mono ?_
  rintro e w1 ⟨rfl, hb1⟩
  have B1 : Below w.heap.size w w1 := by (focus (repeat' (first | assumption | exact Below.refl _ _ | refine Below.alloc ?_ ?_ _ | refine Below.setCell ?_ ?_ _ | refine Below.drew ?_ | refine below_drewN ?_ _ | refine Below.trans ?_ (Below.mono (by assumption) ?_) | refine Below.trans ?_ (Below.mono (BW.below _) ?_) | (simp; done) | (simp; omega) | omega)))
  have n1 : w.heap.size ≤ w1.heap.size := B1.size
  have s1_0 : w.heap.size < w1.heap.size := Nat.lt_of_lt_of_le (by first | (simp; done) | (simp; omega) | omega) hb1.size
  have c1_0_0 : w1.cell? ⟨w.heap.size, 0, none⟩ = some (.int .i64 (a)) := (hb1.cell (p := ⟨w.heap.size, 0, none⟩) (by first | (simp; done) | (simp; omega) | omega)).trans (by go_simp)
  have c1_0_1 : w1.cell? ⟨w.heap.size, 1, none⟩ = some (.int .i64 (b)) := (hb1.cell (p := ⟨w.heap.size, 1, none⟩) (by first | (simp; done) | (simp; omega) | omega)).trans (by go_simp)
  clear hb1
  go_wp2_with fail
  refine wp_loop_rounds 8 ?_
  rw [rounds_succ]
  go_wp2_with fail
  refine (hA1 _).mono ?_
  rintro e w2 ⟨rfl, hb2⟩
  have B2 : Below w.heap.size w w2 := by (focus (repeat' (first | assumption | exact Below.refl _ _ | refine Below.alloc ?_ ?_ _ | refine Below.setCell ?_ ?_ _ | refine Below.drew ?_ | refine below_drewN ?_ _ | refine Below.trans ?_ (Below.mono (by assumption) ?_) | refine Below.trans ?_ (Below.mono (BW.below _) ?_) | (simp; done) | (simp; omega) | omega)))
  have n2 : w.heap.size ≤ w2.heap.size := B2.size
  have s2_0 : w.heap.size < w2.heap.size := Nat.lt_of_lt_of_le (by first | (simp; done) | (simp; omega) | omega) hb2.size
  have c2_0_0 : w2.cell? ⟨w.heap.size, 0, none⟩ = some (.int .i64 (a)) := (hb2.cell (p := ⟨w.heap.size, 0, none⟩) (by first | (simp; done) | (simp; omega) | omega)).trans (by go_simp)
  have c2_0_1 : w2.cell? ⟨w.heap.size, 1, none⟩ = some (.int .i64 (b)) := (hb2.cell (p := ⟨w.heap.size, 1, none⟩) (by first | (simp; done) | (simp; omega) | omega)).trans (by go_simp)
  clear hb2 B1 c1_0_0 c1_0_1
  go_wp2_with fail
  rw [rounds_succ]
  go_wp2_with fail
  refine (hA2 _).mono ?_
  rintro e w3 ⟨rfl, hb3⟩
  have B3 : Below w.heap.size w w3 := by (focus (repeat' (first | assumption | exact Below.refl _ _ | refine Below.alloc ?_ ?_ _ | refine Below.setCell ?_ ?_ _ | refine Below.drew ?_ | refine below_drewN ?_ _ | refine Below.trans ?_ (Below.mono (by assumption) ?_) | refine Below.trans ?_ (Below.mono (BW.below _) ?_) | (simp; done) | (simp; omega) | omega)))
  have n3 : w.heap.size ≤ w3.heap.size := B3.size
  have s3_0 : w.heap.size < w3.heap.size := Nat.lt_of_lt_of_le (by first | (simp; done) | (simp; omega) | omega) hb3.size
  have c3_0_0 : w3.cell? ⟨w.heap.size, 0, none⟩ = some (.int .i64 (a)) := (hb3.cell (p := ⟨w.heap.size, 0, none⟩) (by first | (simp; done) | (simp; omega) | omega)).trans (by go_simp)
  have c3_0_1 : w3.cell? ⟨w.heap.size, 1, none⟩ = some (.int .i64 (b)) := (hb3.cell (p := ⟨w.heap.size, 1, none⟩) (by first | (simp; done) | (simp; omega) | omega)).trans (by go_simp)
  clear hb3 B2 c2_0_0 c2_0_1
  go_wp2_with fail
  rw [rounds_succ]
  go_wp2_with fail
  refine (hA3 _).mono ?_
  rintro e w4 ⟨rfl, hb4⟩
  have B4 : Below w.heap.size w w4 := by (focus (repeat' (first | assumption | exact Below.refl _ _ | refine Below.alloc ?_ ?_ _ | refine Below.setCell ?_ ?_ _ | refine Below.drew ?_ | refine below_drewN ?_ _ | refine Below.trans ?_ (Below.mono (by assumption) ?_) | refine Below.trans ?_ (Below.mono (BW.below _) ?_) | (simp; done) | (simp; omega) | omega)))
  have n4 : w.heap.size ≤ w4.heap.size := B4.size
  have s4_0 : w.heap.size < w4.heap.size := Nat.lt_of_lt_of_le (by first | (simp; done) | (simp; omega) | omega) hb4.size
  have c4_0_0 : w4.cell? ⟨w.heap.size, 0, none⟩ = some (.int .i64 (a)) := (hb4.cell (p := ⟨w.heap.size, 0, none⟩) (by first | (simp; done) | (simp; omega) | omega)).trans (by go_simp)
  have c4_0_1 : w4.cell? ⟨w.heap.size, 1, none⟩ = some (.int .i64 (b)) := (hb4.cell (p := ⟨w.heap.size, 1, none⟩) (by first | (simp; done) | (simp; omega) | omega)).trans (by go_simp)
  clear hb4 B3 c3_0_0 c3_0_1
  go_wp2_with fail
  rw [rounds_succ]
  go_wp2_with fail
  refine (hA4 _).mono ?_
  rintro e w5 ⟨rfl, hb5⟩
  have B5 : Below w.heap.size w w5 := by (focus (repeat' (first | assumption | exact Below.refl _ _ | refine Below.alloc ?_ ?_ _ | refine Below.setCell ?_ ?_ _ | refine Below.drew ?_ | refine below_drewN ?_ _ | refine Below.trans ?_ (Below.mono (by assumption) ?_) | refine Below.trans ?_ (Below.mono (BW.below _) ?_) | (simp; done) | (simp; omega) | omega)))
  have n5 : w.heap.size ≤ w5.heap.size := B5.size
  have s5_0 : w.heap.size < w5.heap.size := Nat.lt_of_lt_of_le (by first | (simp; done) | (simp; omega) | omega) hb5.size
  have c5_0_0 : w5.cell? ⟨w.heap.size, 0, none⟩ = some (.int .i64 (a)) := (hb5.cell (p := ⟨w.heap.size, 0, none⟩) (by first | (simp; done) | (simp; omega) | omega)).trans (by go_simp)
  have c5_0_1 : w5.cell? ⟨w.heap.size, 1, none⟩ = some (.int .i64 (b)) := (hb5.cell (p := ⟨w.heap.size, 1, none⟩) (by first | (simp; done) | (simp; omega) | omega)).trans (by go_simp)
  clear hb5 B4 c4_0_0 c4_0_1
  go_wp2_with fail
  rw [rounds_succ]
  go_wp2_with fail
  refine (hK _).mono ?_
  rintro e w6 ⟨rfl, hb6⟩
  have B6 : Below w.heap.size w w6 := by (focus (repeat' (first | assumption | exact Below.refl _ _ | refine Below.alloc ?_ ?_ _ | refine Below.setCell ?_ ?_ _ | refine Below.drew ?_ | refine below_drewN ?_ _ | refine Below.trans ?_ (Below.mono (by assumption) ?_) | refine Below.trans ?_ (Below.mono (BW.below _) ?_) | (simp; done) | (simp; omega) | omega)))
  have n6 : w.heap.size ≤ w6.heap.size := B6.size
  have s6_0 : w.heap.size < w6.heap.size := Nat.lt_of_lt_of_le (by first | (simp; done) | (simp; omega) | omega) hb6.size
  have c6_0_0 : w6.cell? ⟨w.heap.size, 0, none⟩ = some (.int .i64 (a)) := (hb6.cell (p := ⟨w.heap.size, 0, none⟩) (by first | (simp; done) | (simp; omega) | omega)).trans (by go_simp)
  have c6_0_1 : w6.cell? ⟨w.heap.size, 1, none⟩ = some (.int .i64 (b)) := (hb6.cell (p := ⟨w.heap.size, 1, none⟩) (by first | (simp; done) | (simp; omega) | omega)).trans (by go_simp)
  clear hb6 B5 c5_0_0 c5_0_1
  go_wp2_with fail
  refine (hD _).mono ?_
  rintro e w7 ⟨rfl, hb7⟩
  have B7 : Below w.heap.size w w7 := by (focus (repeat' (first | assumption | exact Below.refl _ _ | refine Below.alloc ?_ ?_ _ | refine Below.setCell ?_ ?_ _ | refine Below.drew ?_ | refine below_drewN ?_ _ | refine Below.trans ?_ (Below.mono (by assumption) ?_) | refine Below.trans ?_ (Below.mono (BW.below _) ?_) | (simp; done) | (simp; omega) | omega)))
  have n7 : w.heap.size ≤ w7.heap.size := B7.size
  have s7_0 : w.heap.size < w7.heap.size := Nat.lt_of_lt_of_le (by first | (simp; done) | (simp; omega) | omega) hb7.size
  have c7_0_0 : w7.cell? ⟨w.heap.size, 0, none⟩ = some (.int .i64 (a)) := (hb7.cell (p := ⟨w.heap.size, 0, none⟩) (by first | (simp; done) | (simp; omega) | omega)).trans (by go_simp)
  have c7_0_1 : w7.cell? ⟨w.heap.size, 1, none⟩ = some (.int .i64 (b)) := (hb7.cell (p := ⟨w.heap.size, 1, none⟩) (by first | (simp; done) | (simp; omega) | omega)).trans (by go_simp)
  clear hb7 B6 c6_0_0 c6_0_1
  go_wp2_with fail
  refine (hM _).mono ?_
  rintro e w8 ⟨rfl, hb8⟩
  have B8 : Below w.heap.size w w8 := by (focus (repeat' (first | assumption | exact Below.refl _ _ | refine Below.alloc ?_ ?_ _ | refine Below.setCell ?_ ?_ _ | refine Below.drew ?_ | refine below_drewN ?_ _ | refine Below.trans ?_ (Below.mono (by assumption) ?_) | refine Below.trans ?_ (Below.mono (BW.below _) ?_) | (simp; done) | (simp; omega) | omega)))
  have n8 : w.heap.size ≤ w8.heap.size := B8.size
  have s8_0 : w.heap.size < w8.heap.size := Nat.lt_of_lt_of_le (by first | (simp; done) | (simp; omega) | omega) hb8.size
  have c8_0_0 : w8.cell? ⟨w.heap.size, 0, none⟩ = some (.int .i64 (a)) := (hb8.cell (p := ⟨w.heap.size, 0, none⟩) (by first | (simp; done) | (simp; omega) | omega)).trans (by go_simp)
  have c8_0_1 : w8.cell? ⟨w.heap.size, 1, none⟩ = some (.int .i64 (b)) := (hb8.cell (p := ⟨w.heap.size, 1, none⟩) (by first | (simp; done) | (simp; omega) | omega)).trans (by go_simp)
  clear hb8 B7 c7_0_0 c7_0_1
  go_wp2_with fail
  refine (hL _).mono ?_
  rintro e w9 ⟨rfl, hb9⟩
  have B9 : Below w.heap.size w w9 := by (focus (repeat' (first | assumption | exact Below.refl _ _ | refine Below.alloc ?_ ?_ _ | refine Below.setCell ?_ ?_ _ | refine Below.drew ?_ | refine below_drewN ?_ _ | refine Below.trans ?_ (Below.mono (by assumption) ?_) | refine Below.trans ?_ (Below.mono (BW.below _) ?_) | (simp; done) | (simp; omega) | omega)))
  have n9 : w.heap.size ≤ w9.heap.size := B9.size
  have s9_0 : w.heap.size < w9.heap.size := Nat.lt_of_lt_of_le (by first | (simp; done) | (simp; omega) | omega) hb9.size
  have c9_0_0 : w9.cell? ⟨w.heap.size, 0, none⟩ = some (.int .i64 (a)) := (hb9.cell (p := ⟨w.heap.size, 0, none⟩) (by first | (simp; done) | (simp; omega) | omega)).trans (by go_simp)
  have c9_0_1 : w9.cell? ⟨w.heap.size, 1, none⟩ = some (.int .i64 (b)) := (hb9.cell (p := ⟨w.heap.size, 1, none⟩) (by first | (simp; done) | (simp; omega) | omega)).trans (by go_simp)
  have s9_1 : w8.heap.size < w9.heap.size := Nat.lt_of_lt_of_le (by first | (simp; done) | (simp; omega) | omega) hb9.size
  have c9_1_0 : w9.cell? ⟨w8.heap.size, 0, none⟩ = some (.int .i64 (u1)) := (hb9.cell (p := ⟨w8.heap.size, 0, none⟩) (by first | (simp; done) | (simp; omega) | omega)).trans (by go_simp)
  have c9_1_1 : w9.cell? ⟨w8.heap.size, 1, none⟩ = some (.int .i64 (u2)) := (hb9.cell (p := ⟨w8.heap.size, 1, none⟩) (by first | (simp; done) | (simp; omega) | omega)).trans (by go_simp)
  clear hb9 B8 c8_0_0 c8_0_1
  go_wp2_with fail
  refine (hN _).mono ?_
  rintro e w10 ⟨rfl, hb10⟩
  have B10 : Below w.heap.size w w10 := by (focus (repeat' (first | assumption | exact Below.refl _ _ | refine Below.alloc ?_ ?_ _ | refine Below.setCell ?_ ?_ _ | refine Below.drew ?_ | refine below_drewN ?_ _ | refine Below.trans ?_ (Below.mono (by assumption) ?_) | refine Below.trans ?_ (Below.mono (BW.below _) ?_) | (simp; done) | (simp; omega) | omega)))
  have n10 : w.heap.size ≤ w10.heap.size := B10.size
  have s10_0 : w.heap.size < w10.heap.size := Nat.lt_of_lt_of_le (by first | (simp; done) | (simp; omega) | omega) hb10.size
  have c10_0_0 : w10.cell? ⟨w.heap.size, 0, none⟩ = some (.int .i64 (a)) := (hb10.cell (p := ⟨w.heap.size, 0, none⟩) (by first | (simp; done) | (simp; omega) | omega)).trans (by go_simp)
  have c10_0_1 : w10.cell? ⟨w.heap.size, 1, none⟩ = some (.int .i64 (b)) := (hb10.cell (p := ⟨w.heap.size, 1, none⟩) (by first | (simp; done) | (simp; omega) | omega)).trans (by go_simp)
  have s10_1 : w8.heap.size < w10.heap.size := Nat.lt_of_lt_of_le (by first | (simp; done) | (simp; omega) | omega) hb10.size
  have c10_1_0 : w10.cell? ⟨w8.heap.size, 0, none⟩ = some (.int .i64 (u1)) := (hb10.cell (p := ⟨w8.heap.size, 0, none⟩) (by first | (simp; done) | (simp; omega) | omega)).trans (by go_simp)
  have c10_1_1 : w10.cell? ⟨w8.heap.size, 1, none⟩ = some (.int .i64 (u2)) := (hb10.cell (p := ⟨w8.heap.size, 1, none⟩) (by first | (simp; done) | (simp; omega) | omega)).trans (by go_simp)
  clear hb10 B9 c9_0_0 c9_0_1 c9_1_0 c9_1_1
  go_wp2_with fail
  have Bx1 : Below w.heap.size w w10 := by (focus (repeat' (first | assumption | exact Below.refl _ _ | refine Below.alloc ?_ ?_ _ | refine Below.setCell ?_ ?_ _ | refine Below.drew ?_ | refine below_drewN ?_ _ | refine Below.trans ?_ (Below.mono (by assumption) ?_) | refine Below.trans ?_ (Below.mono (BW.below _) ?_) | (simp; done) | (simp; omega) | omega)))
  have nx1 : w.heap.size ≤ w10.heap.size := Bx1.size
  have sx1_0 : w.heap.size < w10.heap.size := (by first | (simp; done) | (simp; omega) | omega)
  have cx1_0_0 : w10.cell? ⟨w.heap.size, 0, none⟩ = some (.int .i64 (a)) := by go_simp
  have cx1_0_1 : w10.cell? ⟨w.heap.size, 1, none⟩ = some (.int .i64 (b)) := by go_simp
  have sx1_1 : w8.heap.size < w10.heap.size := (by first | (simp; done) | (simp; omega) | omega)
  have cx1_1_0 : w10.cell? ⟨w8.heap.size, 0, none⟩ = some (.int .i64 (u1)) := by go_simp
  have cx1_1_1 : w10.cell? ⟨w8.heap.size, 1, none⟩ = some (.int .i64 (u2)) := by go_simp
  clear B10 c10_0_0 c10_0_1 c10_1_0 c10_1_1
  generalize w10 = x1 at *
  try dsimp only [List.append]
  refine wp_region_bw (by kernel_rfl) (by kernel_rfl) ?_; (repeat (go_big_quiet_step (fail))); refine wpQuiet_nil ?_; intro _ hw'; obtain ⟨xq, hw''⟩ := hw'; subst hw''
  have Bx2 : Below w.heap.size w xq.val := Bx1.trans (xq.below.mono nx1)
  have nx2 : w.heap.size ≤ xq.val.heap.size := Bx2.size
  clear Bx1 cx1_0_0 cx1_0_1 cx1_1_0 cx1_1_1
  generalize xq.val = x2 at *
  go_wp2_with fail
  go_ret
  exact ⟨rfl, by (focus (repeat' (first | assumption | exact Below.refl _ _ | refine Below.alloc ?_ ?_ _ | refine Below.setCell ?_ ?_ _ | refine Below.drew ?_ | refine below_drewN ?_ _ | refine Below.trans ?_ (Below.mono (by assumption) ?_) | refine Below.trans ?_ (Below.mono (BW.below _) ?_) | (simp; done) | (simp; omega) | omega)))⟩
  all_goals (exfalso; exact absurd (by simpa using ho) (by assumption))
set_option maxRecDepth 100000 in
set_option maxHeartbeats 4000000 in
theorem TopHours_y (h a b t u1 u2 V E : Int) (x : Nat) (v : Bool) (hz : ∀ w : World, Calls Try.prog 39 #[.float .f64 4624633867356078080, .int .i64 1] w fun e w' => e = .returned (.tuple #[.int .i64 3600, .int .i64 0]) ∧ Below w.heap.size w w') (t0 : -1152921504606846976 ≤ t) (t1 : t ≤ 1152921504606846976) (g0 : -12 ≤ h) (g1 : h ≤ 12) (hx : floatOfInt .f64 (15 * h) = x) (ho : (FloatKind.f64.format.order x x == some Ordering.eq) = true) (hA1 : ∀ w : World, Calls Try.prog 39 #[.float .f64 x, .int .i64 1] w fun e w' => e = .returned (.tuple #[.int .i64 (h * 3600), .int .i64 0]) ∧ Below w.heap.size w w') (hA2 : ∀ w : World, Calls Try.prog 39 #[.float .f64 x, .int .i64 2] w fun e w' => e = .returned (.tuple #[.int .i64 (h * 3600), .int .i64 0]) ∧ Below w.heap.size w w') (hA3 : ∀ w : World, Calls Try.prog 39 #[.float .f64 x, .int .i64 3] w fun e w' => e = .returned (.tuple #[.int .i64 (h * 3600), .int .i64 0]) ∧ Below w.heap.size w w') (hA4 : ∀ w : World, Calls Try.prog 39 #[.float .f64 x, .int .i64 4] w fun e w' => e = .returned (.tuple #[.int .i64 (h * 3600), .int .i64 0]) ∧ Below w.heap.size w w') (hK : ∀ w : World, Calls Try.prog 40 #[.float .f64 x] w fun e w' => e = .returned (.tuple #[.int .i64 h, .int .i64 0]) ∧ Below w.heap.size w w') (hD : ∀ w : World, Calls Try.prog 41 #[.int .i64 (h * 3600)] w fun e w' => e = .returned (.tuple #[.float .f64 x, .int .i64 0]) ∧ Below w.heap.size w w') (hM : ∀ w : World, Calls Try.prog 42 #[spn a b, .int .i64 (h * 3600)] w fun e w' => e = .returned (.tuple #[spn u1 u2, .int .i64 0]) ∧ Below w.heap.size w w') (hL : ∀ w : World, Calls Try.prog 43 #[spn a b] w fun e w' => e = .returned (.tuple #[.int .i64 V, .int .i64 E]) ∧ Below w.heap.size w w') (hN : ∀ w : World, Calls Try.prog 43 #[spn u1 u2] w fun e w' => e = .returned (.tuple #[.int .i64 V, .int .i64 E]) ∧ Below w.heap.size w w') (hS : ∀ w : World, Calls Try.prog 44 #[spn a b, .int .i64 t] w fun e w' => e = .returned (.bool v) ∧ Below w.heap.size w w') (hT : ∀ w : World, Calls Try.prog 44 #[spn u1 u2, .int .i64 (t + h * 3600)] w fun e w' => e = .returned (.bool v) ∧ Below w.heap.size w w') (w : World) : Calls Try.prog 8 #[.int .i64 h, spn a b, .int .i64 t] w fun e w' => e = .returned (.bool true) ∧ Below w.heap.size w w' := by
  go_enter Try.func8, Try.ntmps8
  go_wp2_with fail
  refine (hz _).mono ?_
  rintro e w1 ⟨rfl, hb1⟩
  have B1 : Below w.heap.size w w1 := by (focus (repeat' (first | assumption | exact Below.refl _ _ | refine Below.alloc ?_ ?_ _ | refine Below.setCell ?_ ?_ _ | refine Below.drew ?_ | refine below_drewN ?_ _ | refine Below.trans ?_ (Below.mono (by assumption) ?_) | refine Below.trans ?_ (Below.mono (BW.below _) ?_) | (simp; done) | (simp; omega) | omega)))
  have n1 : w.heap.size ≤ w1.heap.size := B1.size
  have s1_0 : w.heap.size < w1.heap.size := Nat.lt_of_lt_of_le (by first | (simp; done) | (simp; omega) | omega) hb1.size
  have c1_0_0 : w1.cell? ⟨w.heap.size, 0, none⟩ = some (.int .i64 (a)) := (hb1.cell (p := ⟨w.heap.size, 0, none⟩) (by first | (simp; done) | (simp; omega) | omega)).trans (by go_simp)
  have c1_0_1 : w1.cell? ⟨w.heap.size, 1, none⟩ = some (.int .i64 (b)) := (hb1.cell (p := ⟨w.heap.size, 1, none⟩) (by first | (simp; done) | (simp; omega) | omega)).trans (by go_simp)
  clear hb1
  go_wp2_with fail
  refine wp_loop_rounds 8 ?_
  rw [rounds_succ]
  go_wp2_with fail
  refine (hA1 _).mono ?_
  rintro e w2 ⟨rfl, hb2⟩
  have B2 : Below w.heap.size w w2 := by (focus (repeat' (first | assumption | exact Below.refl _ _ | refine Below.alloc ?_ ?_ _ | refine Below.setCell ?_ ?_ _ | refine Below.drew ?_ | refine below_drewN ?_ _ | refine Below.trans ?_ (Below.mono (by assumption) ?_) | refine Below.trans ?_ (Below.mono (BW.below _) ?_) | (simp; done) | (simp; omega) | omega)))
  have n2 : w.heap.size ≤ w2.heap.size := B2.size
  have s2_0 : w.heap.size < w2.heap.size := Nat.lt_of_lt_of_le (by first | (simp; done) | (simp; omega) | omega) hb2.size
  have c2_0_0 : w2.cell? ⟨w.heap.size, 0, none⟩ = some (.int .i64 (a)) := (hb2.cell (p := ⟨w.heap.size, 0, none⟩) (by first | (simp; done) | (simp; omega) | omega)).trans (by go_simp)
  have c2_0_1 : w2.cell? ⟨w.heap.size, 1, none⟩ = some (.int .i64 (b)) := (hb2.cell (p := ⟨w.heap.size, 1, none⟩) (by first | (simp; done) | (simp; omega) | omega)).trans (by go_simp)
  clear hb2 B1 c1_0_0 c1_0_1
  go_wp2_with fail
  rw [rounds_succ]
  go_wp2_with fail
  refine (hA2 _).mono ?_
  rintro e w3 ⟨rfl, hb3⟩
  have B3 : Below w.heap.size w w3 := by (focus (repeat' (first | assumption | exact Below.refl _ _ | refine Below.alloc ?_ ?_ _ | refine Below.setCell ?_ ?_ _ | refine Below.drew ?_ | refine below_drewN ?_ _ | refine Below.trans ?_ (Below.mono (by assumption) ?_) | refine Below.trans ?_ (Below.mono (BW.below _) ?_) | (simp; done) | (simp; omega) | omega)))
  have n3 : w.heap.size ≤ w3.heap.size := B3.size
  have s3_0 : w.heap.size < w3.heap.size := Nat.lt_of_lt_of_le (by first | (simp; done) | (simp; omega) | omega) hb3.size
  have c3_0_0 : w3.cell? ⟨w.heap.size, 0, none⟩ = some (.int .i64 (a)) := (hb3.cell (p := ⟨w.heap.size, 0, none⟩) (by first | (simp; done) | (simp; omega) | omega)).trans (by go_simp)
  have c3_0_1 : w3.cell? ⟨w.heap.size, 1, none⟩ = some (.int .i64 (b)) := (hb3.cell (p := ⟨w.heap.size, 1, none⟩) (by first | (simp; done) | (simp; omega) | omega)).trans (by go_simp)
  clear hb3 B2 c2_0_0 c2_0_1
  go_wp2_with fail
  rw [rounds_succ]
  go_wp2_with fail
  refine (hA3 _).mono ?_
  rintro e w4 ⟨rfl, hb4⟩
  have B4 : Below w.heap.size w w4 := by (focus (repeat' (first | assumption | exact Below.refl _ _ | refine Below.alloc ?_ ?_ _ | refine Below.setCell ?_ ?_ _ | refine Below.drew ?_ | refine below_drewN ?_ _ | refine Below.trans ?_ (Below.mono (by assumption) ?_) | refine Below.trans ?_ (Below.mono (BW.below _) ?_) | (simp; done) | (simp; omega) | omega)))
  have n4 : w.heap.size ≤ w4.heap.size := B4.size
  have s4_0 : w.heap.size < w4.heap.size := Nat.lt_of_lt_of_le (by first | (simp; done) | (simp; omega) | omega) hb4.size
  have c4_0_0 : w4.cell? ⟨w.heap.size, 0, none⟩ = some (.int .i64 (a)) := (hb4.cell (p := ⟨w.heap.size, 0, none⟩) (by first | (simp; done) | (simp; omega) | omega)).trans (by go_simp)
  have c4_0_1 : w4.cell? ⟨w.heap.size, 1, none⟩ = some (.int .i64 (b)) := (hb4.cell (p := ⟨w.heap.size, 1, none⟩) (by first | (simp; done) | (simp; omega) | omega)).trans (by go_simp)
  clear hb4 B3 c3_0_0 c3_0_1
  go_wp2_with fail
  rw [rounds_succ]
  go_wp2_with fail
  refine (hA4 _).mono ?_
  rintro e w5 ⟨rfl, hb5⟩
  have B5 : Below w.heap.size w w5 := by (focus (repeat' (first | assumption | exact Below.refl _ _ | refine Below.alloc ?_ ?_ _ | refine Below.setCell ?_ ?_ _ | refine Below.drew ?_ | refine below_drewN ?_ _ | refine Below.trans ?_ (Below.mono (by assumption) ?_) | refine Below.trans ?_ (Below.mono (BW.below _) ?_) | (simp; done) | (simp; omega) | omega)))
  have n5 : w.heap.size ≤ w5.heap.size := B5.size
  have s5_0 : w.heap.size < w5.heap.size := Nat.lt_of_lt_of_le (by first | (simp; done) | (simp; omega) | omega) hb5.size
  have c5_0_0 : w5.cell? ⟨w.heap.size, 0, none⟩ = some (.int .i64 (a)) := (hb5.cell (p := ⟨w.heap.size, 0, none⟩) (by first | (simp; done) | (simp; omega) | omega)).trans (by go_simp)
  have c5_0_1 : w5.cell? ⟨w.heap.size, 1, none⟩ = some (.int .i64 (b)) := (hb5.cell (p := ⟨w.heap.size, 1, none⟩) (by first | (simp; done) | (simp; omega) | omega)).trans (by go_simp)
  clear hb5 B4 c4_0_0 c4_0_1
  go_wp2_with fail
  rw [rounds_succ]
  go_wp2_with fail
  refine (hK _).mono ?_
  rintro e w6 ⟨rfl, hb6⟩
  have B6 : Below w.heap.size w w6 := by (focus (repeat' (first | assumption | exact Below.refl _ _ | refine Below.alloc ?_ ?_ _ | refine Below.setCell ?_ ?_ _ | refine Below.drew ?_ | refine below_drewN ?_ _ | refine Below.trans ?_ (Below.mono (by assumption) ?_) | refine Below.trans ?_ (Below.mono (BW.below _) ?_) | (simp; done) | (simp; omega) | omega)))
  have n6 : w.heap.size ≤ w6.heap.size := B6.size
  have s6_0 : w.heap.size < w6.heap.size := Nat.lt_of_lt_of_le (by first | (simp; done) | (simp; omega) | omega) hb6.size
  have c6_0_0 : w6.cell? ⟨w.heap.size, 0, none⟩ = some (.int .i64 (a)) := (hb6.cell (p := ⟨w.heap.size, 0, none⟩) (by first | (simp; done) | (simp; omega) | omega)).trans (by go_simp)
  have c6_0_1 : w6.cell? ⟨w.heap.size, 1, none⟩ = some (.int .i64 (b)) := (hb6.cell (p := ⟨w.heap.size, 1, none⟩) (by first | (simp; done) | (simp; omega) | omega)).trans (by go_simp)
  clear hb6 B5 c5_0_0 c5_0_1
  go_wp2_with fail
  refine (hD _).mono ?_
  rintro e w7 ⟨rfl, hb7⟩
  have B7 : Below w.heap.size w w7 := by (focus (repeat' (first | assumption | exact Below.refl _ _ | refine Below.alloc ?_ ?_ _ | refine Below.setCell ?_ ?_ _ | refine Below.drew ?_ | refine below_drewN ?_ _ | refine Below.trans ?_ (Below.mono (by assumption) ?_) | refine Below.trans ?_ (Below.mono (BW.below _) ?_) | (simp; done) | (simp; omega) | omega)))
  have n7 : w.heap.size ≤ w7.heap.size := B7.size
  have s7_0 : w.heap.size < w7.heap.size := Nat.lt_of_lt_of_le (by first | (simp; done) | (simp; omega) | omega) hb7.size
  have c7_0_0 : w7.cell? ⟨w.heap.size, 0, none⟩ = some (.int .i64 (a)) := (hb7.cell (p := ⟨w.heap.size, 0, none⟩) (by first | (simp; done) | (simp; omega) | omega)).trans (by go_simp)
  have c7_0_1 : w7.cell? ⟨w.heap.size, 1, none⟩ = some (.int .i64 (b)) := (hb7.cell (p := ⟨w.heap.size, 1, none⟩) (by first | (simp; done) | (simp; omega) | omega)).trans (by go_simp)
  clear hb7 B6 c6_0_0 c6_0_1
  go_wp2_with fail
  refine (hM _).mono ?_
  rintro e w8 ⟨rfl, hb8⟩
  have B8 : Below w.heap.size w w8 := by (focus (repeat' (first | assumption | exact Below.refl _ _ | refine Below.alloc ?_ ?_ _ | refine Below.setCell ?_ ?_ _ | refine Below.drew ?_ | refine below_drewN ?_ _ | refine Below.trans ?_ (Below.mono (by assumption) ?_) | refine Below.trans ?_ (Below.mono (BW.below _) ?_) | (simp; done) | (simp; omega) | omega)))
  have n8 : w.heap.size ≤ w8.heap.size := B8.size
  have s8_0 : w.heap.size < w8.heap.size := Nat.lt_of_lt_of_le (by first | (simp; done) | (simp; omega) | omega) hb8.size
  have c8_0_0 : w8.cell? ⟨w.heap.size, 0, none⟩ = some (.int .i64 (a)) := (hb8.cell (p := ⟨w.heap.size, 0, none⟩) (by first | (simp; done) | (simp; omega) | omega)).trans (by go_simp)
  have c8_0_1 : w8.cell? ⟨w.heap.size, 1, none⟩ = some (.int .i64 (b)) := (hb8.cell (p := ⟨w.heap.size, 1, none⟩) (by first | (simp; done) | (simp; omega) | omega)).trans (by go_simp)
  clear hb8 B7 c7_0_0 c7_0_1
  go_wp2_with fail
  refine (hL _).mono ?_
  rintro e w9 ⟨rfl, hb9⟩
  have B9 : Below w.heap.size w w9 := by (focus (repeat' (first | assumption | exact Below.refl _ _ | refine Below.alloc ?_ ?_ _ | refine Below.setCell ?_ ?_ _ | refine Below.drew ?_ | refine below_drewN ?_ _ | refine Below.trans ?_ (Below.mono (by assumption) ?_) | refine Below.trans ?_ (Below.mono (BW.below _) ?_) | (simp; done) | (simp; omega) | omega)))
  have n9 : w.heap.size ≤ w9.heap.size := B9.size
  have s9_0 : w.heap.size < w9.heap.size := Nat.lt_of_lt_of_le (by first | (simp; done) | (simp; omega) | omega) hb9.size
  have c9_0_0 : w9.cell? ⟨w.heap.size, 0, none⟩ = some (.int .i64 (a)) := (hb9.cell (p := ⟨w.heap.size, 0, none⟩) (by first | (simp; done) | (simp; omega) | omega)).trans (by go_simp)
  have c9_0_1 : w9.cell? ⟨w.heap.size, 1, none⟩ = some (.int .i64 (b)) := (hb9.cell (p := ⟨w.heap.size, 1, none⟩) (by first | (simp; done) | (simp; omega) | omega)).trans (by go_simp)
  have s9_1 : w8.heap.size < w9.heap.size := Nat.lt_of_lt_of_le (by first | (simp; done) | (simp; omega) | omega) hb9.size
  have c9_1_0 : w9.cell? ⟨w8.heap.size, 0, none⟩ = some (.int .i64 (u1)) := (hb9.cell (p := ⟨w8.heap.size, 0, none⟩) (by first | (simp; done) | (simp; omega) | omega)).trans (by go_simp)
  have c9_1_1 : w9.cell? ⟨w8.heap.size, 1, none⟩ = some (.int .i64 (u2)) := (hb9.cell (p := ⟨w8.heap.size, 1, none⟩) (by first | (simp; done) | (simp; omega) | omega)).trans (by go_simp)
  clear hb9 B8 c8_0_0 c8_0_1
  go_wp2_with fail
  refine (hN _).mono ?_
  rintro e w10 ⟨rfl, hb10⟩
  have B10 : Below w.heap.size w w10 := by (focus (repeat' (first | assumption | exact Below.refl _ _ | refine Below.alloc ?_ ?_ _ | refine Below.setCell ?_ ?_ _ | refine Below.drew ?_ | refine below_drewN ?_ _ | refine Below.trans ?_ (Below.mono (by assumption) ?_) | refine Below.trans ?_ (Below.mono (BW.below _) ?_) | (simp; done) | (simp; omega) | omega)))
  have n10 : w.heap.size ≤ w10.heap.size := B10.size
  have s10_0 : w.heap.size < w10.heap.size := Nat.lt_of_lt_of_le (by first | (simp; done) | (simp; omega) | omega) hb10.size
  have c10_0_0 : w10.cell? ⟨w.heap.size, 0, none⟩ = some (.int .i64 (a)) := (hb10.cell (p := ⟨w.heap.size, 0, none⟩) (by first | (simp; done) | (simp; omega) | omega)).trans (by go_simp)
  have c10_0_1 : w10.cell? ⟨w.heap.size, 1, none⟩ = some (.int .i64 (b)) := (hb10.cell (p := ⟨w.heap.size, 1, none⟩) (by first | (simp; done) | (simp; omega) | omega)).trans (by go_simp)
  have s10_1 : w8.heap.size < w10.heap.size := Nat.lt_of_lt_of_le (by first | (simp; done) | (simp; omega) | omega) hb10.size
  have c10_1_0 : w10.cell? ⟨w8.heap.size, 0, none⟩ = some (.int .i64 (u1)) := (hb10.cell (p := ⟨w8.heap.size, 0, none⟩) (by first | (simp; done) | (simp; omega) | omega)).trans (by go_simp)
  have c10_1_1 : w10.cell? ⟨w8.heap.size, 1, none⟩ = some (.int .i64 (u2)) := (hb10.cell (p := ⟨w8.heap.size, 1, none⟩) (by first | (simp; done) | (simp; omega) | omega)).trans (by go_simp)
  clear hb10 B9 c9_0_0 c9_0_1 c9_1_0 c9_1_1
  go_wp2_with fail
  have Bx1 : Below w.heap.size w w10 := by (focus (repeat' (first | assumption | exact Below.refl _ _ | refine Below.alloc ?_ ?_ _ | refine Below.setCell ?_ ?_ _ | refine Below.drew ?_ | refine below_drewN ?_ _ | refine Below.trans ?_ (Below.mono (by assumption) ?_) | refine Below.trans ?_ (Below.mono (BW.below _) ?_) | (simp; done) | (simp; omega) | omega)))
  have nx1 : w.heap.size ≤ w10.heap.size := Bx1.size
  have sx1_0 : w.heap.size < w10.heap.size := (by first | (simp; done) | (simp; omega) | omega)
  have cx1_0_0 : w10.cell? ⟨w.heap.size, 0, none⟩ = some (.int .i64 (a)) := by go_simp
  have cx1_0_1 : w10.cell? ⟨w.heap.size, 1, none⟩ = some (.int .i64 (b)) := by go_simp
  have sx1_1 : w8.heap.size < w10.heap.size := (by first | (simp; done) | (simp; omega) | omega)
  have cx1_1_0 : w10.cell? ⟨w8.heap.size, 0, none⟩ = some (.int .i64 (u1)) := by go_simp
  have cx1_1_1 : w10.cell? ⟨w8.heap.size, 1, none⟩ = some (.int .i64 (u2)) := by go_simp
  clear B10 c10_0_0 c10_0_1 c10_1_0 c10_1_1
  generalize w10 = x1 at *
  try dsimp only [List.append]
  refine wp_region_bw (by kernel_rfl) (by kernel_rfl) ?_; (repeat (go_big_quiet_step ((go_at_call 44; (first | with_reducible exact bw_call (hS _) | with_reducible exact bw_call (hT _)))))); refine wpQuiet_nil ?_; intro _ hw'; obtain ⟨xq, hw''⟩ := hw'; subst hw''
  have Bx2 : Below w.heap.size w xq.val := Bx1.trans (xq.below.mono nx1)
  have nx2 : w.heap.size ≤ xq.val.heap.size := Bx2.size
  clear Bx1 cx1_0_0 cx1_0_1 cx1_1_0 cx1_1_1
  generalize xq.val = x2 at *
  go_wp2_with fail
  go_ret
  exact ⟨rfl, by (focus (repeat' (first | assumption | exact Below.refl _ _ | refine Below.alloc ?_ ?_ _ | refine Below.setCell ?_ ?_ _ | refine Below.drew ?_ | refine below_drewN ?_ _ | refine Below.trans ?_ (Below.mono (by assumption) ?_) | refine Below.trans ?_ (Below.mono (BW.below _) ?_) | (simp; done) | (simp; omega) | omega)))⟩
  all_goals (exfalso; exact absurd (by simpa using ho) (by assumption))
set_option maxRecDepth 100000 in
set_option maxHeartbeats 4000000 in
theorem TopHours_x (h a b t : Int) (hz : ∀ w : World, Calls Try.prog 39 #[.float .f64 4624633867356078080, .int .i64 1] w fun e w' => e = .returned (.tuple #[.int .i64 3600, .int .i64 0]) ∧ Below w.heap.size w w') (hn : ¬ (-12 ≤ h ∧ h ≤ 12 ∧ -1152921504606846976 ≤ t ∧ t ≤ 1152921504606846976)) (w : World) : Calls Try.prog 8 #[.int .i64 h, spn a b, .int .i64 t] w fun e w' => e = .returned (.bool true) ∧ Below w.heap.size w w' := by
  have HN := Lib.hid hn
  clear hn
  go_enter Try.func8, Try.ntmps8
  go_wp2_with fail
  refine (hz _).mono ?_
  rintro e w1 ⟨rfl, hb1⟩
  have B1 : Below w.heap.size w w1 := by (focus (repeat' (first | assumption | exact Below.refl _ _ | refine Below.alloc ?_ ?_ _ | refine Below.setCell ?_ ?_ _ | refine Below.drew ?_ | refine below_drewN ?_ _ | refine Below.trans ?_ (Below.mono (by assumption) ?_) | refine Below.trans ?_ (Below.mono (BW.below _) ?_) | (simp; done) | (simp; omega) | omega)))
  have n1 : w.heap.size ≤ w1.heap.size := B1.size
  clear hb1
  go_wp2_with fail
  all_goals (first | (exfalso; have := HN.out; omega) | (go_ret; exact ⟨rfl, by (focus (repeat' (first | assumption | exact Below.refl _ _ | refine Below.alloc ?_ ?_ _ | refine Below.setCell ?_ ?_ _ | refine Below.drew ?_ | refine below_drewN ?_ _ | refine Below.trans ?_ (Below.mono (by assumption) ?_) | refine Below.trans ?_ (Below.mono (BW.below _) ?_) | (simp; done) | (simp; omega) | omega)))⟩))
theorem errI_is {x : Int} (h : (errI x != 0) = false) : I64 x := by
  unfold errI okI at h
  unfold I64
  by_cases hh : -9223372036854775808 ≤ x ∧ x ≤ 9223372036854775807
  · exact hh
  · simp [hh] at h
theorem len_shift (a b k : Int) : lenV (a + k) (b + k) = lenV a b ∧ lenE (a + k) (b + k) = lenE a b := by
  have e : b + k - (a + k) = b - a := by omega
  unfold lenV lenE
  rw [e]
  by_cases h : a < b
  · rw [if_pos h, if_pos (show a + k < b + k by omega), if_pos h, if_pos (show a + k < b + k by omega)]; exact ⟨rfl, rfl⟩
  · rw [if_neg h, if_neg (show ¬ a + k < b + k by omega), if_neg h, if_neg (show ¬ a + k < b + k by omega)]; exact ⟨rfl, rfl⟩
theorem TopHours_walk (h a b t : Int) (ka : I64 a) (kb : I64 b) (w : World) : Calls Try.prog 8 #[.int .i64 h, spn a b, .int .i64 t] w fun e w' => e = .returned (.bool true) ∧ Below w.heap.size w w' := by
  have hz : ∀ w : World, Calls Try.prog 39 #[.float .f64 4624633867356078080, .int .i64 1] w fun e w' => e = .returned (.tuple #[.int .i64 3600, .int .i64 0]) ∧ Below w.heap.size w w' := fun w => off_is 4624633867356078080 (m := 1) (V := 3600) (E := 0) (by decide) (by kernel_rfl) (by kernel_rfl) w
  by_cases hh : -12 ≤ h ∧ h ≤ 12 ∧ -1152921504606846976 ≤ t ∧ t ≤ 1152921504606846976
  · obtain ⟨g0, g1, t0, t1⟩ := hh
    have hB := hour_of g0 g1
    simp only [hourB, Bool.and_eq_true, beq_iff_eq, List.all_cons, List.all_nil, decide_eq_true_eq] at hB
    obtain ⟨⟨⟨⟨⟨⟨⟨m1, m2, m3, m4, -⟩, k1⟩, k2⟩, d1⟩, d2⟩, o⟩, lt⟩ := hB
    have ho : (FloatKind.f64.format.order (floatOfInt .f64 (15 * h)) (floatOfInt .f64 (15 * h)) == some Ordering.eq) = true := by rw [o]; rfl
    have hN0 : ∀ w : World, Calls Try.prog 43 #[spn 0 0] w fun e w' => e = .returned (.tuple #[.int .i64 (lenV 0 0), .int .i64 (lenE 0 0)]) ∧ Below w.heap.size w w' := fun w => span_Len 0 0 (I64.sm (by omega)) (I64.sm (by omega)) w
    have hM := fun w => span_Move a b (h * 3600) ka kb (I64.sm (by omega)) w
    rcases move_cases a b (h * 3600) with ⟨h1, h2, h3, h4, e1, e2, e3⟩ | ⟨h1, e1, e2, e3⟩ | ⟨h1, h2, e1, e2, e3⟩ | ⟨h1, h2, h3, e1, e2, e3⟩
    · rw [e1, e2, e3] at hM
      have hN := fun w => span_Len (a + h * 3600) (b + h * 3600) (errI_is h2) (errI_is h3) w
      rw [(len_shift a b (h * 3600)).1, (len_shift a b (h * 3600)).2] at hN
      have hT := fun w => span_Has (a + h * 3600) (b + h * 3600) (t + h * 3600) w
      rw [show decide (a + h * 3600 ≤ t + h * 3600 ∧ t + h * 3600 < b + h * 3600) = decide (a ≤ t ∧ t < b) from decide_eq_decide.2 (by omega)] at hT
      exact TopHours_y h a b t _ _ _ _ _ _ hz t0 t1 g0 g1 rfl ho (fun w => off_is _ lt m1.1 m1.2 w) (fun w => off_is _ lt m2.1 m2.2 w) (fun w => off_is _ lt m3.1 m3.2 w) (fun w => off_is _ lt m4.1 m4.2 w) (fun w => hours_is _ lt k1 k2 w) (fun w => gfe_is (lon_Degrees (h * 3600) w) d1 d2) hM (fun w => span_Len a b ka kb w) hN (fun w => span_Has a b t w) hT w
    all_goals
      rw [e1, e2, e3] at hM
      exact TopHours_n h a b t _ _ _ _ _ _ _ hz t0 t1 g0 g1 rfl ho (fun w => off_is _ lt m1.1 m1.2 w) (fun w => off_is _ lt m2.1 m2.2 w) (fun w => off_is _ lt m3.1 m3.2 w) (fun w => off_is _ lt m4.1 m4.2 w) (fun w => hours_is _ lt k1 k2 w) (fun w => gfe_is (lon_Degrees (h * 3600) w) d1 d2) hM (fun w => span_Len a b ka kb w) hN0 w
  · exact TopHours_x h a b t hz hh w
end Go.Proofs.Ytblmlglkjmilkab
