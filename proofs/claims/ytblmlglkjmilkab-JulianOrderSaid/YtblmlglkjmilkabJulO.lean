/-
  noontidelaw08.JulianOrder: the walk.
-/
import Derived.Test.YtblmlglkjmilkabJulV
import Derived.Test.YtblmlglkjmilkabFloM
namespace Go.Proofs.Ytblmlglkjmilkab
open Go.RowKit Flo
attribute [local go_sem] BW.cell BW.frozen

theorem same_nz {x d : Nat} {X : Option Nat} (h : Hid (x < 18446744073709551616 ∧ nz x = X)) (hd : d < 18446744073709551616) (e : X = nz d) (w : World) : Calls Try.prog 46 #[.float .f64 x, .float .f64 d] w fun e w' => e = .returned (.bool true) ∧ w = w' := by
  have := real_Same x d h.out.1 hd w
  rwa [show (plc x == plc d) = true by rw [plc_nz (h.out.2.trans e)]; simp] at this
set_option maxRecDepth 100000 in
set_option maxHeartbeats 4000000 in
theorem JulianOrder_yis (t u : Int) (d s r v f g : Nat) (k : Int) (htu : t ≤ u) (hOt : ∀ w : World, Calls Try.prog 34 #[.int .i64 t] w fun e w' => e = .returned (.float .f64 s) ∧ Below w.heap.size w w') (hOu : ∀ w : World, Calls Try.prog 34 #[.int .i64 u] w fun e w' => e = .returned (.float .f64 r) ∧ Below w.heap.size w w') (o1 : (FloatKind.f64.format.order s r == some Ordering.gt) = false) (h0 : -1096193779200 ≤ t) (h1 : t ≤ 971890963199) (hOv : ∀ w : World, Calls Try.prog 34 #[.int .i64 (t + 86400)] w fun e w' => e = .returned (.float .f64 v) ∧ Below w.heap.size w w') (hs1 : ∀ w : World, (binOp .sub 28 (.float .f64 v) (.float .f64 s)).run Try.prog w = .ok (.float .f64 f) w) (hs2 : ∀ w : World, (binOp .sub 28 (.float .f64 f) (.float .f64 4607182418800017408)).run Try.prog w = .ok (.float .f64 g) w) (o2 : (FloatKind.f64.format.order g 4517329193108106637 == some Ordering.gt) = false) (o3 : (FloatKind.f64.format.order g 13740701229962882445 == some Ordering.lt) = false) (hP : ∀ w : World, Calls Try.prog 31 #[.float .f64 d] w (GF2 w (nz d) none)) (hd : d < 18446744073709551616) (hK : ∀ w : World, Calls Try.prog 45 #[.float .f64 d] w fun e w' => e = .returned (.int .i64 k) ∧ w = w') (hk : k = 0 ∨ k = 1 ∨ k = 6) (w : World) : Calls Try.prog 9 #[.int .i64 t, .int .i64 u, .float .f64 d] w fun e w' => e = .returned (.bool true) ∧ Below w.heap.size w w' := by
  have HD := Lib.hid hd
  clear hd
  rcases hk with rfl | rfl | rfl
  all_goals
    go_enter Try.func9, Try.ntmps9
    go_wp2_with fail
    refine (jul_lives _).mono ?_
    rintro e w1 ⟨rfl, hb1⟩
    have B1 : Below w.heap.size w w1 := by (focus (repeat' (first | assumption | exact Below.refl _ _ | refine Below.alloc ?_ ?_ _ | refine Below.setCell ?_ ?_ _ | refine Below.drew ?_ | refine below_drewN ?_ _ | refine Below.trans ?_ (Below.mono (by assumption) ?_) | refine Below.trans ?_ (Below.mono (BW.below _) ?_) | (simp; done) | (simp; omega) | omega)))
    have n1 : w.heap.size ≤ w1.heap.size := B1.size
    clear hb1
    go_wp2_with fail
    refine (hOt _).mono ?_
    rintro e w2 ⟨rfl, hb2⟩
    have B2 : Below w.heap.size w w2 := by (focus (repeat' (first | assumption | exact Below.refl _ _ | refine Below.alloc ?_ ?_ _ | refine Below.setCell ?_ ?_ _ | refine Below.drew ?_ | refine below_drewN ?_ _ | refine Below.trans ?_ (Below.mono (by assumption) ?_) | refine Below.trans ?_ (Below.mono (BW.below _) ?_) | (simp; done) | (simp; omega) | omega)))
    have n2 : w.heap.size ≤ w2.heap.size := B2.size
    clear hb2 B1
    go_wp2_with fail
    refine (hOu _).mono ?_
    rintro e w3 ⟨rfl, hb3⟩
    have B3 : Below w.heap.size w w3 := by (focus (repeat' (first | assumption | exact Below.refl _ _ | refine Below.alloc ?_ ?_ _ | refine Below.setCell ?_ ?_ _ | refine Below.drew ?_ | refine below_drewN ?_ _ | refine Below.trans ?_ (Below.mono (by assumption) ?_) | refine Below.trans ?_ (Below.mono (BW.below _) ?_) | (simp; done) | (simp; omega) | omega)))
    have n3 : w.heap.size ≤ w3.heap.size := B3.size
    clear hb3 B2
    go_wp2_with fail
    refine (hOv _).mono ?_
    rintro e w4 ⟨rfl, hb4⟩
    have B4 : Below w.heap.size w w4 := by (focus (repeat' (first | assumption | exact Below.refl _ _ | refine Below.alloc ?_ ?_ _ | refine Below.setCell ?_ ?_ _ | refine Below.drew ?_ | refine below_drewN ?_ _ | refine Below.trans ?_ (Below.mono (by assumption) ?_) | refine Below.trans ?_ (Below.mono (BW.below _) ?_) | (simp; done) | (simp; omega) | omega)))
    have n4 : w.heap.size ≤ w4.heap.size := B4.size
    clear hb4 B3
    go_wp2_with fail
    refine (hOt _).mono ?_
    rintro e w5 ⟨rfl, hb5⟩
    have B5 : Below w.heap.size w w5 := by (focus (repeat' (first | assumption | exact Below.refl _ _ | refine Below.alloc ?_ ?_ _ | refine Below.setCell ?_ ?_ _ | refine Below.drew ?_ | refine below_drewN ?_ _ | refine Below.trans ?_ (Below.mono (by assumption) ?_) | refine Below.trans ?_ (Below.mono (BW.below _) ?_) | (simp; done) | (simp; omega) | omega)))
    have n5 : w.heap.size ≤ w5.heap.size := B5.size
    clear hb5 B4
    go_wp2_with fail
    refine (hP _).mono ?_
    rintro e w6 ⟨x9, y9, rfl, HX9, HY9, hb6⟩
    have B6 : Below w.heap.size w w6 := by (focus (repeat' (first | assumption | exact Below.refl _ _ | refine Below.alloc ?_ ?_ _ | refine Below.setCell ?_ ?_ _ | refine Below.drew ?_ | refine below_drewN ?_ _ | refine Below.trans ?_ (Below.mono (by assumption) ?_) | refine Below.trans ?_ (Below.mono (BW.below _) ?_) | (simp; done) | (simp; omega) | omega)))
    have n6 : w.heap.size ≤ w6.heap.size := B6.size
    clear hb6 B5
    go_wp2_with fail
    refine (hK _).mono ?_
    rintro e w' ⟨rfl, rfl⟩
    go_wp2_with fail
    refine (kind_of HY9 (k := 0) rfl _).mono ?_
    rintro e w' ⟨rfl, rfl⟩
    go_wp2_with fail
    refine (same_nz HX9 HD.out rfl _).mono ?_
    rintro e w' ⟨rfl, rfl⟩
    go_wp2_with fail
    go_ret
    exact ⟨rfl, by (focus (repeat' (first | assumption | exact Below.refl _ _ | refine Below.alloc ?_ ?_ _ | refine Below.setCell ?_ ?_ _ | refine Below.drew ?_ | refine below_drewN ?_ _ | refine Below.trans ?_ (Below.mono (by assumption) ?_) | refine Below.trans ?_ (Below.mono (BW.below _) ?_) | (simp; done) | (simp; omega) | omega)))⟩
set_option maxRecDepth 100000 in
set_option maxHeartbeats 4000000 in
theorem JulianOrder_yif (t u : Int) (d s r v f g y q m n : Nat) (k : Int) (z1 z2 z3 z4 : Bool) (htu : t ≤ u) (hOt : ∀ w : World, Calls Try.prog 34 #[.int .i64 t] w fun e w' => e = .returned (.float .f64 s) ∧ Below w.heap.size w w') (hOu : ∀ w : World, Calls Try.prog 34 #[.int .i64 u] w fun e w' => e = .returned (.float .f64 r) ∧ Below w.heap.size w w') (o1 : (FloatKind.f64.format.order s r == some Ordering.gt) = false) (h0 : -1096193779200 ≤ t) (h1 : t ≤ 971890963199) (hOv : ∀ w : World, Calls Try.prog 34 #[.int .i64 (t + 86400)] w fun e w' => e = .returned (.float .f64 v) ∧ Below w.heap.size w w') (hs1 : ∀ w : World, (binOp .sub 28 (.float .f64 v) (.float .f64 s)).run Try.prog w = .ok (.float .f64 f) w) (hs2 : ∀ w : World, (binOp .sub 28 (.float .f64 f) (.float .f64 4607182418800017408)).run Try.prog w = .ok (.float .f64 g) w) (o2 : (FloatKind.f64.format.order g 4517329193108106637 == some Ordering.gt) = false) (o3 : (FloatKind.f64.format.order g 13740701229962882445 == some Ordering.lt) = false) (hP : ∀ w : World, Calls Try.prog 31 #[.float .f64 d] w fun e w' => e = .returned (.tuple #[.float .f64 y, .float .f64 q]) ∧ Below w.heap.size w w') (hK : ∀ w : World, Calls Try.prog 45 #[.float .f64 d] w fun e w' => e = .returned (.int .i64 k) ∧ w = w') (k0 : (k == 0) = false) (k1 : (k == 1) = false) (k6 : (k == 6) = false) (q1 : (FloatKind.f64.format.order q 0 == some Ordering.gt) = !z1) (q2 : (FloatKind.f64.format.order q 0 == some Ordering.eq) = z1) (q3 : (FloatKind.f64.format.order q 4607182418800017408 == some Ordering.lt) = !z2) (q4 : (FloatKind.f64.format.order q 4607182418800017408 == some Ordering.eq) = z2) (q5 : (FloatKind.f64.format.order y d == some Ordering.lt) = !z3) (q6 : (FloatKind.f64.format.order y d == some Ordering.eq) = z3) (hs3 : ∀ w : World, (binOp .add 28 (.float .f64 y) (.float .f64 q)).run Try.prog w = .ok (.float .f64 m) w) (hs4 : ∀ w : World, (binOp .sub 28 (.float .f64 d) (.float .f64 4607182418800017408)).run Try.prog w = .ok (.float .f64 n) w) (q7 : (FloatKind.f64.format.order m n == some Ordering.gt) = !z4) (q8 : (FloatKind.f64.format.order m n == some Ordering.eq) = z4) (w : World) : Calls Try.prog 9 #[.int .i64 t, .int .i64 u, .float .f64 d] w fun e w' => e = .returned (.bool true) ∧ Below w.heap.size w w' := by
  go_enter Try.func9, Try.ntmps9
  go_wp2_with fail
  refine (jul_lives _).mono ?_
  rintro e w1 ⟨rfl, hb1⟩
  have B1 : Below w.heap.size w w1 := by (focus (repeat' (first | assumption | exact Below.refl _ _ | refine Below.alloc ?_ ?_ _ | refine Below.setCell ?_ ?_ _ | refine Below.drew ?_ | refine below_drewN ?_ _ | refine Below.trans ?_ (Below.mono (by assumption) ?_) | refine Below.trans ?_ (Below.mono (BW.below _) ?_) | (simp; done) | (simp; omega) | omega)))
  have n1 : w.heap.size ≤ w1.heap.size := B1.size
  clear hb1
  go_wp2_with fail
  refine (hOt _).mono ?_
  rintro e w2 ⟨rfl, hb2⟩
  have B2 : Below w.heap.size w w2 := by (focus (repeat' (first | assumption | exact Below.refl _ _ | refine Below.alloc ?_ ?_ _ | refine Below.setCell ?_ ?_ _ | refine Below.drew ?_ | refine below_drewN ?_ _ | refine Below.trans ?_ (Below.mono (by assumption) ?_) | refine Below.trans ?_ (Below.mono (BW.below _) ?_) | (simp; done) | (simp; omega) | omega)))
  have n2 : w.heap.size ≤ w2.heap.size := B2.size
  clear hb2 B1
  go_wp2_with fail
  refine (hOu _).mono ?_
  rintro e w3 ⟨rfl, hb3⟩
  have B3 : Below w.heap.size w w3 := by (focus (repeat' (first | assumption | exact Below.refl _ _ | refine Below.alloc ?_ ?_ _ | refine Below.setCell ?_ ?_ _ | refine Below.drew ?_ | refine below_drewN ?_ _ | refine Below.trans ?_ (Below.mono (by assumption) ?_) | refine Below.trans ?_ (Below.mono (BW.below _) ?_) | (simp; done) | (simp; omega) | omega)))
  have n3 : w.heap.size ≤ w3.heap.size := B3.size
  clear hb3 B2
  go_wp2_with fail
  refine (hOv _).mono ?_
  rintro e w4 ⟨rfl, hb4⟩
  have B4 : Below w.heap.size w w4 := by (focus (repeat' (first | assumption | exact Below.refl _ _ | refine Below.alloc ?_ ?_ _ | refine Below.setCell ?_ ?_ _ | refine Below.drew ?_ | refine below_drewN ?_ _ | refine Below.trans ?_ (Below.mono (by assumption) ?_) | refine Below.trans ?_ (Below.mono (BW.below _) ?_) | (simp; done) | (simp; omega) | omega)))
  have n4 : w.heap.size ≤ w4.heap.size := B4.size
  clear hb4 B3
  go_wp2_with fail
  refine (hOt _).mono ?_
  rintro e w5 ⟨rfl, hb5⟩
  have B5 : Below w.heap.size w w5 := by (focus (repeat' (first | assumption | exact Below.refl _ _ | refine Below.alloc ?_ ?_ _ | refine Below.setCell ?_ ?_ _ | refine Below.drew ?_ | refine below_drewN ?_ _ | refine Below.trans ?_ (Below.mono (by assumption) ?_) | refine Below.trans ?_ (Below.mono (BW.below _) ?_) | (simp; done) | (simp; omega) | omega)))
  have n5 : w.heap.size ≤ w5.heap.size := B5.size
  clear hb5 B4
  go_wp2_with fail
  refine (hP _).mono ?_
  rintro e w6 ⟨rfl, hb6⟩
  have B6 : Below w.heap.size w w6 := by (focus (repeat' (first | assumption | exact Below.refl _ _ | refine Below.alloc ?_ ?_ _ | refine Below.setCell ?_ ?_ _ | refine Below.drew ?_ | refine below_drewN ?_ _ | refine Below.trans ?_ (Below.mono (by assumption) ?_) | refine Below.trans ?_ (Below.mono (BW.below _) ?_) | (simp; done) | (simp; omega) | omega)))
  have n6 : w.heap.size ≤ w6.heap.size := B6.size
  clear hb6 B5
  go_wp2_with fail
  refine (hK _).mono ?_
  rintro e w' ⟨rfl, rfl⟩
  go_wp2_with fail
  go_ret
  exact ⟨rfl, by (focus (repeat' (first | assumption | exact Below.refl _ _ | refine Below.alloc ?_ ?_ _ | refine Below.setCell ?_ ?_ _ | refine Below.drew ?_ | refine below_drewN ?_ _ | refine Below.trans ?_ (Below.mono (by assumption) ?_) | refine Below.trans ?_ (Below.mono (BW.below _) ?_) | (simp; done) | (simp; omega) | omega)))⟩
set_option maxRecDepth 100000 in
set_option maxHeartbeats 4000000 in
theorem JulianOrder_yls (t u : Int) (d s r : Nat) (k : Int) (htu : t ≤ u) (hOt : ∀ w : World, Calls Try.prog 34 #[.int .i64 t] w fun e w' => e = .returned (.float .f64 s) ∧ Below w.heap.size w w') (hOu : ∀ w : World, Calls Try.prog 34 #[.int .i64 u] w fun e w' => e = .returned (.float .f64 r) ∧ Below w.heap.size w w') (o1 : (FloatKind.f64.format.order s r == some Ordering.gt) = false) (h0 : decide (-1096193779200 ≤ t) = false) (hP : ∀ w : World, Calls Try.prog 31 #[.float .f64 d] w (GF2 w (nz d) none)) (hd : d < 18446744073709551616) (hK : ∀ w : World, Calls Try.prog 45 #[.float .f64 d] w fun e w' => e = .returned (.int .i64 k) ∧ w = w') (hk : k = 0 ∨ k = 1 ∨ k = 6) (w : World) : Calls Try.prog 9 #[.int .i64 t, .int .i64 u, .float .f64 d] w fun e w' => e = .returned (.bool true) ∧ Below w.heap.size w w' := by
  have HD := Lib.hid hd
  clear hd
  rcases hk with rfl | rfl | rfl
  all_goals
    go_enter Try.func9, Try.ntmps9
    go_wp2_with fail
    refine (jul_lives _).mono ?_
    rintro e w1 ⟨rfl, hb1⟩
    have B1 : Below w.heap.size w w1 := by (focus (repeat' (first | assumption | exact Below.refl _ _ | refine Below.alloc ?_ ?_ _ | refine Below.setCell ?_ ?_ _ | refine Below.drew ?_ | refine below_drewN ?_ _ | refine Below.trans ?_ (Below.mono (by assumption) ?_) | refine Below.trans ?_ (Below.mono (BW.below _) ?_) | (simp; done) | (simp; omega) | omega)))
    have n1 : w.heap.size ≤ w1.heap.size := B1.size
    clear hb1
    go_wp2_with fail
    refine (hOt _).mono ?_
    rintro e w2 ⟨rfl, hb2⟩
    have B2 : Below w.heap.size w w2 := by (focus (repeat' (first | assumption | exact Below.refl _ _ | refine Below.alloc ?_ ?_ _ | refine Below.setCell ?_ ?_ _ | refine Below.drew ?_ | refine below_drewN ?_ _ | refine Below.trans ?_ (Below.mono (by assumption) ?_) | refine Below.trans ?_ (Below.mono (BW.below _) ?_) | (simp; done) | (simp; omega) | omega)))
    have n2 : w.heap.size ≤ w2.heap.size := B2.size
    clear hb2 B1
    go_wp2_with fail
    refine (hOu _).mono ?_
    rintro e w3 ⟨rfl, hb3⟩
    have B3 : Below w.heap.size w w3 := by (focus (repeat' (first | assumption | exact Below.refl _ _ | refine Below.alloc ?_ ?_ _ | refine Below.setCell ?_ ?_ _ | refine Below.drew ?_ | refine below_drewN ?_ _ | refine Below.trans ?_ (Below.mono (by assumption) ?_) | refine Below.trans ?_ (Below.mono (BW.below _) ?_) | (simp; done) | (simp; omega) | omega)))
    have n3 : w.heap.size ≤ w3.heap.size := B3.size
    clear hb3 B2
    go_wp2_with fail
    refine (hP _).mono ?_
    rintro e w4 ⟨x9, y9, rfl, HX9, HY9, hb4⟩
    have B4 : Below w.heap.size w w4 := by (focus (repeat' (first | assumption | exact Below.refl _ _ | refine Below.alloc ?_ ?_ _ | refine Below.setCell ?_ ?_ _ | refine Below.drew ?_ | refine below_drewN ?_ _ | refine Below.trans ?_ (Below.mono (by assumption) ?_) | refine Below.trans ?_ (Below.mono (BW.below _) ?_) | (simp; done) | (simp; omega) | omega)))
    have n4 : w.heap.size ≤ w4.heap.size := B4.size
    clear hb4 B3
    go_wp2_with fail
    refine (hK _).mono ?_
    rintro e w' ⟨rfl, rfl⟩
    go_wp2_with fail
    refine (kind_of HY9 (k := 0) rfl _).mono ?_
    rintro e w' ⟨rfl, rfl⟩
    go_wp2_with fail
    refine (same_nz HX9 HD.out rfl _).mono ?_
    rintro e w' ⟨rfl, rfl⟩
    go_wp2_with fail
    go_ret
    exact ⟨rfl, by (focus (repeat' (first | assumption | exact Below.refl _ _ | refine Below.alloc ?_ ?_ _ | refine Below.setCell ?_ ?_ _ | refine Below.drew ?_ | refine below_drewN ?_ _ | refine Below.trans ?_ (Below.mono (by assumption) ?_) | refine Below.trans ?_ (Below.mono (BW.below _) ?_) | (simp; done) | (simp; omega) | omega)))⟩
set_option maxRecDepth 100000 in
set_option maxHeartbeats 4000000 in
theorem JulianOrder_ylf (t u : Int) (d s r y q m n : Nat) (k : Int) (z1 z2 z3 z4 : Bool) (htu : t ≤ u) (hOt : ∀ w : World, Calls Try.prog 34 #[.int .i64 t] w fun e w' => e = .returned (.float .f64 s) ∧ Below w.heap.size w w') (hOu : ∀ w : World, Calls Try.prog 34 #[.int .i64 u] w fun e w' => e = .returned (.float .f64 r) ∧ Below w.heap.size w w') (o1 : (FloatKind.f64.format.order s r == some Ordering.gt) = false) (h0 : decide (-1096193779200 ≤ t) = false) (hP : ∀ w : World, Calls Try.prog 31 #[.float .f64 d] w fun e w' => e = .returned (.tuple #[.float .f64 y, .float .f64 q]) ∧ Below w.heap.size w w') (hK : ∀ w : World, Calls Try.prog 45 #[.float .f64 d] w fun e w' => e = .returned (.int .i64 k) ∧ w = w') (k0 : (k == 0) = false) (k1 : (k == 1) = false) (k6 : (k == 6) = false) (q1 : (FloatKind.f64.format.order q 0 == some Ordering.gt) = !z1) (q2 : (FloatKind.f64.format.order q 0 == some Ordering.eq) = z1) (q3 : (FloatKind.f64.format.order q 4607182418800017408 == some Ordering.lt) = !z2) (q4 : (FloatKind.f64.format.order q 4607182418800017408 == some Ordering.eq) = z2) (q5 : (FloatKind.f64.format.order y d == some Ordering.lt) = !z3) (q6 : (FloatKind.f64.format.order y d == some Ordering.eq) = z3) (hs3 : ∀ w : World, (binOp .add 28 (.float .f64 y) (.float .f64 q)).run Try.prog w = .ok (.float .f64 m) w) (hs4 : ∀ w : World, (binOp .sub 28 (.float .f64 d) (.float .f64 4607182418800017408)).run Try.prog w = .ok (.float .f64 n) w) (q7 : (FloatKind.f64.format.order m n == some Ordering.gt) = !z4) (q8 : (FloatKind.f64.format.order m n == some Ordering.eq) = z4) (w : World) : Calls Try.prog 9 #[.int .i64 t, .int .i64 u, .float .f64 d] w fun e w' => e = .returned (.bool true) ∧ Below w.heap.size w w' := by
  go_enter Try.func9, Try.ntmps9
  go_wp2_with fail
  refine (jul_lives _).mono ?_
  rintro e w1 ⟨rfl, hb1⟩
  have B1 : Below w.heap.size w w1 := by (focus (repeat' (first | assumption | exact Below.refl _ _ | refine Below.alloc ?_ ?_ _ | refine Below.setCell ?_ ?_ _ | refine Below.drew ?_ | refine below_drewN ?_ _ | refine Below.trans ?_ (Below.mono (by assumption) ?_) | refine Below.trans ?_ (Below.mono (BW.below _) ?_) | (simp; done) | (simp; omega) | omega)))
  have n1 : w.heap.size ≤ w1.heap.size := B1.size
  clear hb1
  go_wp2_with fail
  refine (hOt _).mono ?_
  rintro e w2 ⟨rfl, hb2⟩
  have B2 : Below w.heap.size w w2 := by (focus (repeat' (first | assumption | exact Below.refl _ _ | refine Below.alloc ?_ ?_ _ | refine Below.setCell ?_ ?_ _ | refine Below.drew ?_ | refine below_drewN ?_ _ | refine Below.trans ?_ (Below.mono (by assumption) ?_) | refine Below.trans ?_ (Below.mono (BW.below _) ?_) | (simp; done) | (simp; omega) | omega)))
  have n2 : w.heap.size ≤ w2.heap.size := B2.size
  clear hb2 B1
  go_wp2_with fail
  refine (hOu _).mono ?_
  rintro e w3 ⟨rfl, hb3⟩
  have B3 : Below w.heap.size w w3 := by (focus (repeat' (first | assumption | exact Below.refl _ _ | refine Below.alloc ?_ ?_ _ | refine Below.setCell ?_ ?_ _ | refine Below.drew ?_ | refine below_drewN ?_ _ | refine Below.trans ?_ (Below.mono (by assumption) ?_) | refine Below.trans ?_ (Below.mono (BW.below _) ?_) | (simp; done) | (simp; omega) | omega)))
  have n3 : w.heap.size ≤ w3.heap.size := B3.size
  clear hb3 B2
  go_wp2_with fail
  refine (hP _).mono ?_
  rintro e w4 ⟨rfl, hb4⟩
  have B4 : Below w.heap.size w w4 := by (focus (repeat' (first | assumption | exact Below.refl _ _ | refine Below.alloc ?_ ?_ _ | refine Below.setCell ?_ ?_ _ | refine Below.drew ?_ | refine below_drewN ?_ _ | refine Below.trans ?_ (Below.mono (by assumption) ?_) | refine Below.trans ?_ (Below.mono (BW.below _) ?_) | (simp; done) | (simp; omega) | omega)))
  have n4 : w.heap.size ≤ w4.heap.size := B4.size
  clear hb4 B3
  go_wp2_with fail
  refine (hK _).mono ?_
  rintro e w' ⟨rfl, rfl⟩
  go_wp2_with fail
  go_ret
  exact ⟨rfl, by (focus (repeat' (first | assumption | exact Below.refl _ _ | refine Below.alloc ?_ ?_ _ | refine Below.setCell ?_ ?_ _ | refine Below.drew ?_ | refine below_drewN ?_ _ | refine Below.trans ?_ (Below.mono (by assumption) ?_) | refine Below.trans ?_ (Below.mono (BW.below _) ?_) | (simp; done) | (simp; omega) | omega)))⟩
set_option maxRecDepth 100000 in
set_option maxHeartbeats 4000000 in
theorem JulianOrder_yms (t u : Int) (d s r : Nat) (k : Int) (htu : t ≤ u) (hOt : ∀ w : World, Calls Try.prog 34 #[.int .i64 t] w fun e w' => e = .returned (.float .f64 s) ∧ Below w.heap.size w w') (hOu : ∀ w : World, Calls Try.prog 34 #[.int .i64 u] w fun e w' => e = .returned (.float .f64 r) ∧ Below w.heap.size w w') (o1 : (FloatKind.f64.format.order s r == some Ordering.gt) = false) (h0 : -1096193779200 ≤ t) (h1 : decide (t ≤ 971890963199) = false) (hP : ∀ w : World, Calls Try.prog 31 #[.float .f64 d] w (GF2 w (nz d) none)) (hd : d < 18446744073709551616) (hK : ∀ w : World, Calls Try.prog 45 #[.float .f64 d] w fun e w' => e = .returned (.int .i64 k) ∧ w = w') (hk : k = 0 ∨ k = 1 ∨ k = 6) (w : World) : Calls Try.prog 9 #[.int .i64 t, .int .i64 u, .float .f64 d] w fun e w' => e = .returned (.bool true) ∧ Below w.heap.size w w' := by
  have HD := Lib.hid hd
  clear hd
  rcases hk with rfl | rfl | rfl
  all_goals
    go_enter Try.func9, Try.ntmps9
    go_wp2_with fail
    refine (jul_lives _).mono ?_
    rintro e w1 ⟨rfl, hb1⟩
    have B1 : Below w.heap.size w w1 := by (focus (repeat' (first | assumption | exact Below.refl _ _ | refine Below.alloc ?_ ?_ _ | refine Below.setCell ?_ ?_ _ | refine Below.drew ?_ | refine below_drewN ?_ _ | refine Below.trans ?_ (Below.mono (by assumption) ?_) | refine Below.trans ?_ (Below.mono (BW.below _) ?_) | (simp; done) | (simp; omega) | omega)))
    have n1 : w.heap.size ≤ w1.heap.size := B1.size
    clear hb1
    go_wp2_with fail
    refine (hOt _).mono ?_
    rintro e w2 ⟨rfl, hb2⟩
    have B2 : Below w.heap.size w w2 := by (focus (repeat' (first | assumption | exact Below.refl _ _ | refine Below.alloc ?_ ?_ _ | refine Below.setCell ?_ ?_ _ | refine Below.drew ?_ | refine below_drewN ?_ _ | refine Below.trans ?_ (Below.mono (by assumption) ?_) | refine Below.trans ?_ (Below.mono (BW.below _) ?_) | (simp; done) | (simp; omega) | omega)))
    have n2 : w.heap.size ≤ w2.heap.size := B2.size
    clear hb2 B1
    go_wp2_with fail
    refine (hOu _).mono ?_
    rintro e w3 ⟨rfl, hb3⟩
    have B3 : Below w.heap.size w w3 := by (focus (repeat' (first | assumption | exact Below.refl _ _ | refine Below.alloc ?_ ?_ _ | refine Below.setCell ?_ ?_ _ | refine Below.drew ?_ | refine below_drewN ?_ _ | refine Below.trans ?_ (Below.mono (by assumption) ?_) | refine Below.trans ?_ (Below.mono (BW.below _) ?_) | (simp; done) | (simp; omega) | omega)))
    have n3 : w.heap.size ≤ w3.heap.size := B3.size
    clear hb3 B2
    go_wp2_with fail
    refine (hP _).mono ?_
    rintro e w4 ⟨x9, y9, rfl, HX9, HY9, hb4⟩
    have B4 : Below w.heap.size w w4 := by (focus (repeat' (first | assumption | exact Below.refl _ _ | refine Below.alloc ?_ ?_ _ | refine Below.setCell ?_ ?_ _ | refine Below.drew ?_ | refine below_drewN ?_ _ | refine Below.trans ?_ (Below.mono (by assumption) ?_) | refine Below.trans ?_ (Below.mono (BW.below _) ?_) | (simp; done) | (simp; omega) | omega)))
    have n4 : w.heap.size ≤ w4.heap.size := B4.size
    clear hb4 B3
    go_wp2_with fail
    refine (hK _).mono ?_
    rintro e w' ⟨rfl, rfl⟩
    go_wp2_with fail
    refine (kind_of HY9 (k := 0) rfl _).mono ?_
    rintro e w' ⟨rfl, rfl⟩
    go_wp2_with fail
    refine (same_nz HX9 HD.out rfl _).mono ?_
    rintro e w' ⟨rfl, rfl⟩
    go_wp2_with fail
    go_ret
    exact ⟨rfl, by (focus (repeat' (first | assumption | exact Below.refl _ _ | refine Below.alloc ?_ ?_ _ | refine Below.setCell ?_ ?_ _ | refine Below.drew ?_ | refine below_drewN ?_ _ | refine Below.trans ?_ (Below.mono (by assumption) ?_) | refine Below.trans ?_ (Below.mono (BW.below _) ?_) | (simp; done) | (simp; omega) | omega)))⟩
set_option maxRecDepth 100000 in
set_option maxHeartbeats 4000000 in
theorem JulianOrder_ymf (t u : Int) (d s r y q m n : Nat) (k : Int) (z1 z2 z3 z4 : Bool) (htu : t ≤ u) (hOt : ∀ w : World, Calls Try.prog 34 #[.int .i64 t] w fun e w' => e = .returned (.float .f64 s) ∧ Below w.heap.size w w') (hOu : ∀ w : World, Calls Try.prog 34 #[.int .i64 u] w fun e w' => e = .returned (.float .f64 r) ∧ Below w.heap.size w w') (o1 : (FloatKind.f64.format.order s r == some Ordering.gt) = false) (h0 : -1096193779200 ≤ t) (h1 : decide (t ≤ 971890963199) = false) (hP : ∀ w : World, Calls Try.prog 31 #[.float .f64 d] w fun e w' => e = .returned (.tuple #[.float .f64 y, .float .f64 q]) ∧ Below w.heap.size w w') (hK : ∀ w : World, Calls Try.prog 45 #[.float .f64 d] w fun e w' => e = .returned (.int .i64 k) ∧ w = w') (k0 : (k == 0) = false) (k1 : (k == 1) = false) (k6 : (k == 6) = false) (q1 : (FloatKind.f64.format.order q 0 == some Ordering.gt) = !z1) (q2 : (FloatKind.f64.format.order q 0 == some Ordering.eq) = z1) (q3 : (FloatKind.f64.format.order q 4607182418800017408 == some Ordering.lt) = !z2) (q4 : (FloatKind.f64.format.order q 4607182418800017408 == some Ordering.eq) = z2) (q5 : (FloatKind.f64.format.order y d == some Ordering.lt) = !z3) (q6 : (FloatKind.f64.format.order y d == some Ordering.eq) = z3) (hs3 : ∀ w : World, (binOp .add 28 (.float .f64 y) (.float .f64 q)).run Try.prog w = .ok (.float .f64 m) w) (hs4 : ∀ w : World, (binOp .sub 28 (.float .f64 d) (.float .f64 4607182418800017408)).run Try.prog w = .ok (.float .f64 n) w) (q7 : (FloatKind.f64.format.order m n == some Ordering.gt) = !z4) (q8 : (FloatKind.f64.format.order m n == some Ordering.eq) = z4) (w : World) : Calls Try.prog 9 #[.int .i64 t, .int .i64 u, .float .f64 d] w fun e w' => e = .returned (.bool true) ∧ Below w.heap.size w w' := by
  go_enter Try.func9, Try.ntmps9
  go_wp2_with fail
  refine (jul_lives _).mono ?_
  rintro e w1 ⟨rfl, hb1⟩
  have B1 : Below w.heap.size w w1 := by (focus (repeat' (first | assumption | exact Below.refl _ _ | refine Below.alloc ?_ ?_ _ | refine Below.setCell ?_ ?_ _ | refine Below.drew ?_ | refine below_drewN ?_ _ | refine Below.trans ?_ (Below.mono (by assumption) ?_) | refine Below.trans ?_ (Below.mono (BW.below _) ?_) | (simp; done) | (simp; omega) | omega)))
  have n1 : w.heap.size ≤ w1.heap.size := B1.size
  clear hb1
  go_wp2_with fail
  refine (hOt _).mono ?_
  rintro e w2 ⟨rfl, hb2⟩
  have B2 : Below w.heap.size w w2 := by (focus (repeat' (first | assumption | exact Below.refl _ _ | refine Below.alloc ?_ ?_ _ | refine Below.setCell ?_ ?_ _ | refine Below.drew ?_ | refine below_drewN ?_ _ | refine Below.trans ?_ (Below.mono (by assumption) ?_) | refine Below.trans ?_ (Below.mono (BW.below _) ?_) | (simp; done) | (simp; omega) | omega)))
  have n2 : w.heap.size ≤ w2.heap.size := B2.size
  clear hb2 B1
  go_wp2_with fail
  refine (hOu _).mono ?_
  rintro e w3 ⟨rfl, hb3⟩
  have B3 : Below w.heap.size w w3 := by (focus (repeat' (first | assumption | exact Below.refl _ _ | refine Below.alloc ?_ ?_ _ | refine Below.setCell ?_ ?_ _ | refine Below.drew ?_ | refine below_drewN ?_ _ | refine Below.trans ?_ (Below.mono (by assumption) ?_) | refine Below.trans ?_ (Below.mono (BW.below _) ?_) | (simp; done) | (simp; omega) | omega)))
  have n3 : w.heap.size ≤ w3.heap.size := B3.size
  clear hb3 B2
  go_wp2_with fail
  refine (hP _).mono ?_
  rintro e w4 ⟨rfl, hb4⟩
  have B4 : Below w.heap.size w w4 := by (focus (repeat' (first | assumption | exact Below.refl _ _ | refine Below.alloc ?_ ?_ _ | refine Below.setCell ?_ ?_ _ | refine Below.drew ?_ | refine below_drewN ?_ _ | refine Below.trans ?_ (Below.mono (by assumption) ?_) | refine Below.trans ?_ (Below.mono (BW.below _) ?_) | (simp; done) | (simp; omega) | omega)))
  have n4 : w.heap.size ≤ w4.heap.size := B4.size
  clear hb4 B3
  go_wp2_with fail
  refine (hK _).mono ?_
  rintro e w' ⟨rfl, rfl⟩
  go_wp2_with fail
  go_ret
  exact ⟨rfl, by (focus (repeat' (first | assumption | exact Below.refl _ _ | refine Below.alloc ?_ ?_ _ | refine Below.setCell ?_ ?_ _ | refine Below.drew ?_ | refine below_drewN ?_ _ | refine Below.trans ?_ (Below.mono (by assumption) ?_) | refine Below.trans ?_ (Below.mono (BW.below _) ?_) | (simp; done) | (simp; omega) | omega)))⟩
set_option maxRecDepth 100000 in
set_option maxHeartbeats 4000000 in
theorem JulianOrder_nis (t u : Int) (d s v f g : Nat) (k : Int) (htu : decide (t ≤ u) = false) (h0 : -1096193779200 ≤ t) (h1 : t ≤ 971890963199) (hOv : ∀ w : World, Calls Try.prog 34 #[.int .i64 (t + 86400)] w fun e w' => e = .returned (.float .f64 v) ∧ Below w.heap.size w w') (hOt : ∀ w : World, Calls Try.prog 34 #[.int .i64 t] w fun e w' => e = .returned (.float .f64 s) ∧ Below w.heap.size w w') (hs1 : ∀ w : World, (binOp .sub 28 (.float .f64 v) (.float .f64 s)).run Try.prog w = .ok (.float .f64 f) w) (hs2 : ∀ w : World, (binOp .sub 28 (.float .f64 f) (.float .f64 4607182418800017408)).run Try.prog w = .ok (.float .f64 g) w) (o2 : (FloatKind.f64.format.order g 4517329193108106637 == some Ordering.gt) = false) (o3 : (FloatKind.f64.format.order g 13740701229962882445 == some Ordering.lt) = false) (hP : ∀ w : World, Calls Try.prog 31 #[.float .f64 d] w (GF2 w (nz d) none)) (hd : d < 18446744073709551616) (hK : ∀ w : World, Calls Try.prog 45 #[.float .f64 d] w fun e w' => e = .returned (.int .i64 k) ∧ w = w') (hk : k = 0 ∨ k = 1 ∨ k = 6) (w : World) : Calls Try.prog 9 #[.int .i64 t, .int .i64 u, .float .f64 d] w fun e w' => e = .returned (.bool true) ∧ Below w.heap.size w w' := by
  have HD := Lib.hid hd
  clear hd
  rcases hk with rfl | rfl | rfl
  all_goals
    go_enter Try.func9, Try.ntmps9
    go_wp2_with fail
    refine (jul_lives _).mono ?_
    rintro e w1 ⟨rfl, hb1⟩
    have B1 : Below w.heap.size w w1 := by (focus (repeat' (first | assumption | exact Below.refl _ _ | refine Below.alloc ?_ ?_ _ | refine Below.setCell ?_ ?_ _ | refine Below.drew ?_ | refine below_drewN ?_ _ | refine Below.trans ?_ (Below.mono (by assumption) ?_) | refine Below.trans ?_ (Below.mono (BW.below _) ?_) | (simp; done) | (simp; omega) | omega)))
    have n1 : w.heap.size ≤ w1.heap.size := B1.size
    clear hb1
    go_wp2_with fail
    refine (hOv _).mono ?_
    rintro e w2 ⟨rfl, hb2⟩
    have B2 : Below w.heap.size w w2 := by (focus (repeat' (first | assumption | exact Below.refl _ _ | refine Below.alloc ?_ ?_ _ | refine Below.setCell ?_ ?_ _ | refine Below.drew ?_ | refine below_drewN ?_ _ | refine Below.trans ?_ (Below.mono (by assumption) ?_) | refine Below.trans ?_ (Below.mono (BW.below _) ?_) | (simp; done) | (simp; omega) | omega)))
    have n2 : w.heap.size ≤ w2.heap.size := B2.size
    clear hb2 B1
    go_wp2_with fail
    refine (hOt _).mono ?_
    rintro e w3 ⟨rfl, hb3⟩
    have B3 : Below w.heap.size w w3 := by (focus (repeat' (first | assumption | exact Below.refl _ _ | refine Below.alloc ?_ ?_ _ | refine Below.setCell ?_ ?_ _ | refine Below.drew ?_ | refine below_drewN ?_ _ | refine Below.trans ?_ (Below.mono (by assumption) ?_) | refine Below.trans ?_ (Below.mono (BW.below _) ?_) | (simp; done) | (simp; omega) | omega)))
    have n3 : w.heap.size ≤ w3.heap.size := B3.size
    clear hb3 B2
    go_wp2_with fail
    refine (hP _).mono ?_
    rintro e w4 ⟨x9, y9, rfl, HX9, HY9, hb4⟩
    have B4 : Below w.heap.size w w4 := by (focus (repeat' (first | assumption | exact Below.refl _ _ | refine Below.alloc ?_ ?_ _ | refine Below.setCell ?_ ?_ _ | refine Below.drew ?_ | refine below_drewN ?_ _ | refine Below.trans ?_ (Below.mono (by assumption) ?_) | refine Below.trans ?_ (Below.mono (BW.below _) ?_) | (simp; done) | (simp; omega) | omega)))
    have n4 : w.heap.size ≤ w4.heap.size := B4.size
    clear hb4 B3
    go_wp2_with fail
    refine (hK _).mono ?_
    rintro e w' ⟨rfl, rfl⟩
    go_wp2_with fail
    refine (kind_of HY9 (k := 0) rfl _).mono ?_
    rintro e w' ⟨rfl, rfl⟩
    go_wp2_with fail
    refine (same_nz HX9 HD.out rfl _).mono ?_
    rintro e w' ⟨rfl, rfl⟩
    go_wp2_with fail
    go_ret
    exact ⟨rfl, by (focus (repeat' (first | assumption | exact Below.refl _ _ | refine Below.alloc ?_ ?_ _ | refine Below.setCell ?_ ?_ _ | refine Below.drew ?_ | refine below_drewN ?_ _ | refine Below.trans ?_ (Below.mono (by assumption) ?_) | refine Below.trans ?_ (Below.mono (BW.below _) ?_) | (simp; done) | (simp; omega) | omega)))⟩
set_option maxRecDepth 100000 in
set_option maxHeartbeats 4000000 in
theorem JulianOrder_nif (t u : Int) (d s v f g y q m n : Nat) (k : Int) (z1 z2 z3 z4 : Bool) (htu : decide (t ≤ u) = false) (h0 : -1096193779200 ≤ t) (h1 : t ≤ 971890963199) (hOv : ∀ w : World, Calls Try.prog 34 #[.int .i64 (t + 86400)] w fun e w' => e = .returned (.float .f64 v) ∧ Below w.heap.size w w') (hOt : ∀ w : World, Calls Try.prog 34 #[.int .i64 t] w fun e w' => e = .returned (.float .f64 s) ∧ Below w.heap.size w w') (hs1 : ∀ w : World, (binOp .sub 28 (.float .f64 v) (.float .f64 s)).run Try.prog w = .ok (.float .f64 f) w) (hs2 : ∀ w : World, (binOp .sub 28 (.float .f64 f) (.float .f64 4607182418800017408)).run Try.prog w = .ok (.float .f64 g) w) (o2 : (FloatKind.f64.format.order g 4517329193108106637 == some Ordering.gt) = false) (o3 : (FloatKind.f64.format.order g 13740701229962882445 == some Ordering.lt) = false) (hP : ∀ w : World, Calls Try.prog 31 #[.float .f64 d] w fun e w' => e = .returned (.tuple #[.float .f64 y, .float .f64 q]) ∧ Below w.heap.size w w') (hK : ∀ w : World, Calls Try.prog 45 #[.float .f64 d] w fun e w' => e = .returned (.int .i64 k) ∧ w = w') (k0 : (k == 0) = false) (k1 : (k == 1) = false) (k6 : (k == 6) = false) (q1 : (FloatKind.f64.format.order q 0 == some Ordering.gt) = !z1) (q2 : (FloatKind.f64.format.order q 0 == some Ordering.eq) = z1) (q3 : (FloatKind.f64.format.order q 4607182418800017408 == some Ordering.lt) = !z2) (q4 : (FloatKind.f64.format.order q 4607182418800017408 == some Ordering.eq) = z2) (q5 : (FloatKind.f64.format.order y d == some Ordering.lt) = !z3) (q6 : (FloatKind.f64.format.order y d == some Ordering.eq) = z3) (hs3 : ∀ w : World, (binOp .add 28 (.float .f64 y) (.float .f64 q)).run Try.prog w = .ok (.float .f64 m) w) (hs4 : ∀ w : World, (binOp .sub 28 (.float .f64 d) (.float .f64 4607182418800017408)).run Try.prog w = .ok (.float .f64 n) w) (q7 : (FloatKind.f64.format.order m n == some Ordering.gt) = !z4) (q8 : (FloatKind.f64.format.order m n == some Ordering.eq) = z4) (w : World) : Calls Try.prog 9 #[.int .i64 t, .int .i64 u, .float .f64 d] w fun e w' => e = .returned (.bool true) ∧ Below w.heap.size w w' := by
  go_enter Try.func9, Try.ntmps9
  go_wp2_with fail
  refine (jul_lives _).mono ?_
  rintro e w1 ⟨rfl, hb1⟩
  have B1 : Below w.heap.size w w1 := by (focus (repeat' (first | assumption | exact Below.refl _ _ | refine Below.alloc ?_ ?_ _ | refine Below.setCell ?_ ?_ _ | refine Below.drew ?_ | refine below_drewN ?_ _ | refine Below.trans ?_ (Below.mono (by assumption) ?_) | refine Below.trans ?_ (Below.mono (BW.below _) ?_) | (simp; done) | (simp; omega) | omega)))
  have n1 : w.heap.size ≤ w1.heap.size := B1.size
  clear hb1
  go_wp2_with fail
  refine (hOv _).mono ?_
  rintro e w2 ⟨rfl, hb2⟩
  have B2 : Below w.heap.size w w2 := by (focus (repeat' (first | assumption | exact Below.refl _ _ | refine Below.alloc ?_ ?_ _ | refine Below.setCell ?_ ?_ _ | refine Below.drew ?_ | refine below_drewN ?_ _ | refine Below.trans ?_ (Below.mono (by assumption) ?_) | refine Below.trans ?_ (Below.mono (BW.below _) ?_) | (simp; done) | (simp; omega) | omega)))
  have n2 : w.heap.size ≤ w2.heap.size := B2.size
  clear hb2 B1
  go_wp2_with fail
  refine (hOt _).mono ?_
  rintro e w3 ⟨rfl, hb3⟩
  have B3 : Below w.heap.size w w3 := by (focus (repeat' (first | assumption | exact Below.refl _ _ | refine Below.alloc ?_ ?_ _ | refine Below.setCell ?_ ?_ _ | refine Below.drew ?_ | refine below_drewN ?_ _ | refine Below.trans ?_ (Below.mono (by assumption) ?_) | refine Below.trans ?_ (Below.mono (BW.below _) ?_) | (simp; done) | (simp; omega) | omega)))
  have n3 : w.heap.size ≤ w3.heap.size := B3.size
  clear hb3 B2
  go_wp2_with fail
  refine (hP _).mono ?_
  rintro e w4 ⟨rfl, hb4⟩
  have B4 : Below w.heap.size w w4 := by (focus (repeat' (first | assumption | exact Below.refl _ _ | refine Below.alloc ?_ ?_ _ | refine Below.setCell ?_ ?_ _ | refine Below.drew ?_ | refine below_drewN ?_ _ | refine Below.trans ?_ (Below.mono (by assumption) ?_) | refine Below.trans ?_ (Below.mono (BW.below _) ?_) | (simp; done) | (simp; omega) | omega)))
  have n4 : w.heap.size ≤ w4.heap.size := B4.size
  clear hb4 B3
  go_wp2_with fail
  refine (hK _).mono ?_
  rintro e w' ⟨rfl, rfl⟩
  go_wp2_with fail
  go_ret
  exact ⟨rfl, by (focus (repeat' (first | assumption | exact Below.refl _ _ | refine Below.alloc ?_ ?_ _ | refine Below.setCell ?_ ?_ _ | refine Below.drew ?_ | refine below_drewN ?_ _ | refine Below.trans ?_ (Below.mono (by assumption) ?_) | refine Below.trans ?_ (Below.mono (BW.below _) ?_) | (simp; done) | (simp; omega) | omega)))⟩
set_option maxRecDepth 100000 in
set_option maxHeartbeats 4000000 in
theorem JulianOrder_nls (t u : Int) (d s : Nat) (k : Int) (htu : decide (t ≤ u) = false) (h0 : decide (-1096193779200 ≤ t) = false) (hP : ∀ w : World, Calls Try.prog 31 #[.float .f64 d] w (GF2 w (nz d) none)) (hd : d < 18446744073709551616) (hK : ∀ w : World, Calls Try.prog 45 #[.float .f64 d] w fun e w' => e = .returned (.int .i64 k) ∧ w = w') (hk : k = 0 ∨ k = 1 ∨ k = 6) (w : World) : Calls Try.prog 9 #[.int .i64 t, .int .i64 u, .float .f64 d] w fun e w' => e = .returned (.bool true) ∧ Below w.heap.size w w' := by
  have HD := Lib.hid hd
  clear hd
  rcases hk with rfl | rfl | rfl
  all_goals
    go_enter Try.func9, Try.ntmps9
    go_wp2_with fail
    refine (jul_lives _).mono ?_
    rintro e w1 ⟨rfl, hb1⟩
    have B1 : Below w.heap.size w w1 := by (focus (repeat' (first | assumption | exact Below.refl _ _ | refine Below.alloc ?_ ?_ _ | refine Below.setCell ?_ ?_ _ | refine Below.drew ?_ | refine below_drewN ?_ _ | refine Below.trans ?_ (Below.mono (by assumption) ?_) | refine Below.trans ?_ (Below.mono (BW.below _) ?_) | (simp; done) | (simp; omega) | omega)))
    have n1 : w.heap.size ≤ w1.heap.size := B1.size
    clear hb1
    go_wp2_with fail
    refine (hP _).mono ?_
    rintro e w2 ⟨x9, y9, rfl, HX9, HY9, hb2⟩
    have B2 : Below w.heap.size w w2 := by (focus (repeat' (first | assumption | exact Below.refl _ _ | refine Below.alloc ?_ ?_ _ | refine Below.setCell ?_ ?_ _ | refine Below.drew ?_ | refine below_drewN ?_ _ | refine Below.trans ?_ (Below.mono (by assumption) ?_) | refine Below.trans ?_ (Below.mono (BW.below _) ?_) | (simp; done) | (simp; omega) | omega)))
    have n2 : w.heap.size ≤ w2.heap.size := B2.size
    clear hb2 B1
    go_wp2_with fail
    refine (hK _).mono ?_
    rintro e w' ⟨rfl, rfl⟩
    go_wp2_with fail
    refine (kind_of HY9 (k := 0) rfl _).mono ?_
    rintro e w' ⟨rfl, rfl⟩
    go_wp2_with fail
    refine (same_nz HX9 HD.out rfl _).mono ?_
    rintro e w' ⟨rfl, rfl⟩
    go_wp2_with fail
    go_ret
    exact ⟨rfl, by (focus (repeat' (first | assumption | exact Below.refl _ _ | refine Below.alloc ?_ ?_ _ | refine Below.setCell ?_ ?_ _ | refine Below.drew ?_ | refine below_drewN ?_ _ | refine Below.trans ?_ (Below.mono (by assumption) ?_) | refine Below.trans ?_ (Below.mono (BW.below _) ?_) | (simp; done) | (simp; omega) | omega)))⟩
set_option maxRecDepth 100000 in
set_option maxHeartbeats 4000000 in
theorem JulianOrder_nlf (t u : Int) (d s y q m n : Nat) (k : Int) (z1 z2 z3 z4 : Bool) (htu : decide (t ≤ u) = false) (h0 : decide (-1096193779200 ≤ t) = false) (hP : ∀ w : World, Calls Try.prog 31 #[.float .f64 d] w fun e w' => e = .returned (.tuple #[.float .f64 y, .float .f64 q]) ∧ Below w.heap.size w w') (hK : ∀ w : World, Calls Try.prog 45 #[.float .f64 d] w fun e w' => e = .returned (.int .i64 k) ∧ w = w') (k0 : (k == 0) = false) (k1 : (k == 1) = false) (k6 : (k == 6) = false) (q1 : (FloatKind.f64.format.order q 0 == some Ordering.gt) = !z1) (q2 : (FloatKind.f64.format.order q 0 == some Ordering.eq) = z1) (q3 : (FloatKind.f64.format.order q 4607182418800017408 == some Ordering.lt) = !z2) (q4 : (FloatKind.f64.format.order q 4607182418800017408 == some Ordering.eq) = z2) (q5 : (FloatKind.f64.format.order y d == some Ordering.lt) = !z3) (q6 : (FloatKind.f64.format.order y d == some Ordering.eq) = z3) (hs3 : ∀ w : World, (binOp .add 28 (.float .f64 y) (.float .f64 q)).run Try.prog w = .ok (.float .f64 m) w) (hs4 : ∀ w : World, (binOp .sub 28 (.float .f64 d) (.float .f64 4607182418800017408)).run Try.prog w = .ok (.float .f64 n) w) (q7 : (FloatKind.f64.format.order m n == some Ordering.gt) = !z4) (q8 : (FloatKind.f64.format.order m n == some Ordering.eq) = z4) (w : World) : Calls Try.prog 9 #[.int .i64 t, .int .i64 u, .float .f64 d] w fun e w' => e = .returned (.bool true) ∧ Below w.heap.size w w' := by
  go_enter Try.func9, Try.ntmps9
  go_wp2_with fail
  refine (jul_lives _).mono ?_
  rintro e w1 ⟨rfl, hb1⟩
  have B1 : Below w.heap.size w w1 := by (focus (repeat' (first | assumption | exact Below.refl _ _ | refine Below.alloc ?_ ?_ _ | refine Below.setCell ?_ ?_ _ | refine Below.drew ?_ | refine below_drewN ?_ _ | refine Below.trans ?_ (Below.mono (by assumption) ?_) | refine Below.trans ?_ (Below.mono (BW.below _) ?_) | (simp; done) | (simp; omega) | omega)))
  have n1 : w.heap.size ≤ w1.heap.size := B1.size
  clear hb1
  go_wp2_with fail
  refine (hP _).mono ?_
  rintro e w2 ⟨rfl, hb2⟩
  have B2 : Below w.heap.size w w2 := by (focus (repeat' (first | assumption | exact Below.refl _ _ | refine Below.alloc ?_ ?_ _ | refine Below.setCell ?_ ?_ _ | refine Below.drew ?_ | refine below_drewN ?_ _ | refine Below.trans ?_ (Below.mono (by assumption) ?_) | refine Below.trans ?_ (Below.mono (BW.below _) ?_) | (simp; done) | (simp; omega) | omega)))
  have n2 : w.heap.size ≤ w2.heap.size := B2.size
  clear hb2 B1
  go_wp2_with fail
  refine (hK _).mono ?_
  rintro e w' ⟨rfl, rfl⟩
  go_wp2_with fail
  go_ret
  exact ⟨rfl, by (focus (repeat' (first | assumption | exact Below.refl _ _ | refine Below.alloc ?_ ?_ _ | refine Below.setCell ?_ ?_ _ | refine Below.drew ?_ | refine below_drewN ?_ _ | refine Below.trans ?_ (Below.mono (by assumption) ?_) | refine Below.trans ?_ (Below.mono (BW.below _) ?_) | (simp; done) | (simp; omega) | omega)))⟩
set_option maxRecDepth 100000 in
set_option maxHeartbeats 4000000 in
theorem JulianOrder_nms (t u : Int) (d s : Nat) (k : Int) (htu : decide (t ≤ u) = false) (h0 : -1096193779200 ≤ t) (h1 : decide (t ≤ 971890963199) = false) (hP : ∀ w : World, Calls Try.prog 31 #[.float .f64 d] w (GF2 w (nz d) none)) (hd : d < 18446744073709551616) (hK : ∀ w : World, Calls Try.prog 45 #[.float .f64 d] w fun e w' => e = .returned (.int .i64 k) ∧ w = w') (hk : k = 0 ∨ k = 1 ∨ k = 6) (w : World) : Calls Try.prog 9 #[.int .i64 t, .int .i64 u, .float .f64 d] w fun e w' => e = .returned (.bool true) ∧ Below w.heap.size w w' := by
  have HD := Lib.hid hd
  clear hd
  rcases hk with rfl | rfl | rfl
  all_goals
    go_enter Try.func9, Try.ntmps9
    go_wp2_with fail
    refine (jul_lives _).mono ?_
    rintro e w1 ⟨rfl, hb1⟩
    have B1 : Below w.heap.size w w1 := by (focus (repeat' (first | assumption | exact Below.refl _ _ | refine Below.alloc ?_ ?_ _ | refine Below.setCell ?_ ?_ _ | refine Below.drew ?_ | refine below_drewN ?_ _ | refine Below.trans ?_ (Below.mono (by assumption) ?_) | refine Below.trans ?_ (Below.mono (BW.below _) ?_) | (simp; done) | (simp; omega) | omega)))
    have n1 : w.heap.size ≤ w1.heap.size := B1.size
    clear hb1
    go_wp2_with fail
    refine (hP _).mono ?_
    rintro e w2 ⟨x9, y9, rfl, HX9, HY9, hb2⟩
    have B2 : Below w.heap.size w w2 := by (focus (repeat' (first | assumption | exact Below.refl _ _ | refine Below.alloc ?_ ?_ _ | refine Below.setCell ?_ ?_ _ | refine Below.drew ?_ | refine below_drewN ?_ _ | refine Below.trans ?_ (Below.mono (by assumption) ?_) | refine Below.trans ?_ (Below.mono (BW.below _) ?_) | (simp; done) | (simp; omega) | omega)))
    have n2 : w.heap.size ≤ w2.heap.size := B2.size
    clear hb2 B1
    go_wp2_with fail
    refine (hK _).mono ?_
    rintro e w' ⟨rfl, rfl⟩
    go_wp2_with fail
    refine (kind_of HY9 (k := 0) rfl _).mono ?_
    rintro e w' ⟨rfl, rfl⟩
    go_wp2_with fail
    refine (same_nz HX9 HD.out rfl _).mono ?_
    rintro e w' ⟨rfl, rfl⟩
    go_wp2_with fail
    go_ret
    exact ⟨rfl, by (focus (repeat' (first | assumption | exact Below.refl _ _ | refine Below.alloc ?_ ?_ _ | refine Below.setCell ?_ ?_ _ | refine Below.drew ?_ | refine below_drewN ?_ _ | refine Below.trans ?_ (Below.mono (by assumption) ?_) | refine Below.trans ?_ (Below.mono (BW.below _) ?_) | (simp; done) | (simp; omega) | omega)))⟩
set_option maxRecDepth 100000 in
set_option maxHeartbeats 4000000 in
theorem JulianOrder_nmf (t u : Int) (d s y q m n : Nat) (k : Int) (z1 z2 z3 z4 : Bool) (htu : decide (t ≤ u) = false) (h0 : -1096193779200 ≤ t) (h1 : decide (t ≤ 971890963199) = false) (hP : ∀ w : World, Calls Try.prog 31 #[.float .f64 d] w fun e w' => e = .returned (.tuple #[.float .f64 y, .float .f64 q]) ∧ Below w.heap.size w w') (hK : ∀ w : World, Calls Try.prog 45 #[.float .f64 d] w fun e w' => e = .returned (.int .i64 k) ∧ w = w') (k0 : (k == 0) = false) (k1 : (k == 1) = false) (k6 : (k == 6) = false) (q1 : (FloatKind.f64.format.order q 0 == some Ordering.gt) = !z1) (q2 : (FloatKind.f64.format.order q 0 == some Ordering.eq) = z1) (q3 : (FloatKind.f64.format.order q 4607182418800017408 == some Ordering.lt) = !z2) (q4 : (FloatKind.f64.format.order q 4607182418800017408 == some Ordering.eq) = z2) (q5 : (FloatKind.f64.format.order y d == some Ordering.lt) = !z3) (q6 : (FloatKind.f64.format.order y d == some Ordering.eq) = z3) (hs3 : ∀ w : World, (binOp .add 28 (.float .f64 y) (.float .f64 q)).run Try.prog w = .ok (.float .f64 m) w) (hs4 : ∀ w : World, (binOp .sub 28 (.float .f64 d) (.float .f64 4607182418800017408)).run Try.prog w = .ok (.float .f64 n) w) (q7 : (FloatKind.f64.format.order m n == some Ordering.gt) = !z4) (q8 : (FloatKind.f64.format.order m n == some Ordering.eq) = z4) (w : World) : Calls Try.prog 9 #[.int .i64 t, .int .i64 u, .float .f64 d] w fun e w' => e = .returned (.bool true) ∧ Below w.heap.size w w' := by
  go_enter Try.func9, Try.ntmps9
  go_wp2_with fail
  refine (jul_lives _).mono ?_
  rintro e w1 ⟨rfl, hb1⟩
  have B1 : Below w.heap.size w w1 := by (focus (repeat' (first | assumption | exact Below.refl _ _ | refine Below.alloc ?_ ?_ _ | refine Below.setCell ?_ ?_ _ | refine Below.drew ?_ | refine below_drewN ?_ _ | refine Below.trans ?_ (Below.mono (by assumption) ?_) | refine Below.trans ?_ (Below.mono (BW.below _) ?_) | (simp; done) | (simp; omega) | omega)))
  have n1 : w.heap.size ≤ w1.heap.size := B1.size
  clear hb1
  go_wp2_with fail
  refine (hP _).mono ?_
  rintro e w2 ⟨rfl, hb2⟩
  have B2 : Below w.heap.size w w2 := by (focus (repeat' (first | assumption | exact Below.refl _ _ | refine Below.alloc ?_ ?_ _ | refine Below.setCell ?_ ?_ _ | refine Below.drew ?_ | refine below_drewN ?_ _ | refine Below.trans ?_ (Below.mono (by assumption) ?_) | refine Below.trans ?_ (Below.mono (BW.below _) ?_) | (simp; done) | (simp; omega) | omega)))
  have n2 : w.heap.size ≤ w2.heap.size := B2.size
  clear hb2 B1
  go_wp2_with fail
  refine (hK _).mono ?_
  rintro e w' ⟨rfl, rfl⟩
  go_wp2_with fail
  go_ret
  exact ⟨rfl, by (focus (repeat' (first | assumption | exact Below.refl _ _ | refine Below.alloc ?_ ?_ _ | refine Below.setCell ?_ ?_ _ | refine Below.drew ?_ | refine below_drewN ?_ _ | refine Below.trans ?_ (Below.mono (by assumption) ?_) | refine Below.trans ?_ (Below.mono (BW.below _) ?_) | (simp; done) | (simp; omega) | omega)))⟩

/-- What is known of a second's day number. -/
theorem of_know (t : Int) (h : I64 t) : ∃ q s, fin s = true ∧ s < 18446744073709551616 ∧ Rnd (t * U) 1 (floatOfInt .f64 t) ∧ Rnd (val (floatOfInt .f64 t)) 86400 q ∧ Rnd (val q + 4881175 * H) 1 s ∧ ∀ w : World, Calls Try.prog 34 #[.int .i64 t] w fun e w' => e = .returned (.float .f64 s) ∧ Below w.heap.size w w' := by
  obtain ⟨q, s, e1, e2, fx, fq, fs, ls, r1, r2, r3⟩ := of_word t h
  refine ⟨q, s, fs, ls, r1, r2, r3, fun w => gf_is (julian_Of t w) ?_⟩
  unfold ofX
  rw [show fop .quo (some (floatOfInt .f64 t)) (some 4680673776000565248) = some q from e1]
  exact e2
theorem split_eq {a b : Nat} {o : Ordering} (ha : isnan a = false) (hb : isnan b = false) (ho : o = .gt ∧ val b ≤ val a ∨ o = .lt ∧ val a ≤ val b) : ∃ z : Bool, (FloatKind.f64.format.order a b == some o) = !z ∧ (FloatKind.f64.format.order a b == some Ordering.eq) = z := by
  have e := ov_eq ha hb
  refine ⟨decide (val a = val b), ?_, e⟩
  rcases ho with ⟨rfl, h⟩ | ⟨rfl, h⟩
  · have g := ov_gt ha hb
    refine g.trans ?_
    by_cases h' : val a = val b
    · rw [decide_eq_true h', decide_eq_false (by omega)]; rfl
    · rw [decide_eq_false h', decide_eq_true (by omega)]; rfl
  · have g := ov_lt ha hb
    refine g.trans ?_
    by_cases h' : val a = val b
    · rw [decide_eq_true h', decide_eq_false (by omega)]; rfl
    · rw [decide_eq_false h', decide_eq_true (by omega)]; rfl
/-- The parts of a number, finite. -/
theorem parts_know {d : Nat} (hf : fin d = true) (ld : d < 18446744073709551616) : ∃ y q m n, (∀ w : World, Calls Try.prog 31 #[.float .f64 d] w fun e w' => e = .returned (.tuple #[.float .f64 y, .float .f64 q]) ∧ Below w.heap.size w w') ∧
    isnan y = false ∧ isnan q = false ∧ isnan m = false ∧ isnan n = false ∧ 0 ≤ val q ∧ val q ≤ U ∧ val y ≤ val d ∧ val n ≤ val m ∧
    (∀ w : World, (binOp .add 28 (.float .f64 y) (.float .f64 q)).run Try.prog w = .ok (.float .f64 m) w) ∧ (∀ w : World, (binOp .sub 28 (.float .f64 d) (.float .f64 4607182418800017408)).run Try.prog w = .ok (.float .f64 n) w) := by
  obtain ⟨y, e, ly, fy, hs, hm, hv, ht⟩ := round_word hf .down
  have hvp := val_parts d
  have hl := lft_bd d
  have hr := rnd_down d
  have ho := one_is
  have hb : 0 ≤ val d - val y ∧ val d - val y < U := by
    rw [hv, hvp, hr]
    by_cases h : lft d < 0
    · rw [if_pos h, Int.sub_mul]; omega
    · rw [if_neg h]; simp only [Int.sub_zero]; omega
  obtain ⟨q, eq', rq⟩ := sub_rnd hf fy ly
  have q0 := rq.ge (c := 0) (by decide) (by rw [i_0.2]; omega)
  rw [i_0.2] at q0
  have q1 := rq.le ho.fin ho.lt (by rw [ho.val]; omega)
  rw [ho.val] at q1
  have fq : fin q = true := by
    have hn := rq.nan
    refine fin_of hn fun hi => ?_
    have : mag q = mg 9218868437227405312 := by unfold mag; rw [hi]
    have h1 := fin_mag ho.fin
    rw [← val_nat, ho.val, Int.natAbs_natCast] at h1
    have h2 := val_nat q
    rw [this, inf_mg] at h2
    omega
  obtain ⟨m, em, rm⟩ := add_rnd fy fq
  obtain ⟨n, en, rn⟩ := sub_rnd hf ho.fin ho.lt
  rw [ho.val] at rn
  have hmn := rn.mono rm (by omega)
  have nd := fin_nan hf
  refine ⟨y, q, m, n, fun w => gf2_is (julian_Parts d ld w) (by simp [rdW, nd, e]) ?_, fin_nan fy, fin_nan fq, rm.nan, rn.nan, q0, q1, by omega, hmn, fun w => run_float_arith w .add _ .f64 _ _ _ em, fun w => run_float_arith w .sub _ .f64 _ _ _ en⟩
  rw [show rdW .down d = some y by simp [rdW, nd, e], nz_some nd]
  exact eq'
/-- The parts of what is no finite number. -/
theorem parts_none {d : Nat} (ld : d < 18446744073709551616) (h : knd d = 0 ∨ knd d = 1 ∨ knd d = 6) : rdW .down d = nz d ∧ fop .sub (nz d) (rdW .down d) = none := by
  rcases knd_cases d with ⟨n, k, _⟩ | ⟨n, r, s, k, _⟩ | ⟨n, _, _, s, k, _⟩ | ⟨n, _, s, k, _⟩ | ⟨n, _, s, k, _⟩ | ⟨n, _, _, s, k, _⟩ | ⟨n, r, s, k, _⟩
  · have e : rdW .down d = none := rdW_nan _ n
    rw [e, nz_none n]; exact ⟨rfl, rfl⟩
  all_goals first
    | (exfalso; omega)
    | (have e : rdW .down d = some d := by simp [rdW, n, round_inf ld r]
       rw [e, nz_some n]
       refine ⟨rfl, ?_⟩
       show floatBits .sub .f64 d d = none
       show Ieee.double.sub d d = none
       unfold Ieee.Format.sub
       rw [read_inf r, s]; rfl)
theorem JulianOrder_walk (t u : Int) (d : Nat) (kt : I64 t) (ku : I64 u) (hd : d < 18446744073709551616) (w : World) : Calls Try.prog 9 #[.int .i64 t, .int .i64 u, .float .f64 d] w fun e w' => e = .returned (.bool true) ∧ Below w.heap.size w w' := by
  obtain ⟨qt, s, fs, ls, t1, t2, t3, hOt⟩ := of_know t kt
  have hK := fun w => real_Kind d hd w
  have hB : (t ≤ u ∧ ∃ r, (FloatKind.f64.format.order s r == some Ordering.gt) = false ∧ ∀ w : World, Calls Try.prog 34 #[.int .i64 u] w fun e w' => e = .returned (.float .f64 r) ∧ Below w.heap.size w w') ∨ decide (t ≤ u) = false := by
    by_cases h : t ≤ u
    · left
      obtain ⟨qu, r, fr, lr, u1, u2, u3, hOu⟩ := of_know u ku
      have hm := of_mono h t1 t2 t3 u1 u2 u3
      exact ⟨h, r, (ov_gt (fin_nan fs) (fin_nan fr)).trans (decide_eq_false (by omega)), hOu⟩
    · exact .inr (decide_eq_false h)
  have hC : (-1096193779200 ≤ t ∧ t ≤ 971890963199 ∧ ∃ v f g, (∀ w : World, Calls Try.prog 34 #[.int .i64 (t + 86400)] w fun e w' => e = .returned (.float .f64 v) ∧ Below w.heap.size w w') ∧
      (∀ w : World, (binOp .sub 28 (.float .f64 v) (.float .f64 s)).run Try.prog w = .ok (.float .f64 f) w) ∧ (∀ w : World, (binOp .sub 28 (.float .f64 f) (.float .f64 4607182418800017408)).run Try.prog w = .ok (.float .f64 g) w) ∧
      (FloatKind.f64.format.order g 4517329193108106637 == some Ordering.gt) = false ∧ (FloatKind.f64.format.order g 13740701229962882445 == some Ordering.lt) = false) ∨ decide (-1096193779200 ≤ t) = false ∨ (-1096193779200 ≤ t ∧ decide (t ≤ 971890963199) = false) := by
    by_cases h : -1096193779200 ≤ t
    · by_cases h' : t ≤ 971890963199
      · left
        obtain ⟨qv, v, fv, lv, v1, v2, v3, hOv⟩ := of_know (t + 86400) (I64.sm (by omega))
        obtain ⟨f, g, ef, eg, o1, o2⟩ := day_later h h' fs fv ls t2 t3 v2 v3
        exact ⟨h, h', v, f, g, hOv, fun w => run_float_arith w .sub _ .f64 _ _ _ ef, fun w => run_float_arith w .sub _ .f64 _ _ _ eg, o1, o2⟩
      · exact .inr (.inr ⟨h, decide_eq_false h'⟩)
    · exact .inr (.inl (decide_eq_false h))
  by_cases hk : knd d = 0 ∨ knd d = 1 ∨ knd d = 6
  · obtain ⟨p1, p2⟩ := parts_none hd hk
    have hP := fun w => julian_Parts d hd w
    rw [p2, p1] at hP
    rcases hB with ⟨htu, r, o, hOu⟩ | htu <;> rcases hC with ⟨h0, h1, v, f, g, hOv, s1, s2, o2, o3⟩ | h0 | ⟨h0, h1⟩
    · exact JulianOrder_yis t u d s _ _ _ _ _ htu hOt hOu o h0 h1 hOv s1 s2 o2 o3 hP hd hK hk w
    · exact JulianOrder_yls t u d s _ _ htu hOt hOu o h0 hP hd hK hk w
    · exact JulianOrder_yms t u d s _ _ htu hOt hOu o h0 h1 hP hd hK hk w
    · exact JulianOrder_nis t u d s _ _ _ _ htu h0 h1 hOv hOt s1 s2 o2 o3 hP hd hK hk w
    · exact JulianOrder_nls t u d s _ htu h0 hP hd hK hk w
    · exact JulianOrder_nms t u d s _ htu h0 h1 hP hd hK hk w
  · have hf : fin d = true := by
      rcases knd_cases d with ⟨n, k, _⟩ | ⟨n, r, s, k, _⟩ | ⟨n, _, r, s, k, _⟩ | ⟨n, r, s, k, _⟩ | ⟨n, r, s, k, _⟩ | ⟨n, _, r, s, k, _⟩ | ⟨n, r, s, k, _⟩ <;> first | (exfalso; omega) | (unfold fin; simp; omega)
    obtain ⟨y, q, m, n, hP, ny, nq, nm, nn, b0, b1, b2, b3, e1, e2⟩ := parts_know hf hd
    obtain ⟨z1, a1, a2⟩ := split_eq (o := .gt) nq i_0.1 (.inl ⟨rfl, by rw [i_0.2]; exact b0⟩)
    obtain ⟨z2, a3, a4⟩ := split_eq (o := .lt) nq (fin_nan one_is.fin) (.inr ⟨rfl, by rw [one_is.val]; exact b1⟩)
    obtain ⟨z3, a5, a6⟩ := split_eq (o := .lt) ny (fin_nan hf) (.inr ⟨rfl, b2⟩)
    obtain ⟨z4, a7, a8⟩ := split_eq (o := .gt) nm nn (.inl ⟨rfl, b3⟩)
    have k0 : (knd d == 0) = false := by simp; omega
    have k1 : (knd d == 1) = false := by simp; omega
    have k6 : (knd d == 6) = false := by simp; omega
    rcases hB with ⟨htu, r, o, hOu⟩ | htu <;> rcases hC with ⟨h0, h1, v, f, g, hOv, s1, s2, o2, o3⟩ | h0 | ⟨h0, h1⟩
    · exact JulianOrder_yif t u d s _ _ _ _ _ _ _ _ _ _ _ _ _ htu hOt hOu o h0 h1 hOv s1 s2 o2 o3 hP hK k0 k1 k6 a1 a2 a3 a4 a5 a6 e1 e2 a7 a8 w
    · exact JulianOrder_ylf t u d s _ _ _ _ _ _ _ _ _ _ htu hOt hOu o h0 hP hK k0 k1 k6 a1 a2 a3 a4 a5 a6 e1 e2 a7 a8 w
    · exact JulianOrder_ymf t u d s _ _ _ _ _ _ _ _ _ _ htu hOt hOu o h0 h1 hP hK k0 k1 k6 a1 a2 a3 a4 a5 a6 e1 e2 a7 a8 w
    · exact JulianOrder_nif t u d s _ _ _ _ _ _ _ _ _ _ _ _ htu h0 h1 hOv hOt s1 s2 o2 o3 hP hK k0 k1 k6 a1 a2 a3 a4 a5 a6 e1 e2 a7 a8 w
    · exact JulianOrder_nlf t u d s _ _ _ _ _ _ _ _ _ htu h0 hP hK k0 k1 k6 a1 a2 a3 a4 a5 a6 e1 e2 a7 a8 w
    · exact JulianOrder_nmf t u d s _ _ _ _ _ _ _ _ _ htu h0 h1 hP hK k0 k1 k6 a1 a2 a3 a4 a5 a6 e1 e2 a7 a8 w
end Go.Proofs.Ytblmlglkjmilkab
