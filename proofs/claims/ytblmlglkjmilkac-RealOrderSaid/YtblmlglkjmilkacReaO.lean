/-
  noontidelaw02: RealOrder, the walk.
-/
import Derived.Test.YtblmlglkjmilkacReaV
namespace Go.Proofs.Ytblmlglkjmilkac
open Go.RowKit Flo
attribute [local go_sem] BW.cell BW.frozen
set_option maxRecDepth 100000 in
set_option maxHeartbeats 4000000 in
theorem RealOrder_A1a (a b c r : Nat) (h1 : ∀ w : World, Calls Try.prog 8 #[.float .f64 a, .float .f64 b] w fun e w' => e = .returned (.bool true) ∧ w = w') (h2 : ∀ w : World, Calls Try.prog 8 #[.float .f64 b, .float .f64 a] w fun e w' => e = .returned (.bool false) ∧ w = w') (h3 : ∀ w : World, Calls Try.prog 9 #[.float .f64 a, .float .f64 b] w fun e w' => e = .returned (.bool false) ∧ w = w') (h4 : ∀ w : World, Calls Try.prog 8 #[.float .f64 b, .float .f64 c] w fun e w' => e = .returned (.bool true) ∧ w = w') (h5 : ∀ w : World, Calls Try.prog 8 #[.float .f64 a, .float .f64 c] w fun e w' => e = .returned (.bool true) ∧ w = w') (h6 : ∀ w : World, Calls Try.prog 10 #[.slice (some ⟨w.heap.size, 0, none⟩) 3 3] (w.alloc (.cells #[.float .f64 a, .float .f64 b, .float .f64 c] 22)) fun e w' => e = .returned (.tuple #[.float .f64 r, .bool true]) ∧ (w.alloc (.cells #[.float .f64 a, .float .f64 b, .float .f64 c] 22)) = w') (h7 : ∀ w : World, Calls Try.prog 9 #[.float .f64 r, .float .f64 a] w fun e w' => e = .returned (.bool true) ∧ w = w') (h10 : ∀ w : World, Calls Try.prog 8 #[.float .f64 a, .float .f64 r] w fun e w' => e = .returned (.bool false) ∧ w = w') (h11 : ∀ w : World, Calls Try.prog 8 #[.float .f64 b, .float .f64 r] w fun e w' => e = .returned (.bool false) ∧ w = w') (h12 : ∀ w : World, Calls Try.prog 8 #[.float .f64 c, .float .f64 r] w fun e w' => e = .returned (.bool false) ∧ w = w') (w : World) : Calls Try.prog 3 #[.float .f64 a, .float .f64 b, .float .f64 c] w fun e w' => e = .returned (.bool true) ∧ Below w.heap.size w w' := by
  go_enter Try.func3, Try.ntmps3
  go_wp2_with fail
  refine (real_lives _).mono ?_
  rintro e w1 ⟨rfl, hb1⟩
  have B1 : Below w.heap.size w w1 := by (focus (repeat' (first | assumption | exact Below.refl _ _ | refine Below.alloc ?_ ?_ _ | refine Below.setCell ?_ ?_ _ | refine Below.drew ?_ | refine below_drewN ?_ _ | refine Below.trans ?_ (Below.mono (by assumption) ?_) | refine Below.trans ?_ (Below.mono (BW.below _) ?_) | (simp; done) | (simp; omega) | omega)))
  have n1 : w.heap.size ≤ w1.heap.size := B1.size
  clear hb1
  go_wp2_with fail
  refine (h1 _).mono ?_
  rintro e w' ⟨rfl, rfl⟩
  go_wp2_with fail
  refine (h2 _).mono ?_
  rintro e w' ⟨rfl, rfl⟩
  go_wp2_with fail
  refine (h3 _).mono ?_
  rintro e w' ⟨rfl, rfl⟩
  go_wp2_with fail
  refine (h4 _).mono ?_
  rintro e w' ⟨rfl, rfl⟩
  go_wp2_with fail
  refine (h5 _).mono ?_
  rintro e w' ⟨rfl, rfl⟩
  go_wp2_with fail
  refine (h6 _).mono ?_
  rintro e w' ⟨rfl, rfl⟩
  go_wp2_with fail
  refine (h7 _).mono ?_
  rintro e w' ⟨rfl, rfl⟩
  go_wp2_with fail
  refine (h10 _).mono ?_
  rintro e w' ⟨rfl, rfl⟩
  go_wp2_with fail
  refine (h11 _).mono ?_
  rintro e w' ⟨rfl, rfl⟩
  go_wp2_with fail
  refine (h12 _).mono ?_
  rintro e w' ⟨rfl, rfl⟩
  go_wp2_with fail
  go_ret
  exact ⟨rfl, by (focus (repeat' (first | assumption | exact Below.refl _ _ | refine Below.alloc ?_ ?_ _ | refine Below.setCell ?_ ?_ _ | refine Below.drew ?_ | refine below_drewN ?_ _ | refine Below.trans ?_ (Below.mono (by assumption) ?_) | refine Below.trans ?_ (Below.mono (BW.below _) ?_) | (simp; done) | (simp; omega) | omega)))⟩
set_option maxRecDepth 100000 in
set_option maxHeartbeats 4000000 in
theorem RealOrder_A1b (a b c r : Nat) (h1 : ∀ w : World, Calls Try.prog 8 #[.float .f64 a, .float .f64 b] w fun e w' => e = .returned (.bool true) ∧ w = w') (h2 : ∀ w : World, Calls Try.prog 8 #[.float .f64 b, .float .f64 a] w fun e w' => e = .returned (.bool false) ∧ w = w') (h3 : ∀ w : World, Calls Try.prog 9 #[.float .f64 a, .float .f64 b] w fun e w' => e = .returned (.bool false) ∧ w = w') (h4 : ∀ w : World, Calls Try.prog 8 #[.float .f64 b, .float .f64 c] w fun e w' => e = .returned (.bool true) ∧ w = w') (h5 : ∀ w : World, Calls Try.prog 8 #[.float .f64 a, .float .f64 c] w fun e w' => e = .returned (.bool true) ∧ w = w') (h6 : ∀ w : World, Calls Try.prog 10 #[.slice (some ⟨w.heap.size, 0, none⟩) 3 3] (w.alloc (.cells #[.float .f64 a, .float .f64 b, .float .f64 c] 22)) fun e w' => e = .returned (.tuple #[.float .f64 r, .bool true]) ∧ (w.alloc (.cells #[.float .f64 a, .float .f64 b, .float .f64 c] 22)) = w') (h7 : ∀ w : World, Calls Try.prog 9 #[.float .f64 r, .float .f64 a] w fun e w' => e = .returned (.bool false) ∧ w = w') (h8 : ∀ w : World, Calls Try.prog 9 #[.float .f64 r, .float .f64 b] w fun e w' => e = .returned (.bool true) ∧ w = w') (h10 : ∀ w : World, Calls Try.prog 8 #[.float .f64 a, .float .f64 r] w fun e w' => e = .returned (.bool false) ∧ w = w') (h11 : ∀ w : World, Calls Try.prog 8 #[.float .f64 b, .float .f64 r] w fun e w' => e = .returned (.bool false) ∧ w = w') (h12 : ∀ w : World, Calls Try.prog 8 #[.float .f64 c, .float .f64 r] w fun e w' => e = .returned (.bool false) ∧ w = w') (w : World) : Calls Try.prog 3 #[.float .f64 a, .float .f64 b, .float .f64 c] w fun e w' => e = .returned (.bool true) ∧ Below w.heap.size w w' := by
  go_enter Try.func3, Try.ntmps3
  go_wp2_with fail
  refine (real_lives _).mono ?_
  rintro e w1 ⟨rfl, hb1⟩
  have B1 : Below w.heap.size w w1 := by (focus (repeat' (first | assumption | exact Below.refl _ _ | refine Below.alloc ?_ ?_ _ | refine Below.setCell ?_ ?_ _ | refine Below.drew ?_ | refine below_drewN ?_ _ | refine Below.trans ?_ (Below.mono (by assumption) ?_) | refine Below.trans ?_ (Below.mono (BW.below _) ?_) | (simp; done) | (simp; omega) | omega)))
  have n1 : w.heap.size ≤ w1.heap.size := B1.size
  clear hb1
  go_wp2_with fail
  refine (h1 _).mono ?_
  rintro e w' ⟨rfl, rfl⟩
  go_wp2_with fail
  refine (h2 _).mono ?_
  rintro e w' ⟨rfl, rfl⟩
  go_wp2_with fail
  refine (h3 _).mono ?_
  rintro e w' ⟨rfl, rfl⟩
  go_wp2_with fail
  refine (h4 _).mono ?_
  rintro e w' ⟨rfl, rfl⟩
  go_wp2_with fail
  refine (h5 _).mono ?_
  rintro e w' ⟨rfl, rfl⟩
  go_wp2_with fail
  refine (h6 _).mono ?_
  rintro e w' ⟨rfl, rfl⟩
  go_wp2_with fail
  refine (h7 _).mono ?_
  rintro e w' ⟨rfl, rfl⟩
  go_wp2_with fail
  refine (h8 _).mono ?_
  rintro e w' ⟨rfl, rfl⟩
  go_wp2_with fail
  refine (h10 _).mono ?_
  rintro e w' ⟨rfl, rfl⟩
  go_wp2_with fail
  refine (h11 _).mono ?_
  rintro e w' ⟨rfl, rfl⟩
  go_wp2_with fail
  refine (h12 _).mono ?_
  rintro e w' ⟨rfl, rfl⟩
  go_wp2_with fail
  go_ret
  exact ⟨rfl, by (focus (repeat' (first | assumption | exact Below.refl _ _ | refine Below.alloc ?_ ?_ _ | refine Below.setCell ?_ ?_ _ | refine Below.drew ?_ | refine below_drewN ?_ _ | refine Below.trans ?_ (Below.mono (by assumption) ?_) | refine Below.trans ?_ (Below.mono (BW.below _) ?_) | (simp; done) | (simp; omega) | omega)))⟩
set_option maxRecDepth 100000 in
set_option maxHeartbeats 4000000 in
theorem RealOrder_A1c (a b c r : Nat) (h1 : ∀ w : World, Calls Try.prog 8 #[.float .f64 a, .float .f64 b] w fun e w' => e = .returned (.bool true) ∧ w = w') (h2 : ∀ w : World, Calls Try.prog 8 #[.float .f64 b, .float .f64 a] w fun e w' => e = .returned (.bool false) ∧ w = w') (h3 : ∀ w : World, Calls Try.prog 9 #[.float .f64 a, .float .f64 b] w fun e w' => e = .returned (.bool false) ∧ w = w') (h4 : ∀ w : World, Calls Try.prog 8 #[.float .f64 b, .float .f64 c] w fun e w' => e = .returned (.bool true) ∧ w = w') (h5 : ∀ w : World, Calls Try.prog 8 #[.float .f64 a, .float .f64 c] w fun e w' => e = .returned (.bool true) ∧ w = w') (h6 : ∀ w : World, Calls Try.prog 10 #[.slice (some ⟨w.heap.size, 0, none⟩) 3 3] (w.alloc (.cells #[.float .f64 a, .float .f64 b, .float .f64 c] 22)) fun e w' => e = .returned (.tuple #[.float .f64 r, .bool true]) ∧ (w.alloc (.cells #[.float .f64 a, .float .f64 b, .float .f64 c] 22)) = w') (h7 : ∀ w : World, Calls Try.prog 9 #[.float .f64 r, .float .f64 a] w fun e w' => e = .returned (.bool false) ∧ w = w') (h8 : ∀ w : World, Calls Try.prog 9 #[.float .f64 r, .float .f64 b] w fun e w' => e = .returned (.bool false) ∧ w = w') (h9 : ∀ w : World, Calls Try.prog 9 #[.float .f64 r, .float .f64 c] w fun e w' => e = .returned (.bool true) ∧ w = w') (h10 : ∀ w : World, Calls Try.prog 8 #[.float .f64 a, .float .f64 r] w fun e w' => e = .returned (.bool false) ∧ w = w') (h11 : ∀ w : World, Calls Try.prog 8 #[.float .f64 b, .float .f64 r] w fun e w' => e = .returned (.bool false) ∧ w = w') (h12 : ∀ w : World, Calls Try.prog 8 #[.float .f64 c, .float .f64 r] w fun e w' => e = .returned (.bool false) ∧ w = w') (w : World) : Calls Try.prog 3 #[.float .f64 a, .float .f64 b, .float .f64 c] w fun e w' => e = .returned (.bool true) ∧ Below w.heap.size w w' := by
  go_enter Try.func3, Try.ntmps3
  go_wp2_with fail
  refine (real_lives _).mono ?_
  rintro e w1 ⟨rfl, hb1⟩
  have B1 : Below w.heap.size w w1 := by (focus (repeat' (first | assumption | exact Below.refl _ _ | refine Below.alloc ?_ ?_ _ | refine Below.setCell ?_ ?_ _ | refine Below.drew ?_ | refine below_drewN ?_ _ | refine Below.trans ?_ (Below.mono (by assumption) ?_) | refine Below.trans ?_ (Below.mono (BW.below _) ?_) | (simp; done) | (simp; omega) | omega)))
  have n1 : w.heap.size ≤ w1.heap.size := B1.size
  clear hb1
  go_wp2_with fail
  refine (h1 _).mono ?_
  rintro e w' ⟨rfl, rfl⟩
  go_wp2_with fail
  refine (h2 _).mono ?_
  rintro e w' ⟨rfl, rfl⟩
  go_wp2_with fail
  refine (h3 _).mono ?_
  rintro e w' ⟨rfl, rfl⟩
  go_wp2_with fail
  refine (h4 _).mono ?_
  rintro e w' ⟨rfl, rfl⟩
  go_wp2_with fail
  refine (h5 _).mono ?_
  rintro e w' ⟨rfl, rfl⟩
  go_wp2_with fail
  refine (h6 _).mono ?_
  rintro e w' ⟨rfl, rfl⟩
  go_wp2_with fail
  refine (h7 _).mono ?_
  rintro e w' ⟨rfl, rfl⟩
  go_wp2_with fail
  refine (h8 _).mono ?_
  rintro e w' ⟨rfl, rfl⟩
  go_wp2_with fail
  refine (h9 _).mono ?_
  rintro e w' ⟨rfl, rfl⟩
  go_wp2_with fail
  refine (h10 _).mono ?_
  rintro e w' ⟨rfl, rfl⟩
  go_wp2_with fail
  refine (h11 _).mono ?_
  rintro e w' ⟨rfl, rfl⟩
  go_wp2_with fail
  refine (h12 _).mono ?_
  rintro e w' ⟨rfl, rfl⟩
  go_wp2_with fail
  go_ret
  exact ⟨rfl, by (focus (repeat' (first | assumption | exact Below.refl _ _ | refine Below.alloc ?_ ?_ _ | refine Below.setCell ?_ ?_ _ | refine Below.drew ?_ | refine below_drewN ?_ _ | refine Below.trans ?_ (Below.mono (by assumption) ?_) | refine Below.trans ?_ (Below.mono (BW.below _) ?_) | (simp; done) | (simp; omega) | omega)))⟩
set_option maxRecDepth 100000 in
set_option maxHeartbeats 4000000 in
theorem RealOrder_A2a (a b c r : Nat) (h1 : ∀ w : World, Calls Try.prog 8 #[.float .f64 a, .float .f64 b] w fun e w' => e = .returned (.bool true) ∧ w = w') (h2 : ∀ w : World, Calls Try.prog 8 #[.float .f64 b, .float .f64 a] w fun e w' => e = .returned (.bool false) ∧ w = w') (h3 : ∀ w : World, Calls Try.prog 9 #[.float .f64 a, .float .f64 b] w fun e w' => e = .returned (.bool false) ∧ w = w') (h4 : ∀ w : World, Calls Try.prog 8 #[.float .f64 b, .float .f64 c] w fun e w' => e = .returned (.bool false) ∧ w = w') (h6 : ∀ w : World, Calls Try.prog 10 #[.slice (some ⟨w.heap.size, 0, none⟩) 3 3] (w.alloc (.cells #[.float .f64 a, .float .f64 b, .float .f64 c] 22)) fun e w' => e = .returned (.tuple #[.float .f64 r, .bool true]) ∧ (w.alloc (.cells #[.float .f64 a, .float .f64 b, .float .f64 c] 22)) = w') (h7 : ∀ w : World, Calls Try.prog 9 #[.float .f64 r, .float .f64 a] w fun e w' => e = .returned (.bool true) ∧ w = w') (h10 : ∀ w : World, Calls Try.prog 8 #[.float .f64 a, .float .f64 r] w fun e w' => e = .returned (.bool false) ∧ w = w') (h11 : ∀ w : World, Calls Try.prog 8 #[.float .f64 b, .float .f64 r] w fun e w' => e = .returned (.bool false) ∧ w = w') (h12 : ∀ w : World, Calls Try.prog 8 #[.float .f64 c, .float .f64 r] w fun e w' => e = .returned (.bool false) ∧ w = w') (w : World) : Calls Try.prog 3 #[.float .f64 a, .float .f64 b, .float .f64 c] w fun e w' => e = .returned (.bool true) ∧ Below w.heap.size w w' := by
  go_enter Try.func3, Try.ntmps3
  go_wp2_with fail
  refine (real_lives _).mono ?_
  rintro e w1 ⟨rfl, hb1⟩
  have B1 : Below w.heap.size w w1 := by (focus (repeat' (first | assumption | exact Below.refl _ _ | refine Below.alloc ?_ ?_ _ | refine Below.setCell ?_ ?_ _ | refine Below.drew ?_ | refine below_drewN ?_ _ | refine Below.trans ?_ (Below.mono (by assumption) ?_) | refine Below.trans ?_ (Below.mono (BW.below _) ?_) | (simp; done) | (simp; omega) | omega)))
  have n1 : w.heap.size ≤ w1.heap.size := B1.size
  clear hb1
  go_wp2_with fail
  refine (h1 _).mono ?_
  rintro e w' ⟨rfl, rfl⟩
  go_wp2_with fail
  refine (h2 _).mono ?_
  rintro e w' ⟨rfl, rfl⟩
  go_wp2_with fail
  refine (h3 _).mono ?_
  rintro e w' ⟨rfl, rfl⟩
  go_wp2_with fail
  refine (h4 _).mono ?_
  rintro e w' ⟨rfl, rfl⟩
  go_wp2_with fail
  refine (h6 _).mono ?_
  rintro e w' ⟨rfl, rfl⟩
  go_wp2_with fail
  refine (h7 _).mono ?_
  rintro e w' ⟨rfl, rfl⟩
  go_wp2_with fail
  refine (h10 _).mono ?_
  rintro e w' ⟨rfl, rfl⟩
  go_wp2_with fail
  refine (h11 _).mono ?_
  rintro e w' ⟨rfl, rfl⟩
  go_wp2_with fail
  refine (h12 _).mono ?_
  rintro e w' ⟨rfl, rfl⟩
  go_wp2_with fail
  go_ret
  exact ⟨rfl, by (focus (repeat' (first | assumption | exact Below.refl _ _ | refine Below.alloc ?_ ?_ _ | refine Below.setCell ?_ ?_ _ | refine Below.drew ?_ | refine below_drewN ?_ _ | refine Below.trans ?_ (Below.mono (by assumption) ?_) | refine Below.trans ?_ (Below.mono (BW.below _) ?_) | (simp; done) | (simp; omega) | omega)))⟩
set_option maxRecDepth 100000 in
set_option maxHeartbeats 4000000 in
theorem RealOrder_A2b (a b c r : Nat) (h1 : ∀ w : World, Calls Try.prog 8 #[.float .f64 a, .float .f64 b] w fun e w' => e = .returned (.bool true) ∧ w = w') (h2 : ∀ w : World, Calls Try.prog 8 #[.float .f64 b, .float .f64 a] w fun e w' => e = .returned (.bool false) ∧ w = w') (h3 : ∀ w : World, Calls Try.prog 9 #[.float .f64 a, .float .f64 b] w fun e w' => e = .returned (.bool false) ∧ w = w') (h4 : ∀ w : World, Calls Try.prog 8 #[.float .f64 b, .float .f64 c] w fun e w' => e = .returned (.bool false) ∧ w = w') (h6 : ∀ w : World, Calls Try.prog 10 #[.slice (some ⟨w.heap.size, 0, none⟩) 3 3] (w.alloc (.cells #[.float .f64 a, .float .f64 b, .float .f64 c] 22)) fun e w' => e = .returned (.tuple #[.float .f64 r, .bool true]) ∧ (w.alloc (.cells #[.float .f64 a, .float .f64 b, .float .f64 c] 22)) = w') (h7 : ∀ w : World, Calls Try.prog 9 #[.float .f64 r, .float .f64 a] w fun e w' => e = .returned (.bool false) ∧ w = w') (h8 : ∀ w : World, Calls Try.prog 9 #[.float .f64 r, .float .f64 b] w fun e w' => e = .returned (.bool true) ∧ w = w') (h10 : ∀ w : World, Calls Try.prog 8 #[.float .f64 a, .float .f64 r] w fun e w' => e = .returned (.bool false) ∧ w = w') (h11 : ∀ w : World, Calls Try.prog 8 #[.float .f64 b, .float .f64 r] w fun e w' => e = .returned (.bool false) ∧ w = w') (h12 : ∀ w : World, Calls Try.prog 8 #[.float .f64 c, .float .f64 r] w fun e w' => e = .returned (.bool false) ∧ w = w') (w : World) : Calls Try.prog 3 #[.float .f64 a, .float .f64 b, .float .f64 c] w fun e w' => e = .returned (.bool true) ∧ Below w.heap.size w w' := by
  go_enter Try.func3, Try.ntmps3
  go_wp2_with fail
  refine (real_lives _).mono ?_
  rintro e w1 ⟨rfl, hb1⟩
  have B1 : Below w.heap.size w w1 := by (focus (repeat' (first | assumption | exact Below.refl _ _ | refine Below.alloc ?_ ?_ _ | refine Below.setCell ?_ ?_ _ | refine Below.drew ?_ | refine below_drewN ?_ _ | refine Below.trans ?_ (Below.mono (by assumption) ?_) | refine Below.trans ?_ (Below.mono (BW.below _) ?_) | (simp; done) | (simp; omega) | omega)))
  have n1 : w.heap.size ≤ w1.heap.size := B1.size
  clear hb1
  go_wp2_with fail
  refine (h1 _).mono ?_
  rintro e w' ⟨rfl, rfl⟩
  go_wp2_with fail
  refine (h2 _).mono ?_
  rintro e w' ⟨rfl, rfl⟩
  go_wp2_with fail
  refine (h3 _).mono ?_
  rintro e w' ⟨rfl, rfl⟩
  go_wp2_with fail
  refine (h4 _).mono ?_
  rintro e w' ⟨rfl, rfl⟩
  go_wp2_with fail
  refine (h6 _).mono ?_
  rintro e w' ⟨rfl, rfl⟩
  go_wp2_with fail
  refine (h7 _).mono ?_
  rintro e w' ⟨rfl, rfl⟩
  go_wp2_with fail
  refine (h8 _).mono ?_
  rintro e w' ⟨rfl, rfl⟩
  go_wp2_with fail
  refine (h10 _).mono ?_
  rintro e w' ⟨rfl, rfl⟩
  go_wp2_with fail
  refine (h11 _).mono ?_
  rintro e w' ⟨rfl, rfl⟩
  go_wp2_with fail
  refine (h12 _).mono ?_
  rintro e w' ⟨rfl, rfl⟩
  go_wp2_with fail
  go_ret
  exact ⟨rfl, by (focus (repeat' (first | assumption | exact Below.refl _ _ | refine Below.alloc ?_ ?_ _ | refine Below.setCell ?_ ?_ _ | refine Below.drew ?_ | refine below_drewN ?_ _ | refine Below.trans ?_ (Below.mono (by assumption) ?_) | refine Below.trans ?_ (Below.mono (BW.below _) ?_) | (simp; done) | (simp; omega) | omega)))⟩
set_option maxRecDepth 100000 in
set_option maxHeartbeats 4000000 in
theorem RealOrder_A2c (a b c r : Nat) (h1 : ∀ w : World, Calls Try.prog 8 #[.float .f64 a, .float .f64 b] w fun e w' => e = .returned (.bool true) ∧ w = w') (h2 : ∀ w : World, Calls Try.prog 8 #[.float .f64 b, .float .f64 a] w fun e w' => e = .returned (.bool false) ∧ w = w') (h3 : ∀ w : World, Calls Try.prog 9 #[.float .f64 a, .float .f64 b] w fun e w' => e = .returned (.bool false) ∧ w = w') (h4 : ∀ w : World, Calls Try.prog 8 #[.float .f64 b, .float .f64 c] w fun e w' => e = .returned (.bool false) ∧ w = w') (h6 : ∀ w : World, Calls Try.prog 10 #[.slice (some ⟨w.heap.size, 0, none⟩) 3 3] (w.alloc (.cells #[.float .f64 a, .float .f64 b, .float .f64 c] 22)) fun e w' => e = .returned (.tuple #[.float .f64 r, .bool true]) ∧ (w.alloc (.cells #[.float .f64 a, .float .f64 b, .float .f64 c] 22)) = w') (h7 : ∀ w : World, Calls Try.prog 9 #[.float .f64 r, .float .f64 a] w fun e w' => e = .returned (.bool false) ∧ w = w') (h8 : ∀ w : World, Calls Try.prog 9 #[.float .f64 r, .float .f64 b] w fun e w' => e = .returned (.bool false) ∧ w = w') (h9 : ∀ w : World, Calls Try.prog 9 #[.float .f64 r, .float .f64 c] w fun e w' => e = .returned (.bool true) ∧ w = w') (h10 : ∀ w : World, Calls Try.prog 8 #[.float .f64 a, .float .f64 r] w fun e w' => e = .returned (.bool false) ∧ w = w') (h11 : ∀ w : World, Calls Try.prog 8 #[.float .f64 b, .float .f64 r] w fun e w' => e = .returned (.bool false) ∧ w = w') (h12 : ∀ w : World, Calls Try.prog 8 #[.float .f64 c, .float .f64 r] w fun e w' => e = .returned (.bool false) ∧ w = w') (w : World) : Calls Try.prog 3 #[.float .f64 a, .float .f64 b, .float .f64 c] w fun e w' => e = .returned (.bool true) ∧ Below w.heap.size w w' := by
  go_enter Try.func3, Try.ntmps3
  go_wp2_with fail
  refine (real_lives _).mono ?_
  rintro e w1 ⟨rfl, hb1⟩
  have B1 : Below w.heap.size w w1 := by (focus (repeat' (first | assumption | exact Below.refl _ _ | refine Below.alloc ?_ ?_ _ | refine Below.setCell ?_ ?_ _ | refine Below.drew ?_ | refine below_drewN ?_ _ | refine Below.trans ?_ (Below.mono (by assumption) ?_) | refine Below.trans ?_ (Below.mono (BW.below _) ?_) | (simp; done) | (simp; omega) | omega)))
  have n1 : w.heap.size ≤ w1.heap.size := B1.size
  clear hb1
  go_wp2_with fail
  refine (h1 _).mono ?_
  rintro e w' ⟨rfl, rfl⟩
  go_wp2_with fail
  refine (h2 _).mono ?_
  rintro e w' ⟨rfl, rfl⟩
  go_wp2_with fail
  refine (h3 _).mono ?_
  rintro e w' ⟨rfl, rfl⟩
  go_wp2_with fail
  refine (h4 _).mono ?_
  rintro e w' ⟨rfl, rfl⟩
  go_wp2_with fail
  refine (h6 _).mono ?_
  rintro e w' ⟨rfl, rfl⟩
  go_wp2_with fail
  refine (h7 _).mono ?_
  rintro e w' ⟨rfl, rfl⟩
  go_wp2_with fail
  refine (h8 _).mono ?_
  rintro e w' ⟨rfl, rfl⟩
  go_wp2_with fail
  refine (h9 _).mono ?_
  rintro e w' ⟨rfl, rfl⟩
  go_wp2_with fail
  refine (h10 _).mono ?_
  rintro e w' ⟨rfl, rfl⟩
  go_wp2_with fail
  refine (h11 _).mono ?_
  rintro e w' ⟨rfl, rfl⟩
  go_wp2_with fail
  refine (h12 _).mono ?_
  rintro e w' ⟨rfl, rfl⟩
  go_wp2_with fail
  go_ret
  exact ⟨rfl, by (focus (repeat' (first | assumption | exact Below.refl _ _ | refine Below.alloc ?_ ?_ _ | refine Below.setCell ?_ ?_ _ | refine Below.drew ?_ | refine below_drewN ?_ _ | refine Below.trans ?_ (Below.mono (by assumption) ?_) | refine Below.trans ?_ (Below.mono (BW.below _) ?_) | (simp; done) | (simp; omega) | omega)))⟩
set_option maxRecDepth 100000 in
set_option maxHeartbeats 4000000 in
theorem RealOrder_Ba (a b c r : Nat) (h1 : ∀ w : World, Calls Try.prog 8 #[.float .f64 a, .float .f64 b] w fun e w' => e = .returned (.bool false) ∧ w = w') (h2 : ∀ w : World, Calls Try.prog 8 #[.float .f64 b, .float .f64 a] w fun e w' => e = .returned (.bool true) ∧ w = w') (h3 : ∀ w : World, Calls Try.prog 9 #[.float .f64 a, .float .f64 b] w fun e w' => e = .returned (.bool false) ∧ w = w') (h6 : ∀ w : World, Calls Try.prog 10 #[.slice (some ⟨w.heap.size, 0, none⟩) 3 3] (w.alloc (.cells #[.float .f64 a, .float .f64 b, .float .f64 c] 22)) fun e w' => e = .returned (.tuple #[.float .f64 r, .bool true]) ∧ (w.alloc (.cells #[.float .f64 a, .float .f64 b, .float .f64 c] 22)) = w') (h7 : ∀ w : World, Calls Try.prog 9 #[.float .f64 r, .float .f64 a] w fun e w' => e = .returned (.bool true) ∧ w = w') (h10 : ∀ w : World, Calls Try.prog 8 #[.float .f64 a, .float .f64 r] w fun e w' => e = .returned (.bool false) ∧ w = w') (h11 : ∀ w : World, Calls Try.prog 8 #[.float .f64 b, .float .f64 r] w fun e w' => e = .returned (.bool false) ∧ w = w') (h12 : ∀ w : World, Calls Try.prog 8 #[.float .f64 c, .float .f64 r] w fun e w' => e = .returned (.bool false) ∧ w = w') (w : World) : Calls Try.prog 3 #[.float .f64 a, .float .f64 b, .float .f64 c] w fun e w' => e = .returned (.bool true) ∧ Below w.heap.size w w' := by
  go_enter Try.func3, Try.ntmps3
  go_wp2_with fail
  refine (real_lives _).mono ?_
  rintro e w1 ⟨rfl, hb1⟩
  have B1 : Below w.heap.size w w1 := by (focus (repeat' (first | assumption | exact Below.refl _ _ | refine Below.alloc ?_ ?_ _ | refine Below.setCell ?_ ?_ _ | refine Below.drew ?_ | refine below_drewN ?_ _ | refine Below.trans ?_ (Below.mono (by assumption) ?_) | refine Below.trans ?_ (Below.mono (BW.below _) ?_) | (simp; done) | (simp; omega) | omega)))
  have n1 : w.heap.size ≤ w1.heap.size := B1.size
  clear hb1
  go_wp2_with fail
  refine (h1 _).mono ?_
  rintro e w' ⟨rfl, rfl⟩
  go_wp2_with fail
  refine (h2 _).mono ?_
  rintro e w' ⟨rfl, rfl⟩
  go_wp2_with fail
  refine (h3 _).mono ?_
  rintro e w' ⟨rfl, rfl⟩
  go_wp2_with fail
  refine (h6 _).mono ?_
  rintro e w' ⟨rfl, rfl⟩
  go_wp2_with fail
  refine (h7 _).mono ?_
  rintro e w' ⟨rfl, rfl⟩
  go_wp2_with fail
  refine (h10 _).mono ?_
  rintro e w' ⟨rfl, rfl⟩
  go_wp2_with fail
  refine (h11 _).mono ?_
  rintro e w' ⟨rfl, rfl⟩
  go_wp2_with fail
  refine (h12 _).mono ?_
  rintro e w' ⟨rfl, rfl⟩
  go_wp2_with fail
  go_ret
  exact ⟨rfl, by (focus (repeat' (first | assumption | exact Below.refl _ _ | refine Below.alloc ?_ ?_ _ | refine Below.setCell ?_ ?_ _ | refine Below.drew ?_ | refine below_drewN ?_ _ | refine Below.trans ?_ (Below.mono (by assumption) ?_) | refine Below.trans ?_ (Below.mono (BW.below _) ?_) | (simp; done) | (simp; omega) | omega)))⟩
set_option maxRecDepth 100000 in
set_option maxHeartbeats 4000000 in
theorem RealOrder_Bb (a b c r : Nat) (h1 : ∀ w : World, Calls Try.prog 8 #[.float .f64 a, .float .f64 b] w fun e w' => e = .returned (.bool false) ∧ w = w') (h2 : ∀ w : World, Calls Try.prog 8 #[.float .f64 b, .float .f64 a] w fun e w' => e = .returned (.bool true) ∧ w = w') (h3 : ∀ w : World, Calls Try.prog 9 #[.float .f64 a, .float .f64 b] w fun e w' => e = .returned (.bool false) ∧ w = w') (h6 : ∀ w : World, Calls Try.prog 10 #[.slice (some ⟨w.heap.size, 0, none⟩) 3 3] (w.alloc (.cells #[.float .f64 a, .float .f64 b, .float .f64 c] 22)) fun e w' => e = .returned (.tuple #[.float .f64 r, .bool true]) ∧ (w.alloc (.cells #[.float .f64 a, .float .f64 b, .float .f64 c] 22)) = w') (h7 : ∀ w : World, Calls Try.prog 9 #[.float .f64 r, .float .f64 a] w fun e w' => e = .returned (.bool false) ∧ w = w') (h8 : ∀ w : World, Calls Try.prog 9 #[.float .f64 r, .float .f64 b] w fun e w' => e = .returned (.bool true) ∧ w = w') (h10 : ∀ w : World, Calls Try.prog 8 #[.float .f64 a, .float .f64 r] w fun e w' => e = .returned (.bool false) ∧ w = w') (h11 : ∀ w : World, Calls Try.prog 8 #[.float .f64 b, .float .f64 r] w fun e w' => e = .returned (.bool false) ∧ w = w') (h12 : ∀ w : World, Calls Try.prog 8 #[.float .f64 c, .float .f64 r] w fun e w' => e = .returned (.bool false) ∧ w = w') (w : World) : Calls Try.prog 3 #[.float .f64 a, .float .f64 b, .float .f64 c] w fun e w' => e = .returned (.bool true) ∧ Below w.heap.size w w' := by
  go_enter Try.func3, Try.ntmps3
  go_wp2_with fail
  refine (real_lives _).mono ?_
  rintro e w1 ⟨rfl, hb1⟩
  have B1 : Below w.heap.size w w1 := by (focus (repeat' (first | assumption | exact Below.refl _ _ | refine Below.alloc ?_ ?_ _ | refine Below.setCell ?_ ?_ _ | refine Below.drew ?_ | refine below_drewN ?_ _ | refine Below.trans ?_ (Below.mono (by assumption) ?_) | refine Below.trans ?_ (Below.mono (BW.below _) ?_) | (simp; done) | (simp; omega) | omega)))
  have n1 : w.heap.size ≤ w1.heap.size := B1.size
  clear hb1
  go_wp2_with fail
  refine (h1 _).mono ?_
  rintro e w' ⟨rfl, rfl⟩
  go_wp2_with fail
  refine (h2 _).mono ?_
  rintro e w' ⟨rfl, rfl⟩
  go_wp2_with fail
  refine (h3 _).mono ?_
  rintro e w' ⟨rfl, rfl⟩
  go_wp2_with fail
  refine (h6 _).mono ?_
  rintro e w' ⟨rfl, rfl⟩
  go_wp2_with fail
  refine (h7 _).mono ?_
  rintro e w' ⟨rfl, rfl⟩
  go_wp2_with fail
  refine (h8 _).mono ?_
  rintro e w' ⟨rfl, rfl⟩
  go_wp2_with fail
  refine (h10 _).mono ?_
  rintro e w' ⟨rfl, rfl⟩
  go_wp2_with fail
  refine (h11 _).mono ?_
  rintro e w' ⟨rfl, rfl⟩
  go_wp2_with fail
  refine (h12 _).mono ?_
  rintro e w' ⟨rfl, rfl⟩
  go_wp2_with fail
  go_ret
  exact ⟨rfl, by (focus (repeat' (first | assumption | exact Below.refl _ _ | refine Below.alloc ?_ ?_ _ | refine Below.setCell ?_ ?_ _ | refine Below.drew ?_ | refine below_drewN ?_ _ | refine Below.trans ?_ (Below.mono (by assumption) ?_) | refine Below.trans ?_ (Below.mono (BW.below _) ?_) | (simp; done) | (simp; omega) | omega)))⟩
set_option maxRecDepth 100000 in
set_option maxHeartbeats 4000000 in
theorem RealOrder_Bc (a b c r : Nat) (h1 : ∀ w : World, Calls Try.prog 8 #[.float .f64 a, .float .f64 b] w fun e w' => e = .returned (.bool false) ∧ w = w') (h2 : ∀ w : World, Calls Try.prog 8 #[.float .f64 b, .float .f64 a] w fun e w' => e = .returned (.bool true) ∧ w = w') (h3 : ∀ w : World, Calls Try.prog 9 #[.float .f64 a, .float .f64 b] w fun e w' => e = .returned (.bool false) ∧ w = w') (h6 : ∀ w : World, Calls Try.prog 10 #[.slice (some ⟨w.heap.size, 0, none⟩) 3 3] (w.alloc (.cells #[.float .f64 a, .float .f64 b, .float .f64 c] 22)) fun e w' => e = .returned (.tuple #[.float .f64 r, .bool true]) ∧ (w.alloc (.cells #[.float .f64 a, .float .f64 b, .float .f64 c] 22)) = w') (h7 : ∀ w : World, Calls Try.prog 9 #[.float .f64 r, .float .f64 a] w fun e w' => e = .returned (.bool false) ∧ w = w') (h8 : ∀ w : World, Calls Try.prog 9 #[.float .f64 r, .float .f64 b] w fun e w' => e = .returned (.bool false) ∧ w = w') (h9 : ∀ w : World, Calls Try.prog 9 #[.float .f64 r, .float .f64 c] w fun e w' => e = .returned (.bool true) ∧ w = w') (h10 : ∀ w : World, Calls Try.prog 8 #[.float .f64 a, .float .f64 r] w fun e w' => e = .returned (.bool false) ∧ w = w') (h11 : ∀ w : World, Calls Try.prog 8 #[.float .f64 b, .float .f64 r] w fun e w' => e = .returned (.bool false) ∧ w = w') (h12 : ∀ w : World, Calls Try.prog 8 #[.float .f64 c, .float .f64 r] w fun e w' => e = .returned (.bool false) ∧ w = w') (w : World) : Calls Try.prog 3 #[.float .f64 a, .float .f64 b, .float .f64 c] w fun e w' => e = .returned (.bool true) ∧ Below w.heap.size w w' := by
  go_enter Try.func3, Try.ntmps3
  go_wp2_with fail
  refine (real_lives _).mono ?_
  rintro e w1 ⟨rfl, hb1⟩
  have B1 : Below w.heap.size w w1 := by (focus (repeat' (first | assumption | exact Below.refl _ _ | refine Below.alloc ?_ ?_ _ | refine Below.setCell ?_ ?_ _ | refine Below.drew ?_ | refine below_drewN ?_ _ | refine Below.trans ?_ (Below.mono (by assumption) ?_) | refine Below.trans ?_ (Below.mono (BW.below _) ?_) | (simp; done) | (simp; omega) | omega)))
  have n1 : w.heap.size ≤ w1.heap.size := B1.size
  clear hb1
  go_wp2_with fail
  refine (h1 _).mono ?_
  rintro e w' ⟨rfl, rfl⟩
  go_wp2_with fail
  refine (h2 _).mono ?_
  rintro e w' ⟨rfl, rfl⟩
  go_wp2_with fail
  refine (h3 _).mono ?_
  rintro e w' ⟨rfl, rfl⟩
  go_wp2_with fail
  refine (h6 _).mono ?_
  rintro e w' ⟨rfl, rfl⟩
  go_wp2_with fail
  refine (h7 _).mono ?_
  rintro e w' ⟨rfl, rfl⟩
  go_wp2_with fail
  refine (h8 _).mono ?_
  rintro e w' ⟨rfl, rfl⟩
  go_wp2_with fail
  refine (h9 _).mono ?_
  rintro e w' ⟨rfl, rfl⟩
  go_wp2_with fail
  refine (h10 _).mono ?_
  rintro e w' ⟨rfl, rfl⟩
  go_wp2_with fail
  refine (h11 _).mono ?_
  rintro e w' ⟨rfl, rfl⟩
  go_wp2_with fail
  refine (h12 _).mono ?_
  rintro e w' ⟨rfl, rfl⟩
  go_wp2_with fail
  go_ret
  exact ⟨rfl, by (focus (repeat' (first | assumption | exact Below.refl _ _ | refine Below.alloc ?_ ?_ _ | refine Below.setCell ?_ ?_ _ | refine Below.drew ?_ | refine below_drewN ?_ _ | refine Below.trans ?_ (Below.mono (by assumption) ?_) | refine Below.trans ?_ (Below.mono (BW.below _) ?_) | (simp; done) | (simp; omega) | omega)))⟩
set_option maxRecDepth 100000 in
set_option maxHeartbeats 4000000 in
theorem RealOrder_C1a (a b c r : Nat) (h1 : ∀ w : World, Calls Try.prog 8 #[.float .f64 a, .float .f64 b] w fun e w' => e = .returned (.bool false) ∧ w = w') (h2 : ∀ w : World, Calls Try.prog 8 #[.float .f64 b, .float .f64 a] w fun e w' => e = .returned (.bool false) ∧ w = w') (h3 : ∀ w : World, Calls Try.prog 9 #[.float .f64 a, .float .f64 b] w fun e w' => e = .returned (.bool true) ∧ w = w') (h4 : ∀ w : World, Calls Try.prog 8 #[.float .f64 b, .float .f64 c] w fun e w' => e = .returned (.bool true) ∧ w = w') (h5 : ∀ w : World, Calls Try.prog 8 #[.float .f64 a, .float .f64 c] w fun e w' => e = .returned (.bool true) ∧ w = w') (h6 : ∀ w : World, Calls Try.prog 10 #[.slice (some ⟨w.heap.size, 0, none⟩) 3 3] (w.alloc (.cells #[.float .f64 a, .float .f64 b, .float .f64 c] 22)) fun e w' => e = .returned (.tuple #[.float .f64 r, .bool true]) ∧ (w.alloc (.cells #[.float .f64 a, .float .f64 b, .float .f64 c] 22)) = w') (h7 : ∀ w : World, Calls Try.prog 9 #[.float .f64 r, .float .f64 a] w fun e w' => e = .returned (.bool true) ∧ w = w') (h10 : ∀ w : World, Calls Try.prog 8 #[.float .f64 a, .float .f64 r] w fun e w' => e = .returned (.bool false) ∧ w = w') (h11 : ∀ w : World, Calls Try.prog 8 #[.float .f64 b, .float .f64 r] w fun e w' => e = .returned (.bool false) ∧ w = w') (h12 : ∀ w : World, Calls Try.prog 8 #[.float .f64 c, .float .f64 r] w fun e w' => e = .returned (.bool false) ∧ w = w') (w : World) : Calls Try.prog 3 #[.float .f64 a, .float .f64 b, .float .f64 c] w fun e w' => e = .returned (.bool true) ∧ Below w.heap.size w w' := by
  go_enter Try.func3, Try.ntmps3
  go_wp2_with fail
  refine (real_lives _).mono ?_
  rintro e w1 ⟨rfl, hb1⟩
  have B1 : Below w.heap.size w w1 := by (focus (repeat' (first | assumption | exact Below.refl _ _ | refine Below.alloc ?_ ?_ _ | refine Below.setCell ?_ ?_ _ | refine Below.drew ?_ | refine below_drewN ?_ _ | refine Below.trans ?_ (Below.mono (by assumption) ?_) | refine Below.trans ?_ (Below.mono (BW.below _) ?_) | (simp; done) | (simp; omega) | omega)))
  have n1 : w.heap.size ≤ w1.heap.size := B1.size
  clear hb1
  go_wp2_with fail
  refine (h1 _).mono ?_
  rintro e w' ⟨rfl, rfl⟩
  go_wp2_with fail
  refine (h2 _).mono ?_
  rintro e w' ⟨rfl, rfl⟩
  go_wp2_with fail
  refine (h3 _).mono ?_
  rintro e w' ⟨rfl, rfl⟩
  go_wp2_with fail
  refine (h4 _).mono ?_
  rintro e w' ⟨rfl, rfl⟩
  go_wp2_with fail
  refine (h5 _).mono ?_
  rintro e w' ⟨rfl, rfl⟩
  go_wp2_with fail
  refine (h6 _).mono ?_
  rintro e w' ⟨rfl, rfl⟩
  go_wp2_with fail
  refine (h7 _).mono ?_
  rintro e w' ⟨rfl, rfl⟩
  go_wp2_with fail
  refine (h10 _).mono ?_
  rintro e w' ⟨rfl, rfl⟩
  go_wp2_with fail
  refine (h11 _).mono ?_
  rintro e w' ⟨rfl, rfl⟩
  go_wp2_with fail
  refine (h12 _).mono ?_
  rintro e w' ⟨rfl, rfl⟩
  go_wp2_with fail
  go_ret
  exact ⟨rfl, by (focus (repeat' (first | assumption | exact Below.refl _ _ | refine Below.alloc ?_ ?_ _ | refine Below.setCell ?_ ?_ _ | refine Below.drew ?_ | refine below_drewN ?_ _ | refine Below.trans ?_ (Below.mono (by assumption) ?_) | refine Below.trans ?_ (Below.mono (BW.below _) ?_) | (simp; done) | (simp; omega) | omega)))⟩
set_option maxRecDepth 100000 in
set_option maxHeartbeats 4000000 in
theorem RealOrder_C1b (a b c r : Nat) (h1 : ∀ w : World, Calls Try.prog 8 #[.float .f64 a, .float .f64 b] w fun e w' => e = .returned (.bool false) ∧ w = w') (h2 : ∀ w : World, Calls Try.prog 8 #[.float .f64 b, .float .f64 a] w fun e w' => e = .returned (.bool false) ∧ w = w') (h3 : ∀ w : World, Calls Try.prog 9 #[.float .f64 a, .float .f64 b] w fun e w' => e = .returned (.bool true) ∧ w = w') (h4 : ∀ w : World, Calls Try.prog 8 #[.float .f64 b, .float .f64 c] w fun e w' => e = .returned (.bool true) ∧ w = w') (h5 : ∀ w : World, Calls Try.prog 8 #[.float .f64 a, .float .f64 c] w fun e w' => e = .returned (.bool true) ∧ w = w') (h6 : ∀ w : World, Calls Try.prog 10 #[.slice (some ⟨w.heap.size, 0, none⟩) 3 3] (w.alloc (.cells #[.float .f64 a, .float .f64 b, .float .f64 c] 22)) fun e w' => e = .returned (.tuple #[.float .f64 r, .bool true]) ∧ (w.alloc (.cells #[.float .f64 a, .float .f64 b, .float .f64 c] 22)) = w') (h7 : ∀ w : World, Calls Try.prog 9 #[.float .f64 r, .float .f64 a] w fun e w' => e = .returned (.bool false) ∧ w = w') (h8 : ∀ w : World, Calls Try.prog 9 #[.float .f64 r, .float .f64 b] w fun e w' => e = .returned (.bool true) ∧ w = w') (h10 : ∀ w : World, Calls Try.prog 8 #[.float .f64 a, .float .f64 r] w fun e w' => e = .returned (.bool false) ∧ w = w') (h11 : ∀ w : World, Calls Try.prog 8 #[.float .f64 b, .float .f64 r] w fun e w' => e = .returned (.bool false) ∧ w = w') (h12 : ∀ w : World, Calls Try.prog 8 #[.float .f64 c, .float .f64 r] w fun e w' => e = .returned (.bool false) ∧ w = w') (w : World) : Calls Try.prog 3 #[.float .f64 a, .float .f64 b, .float .f64 c] w fun e w' => e = .returned (.bool true) ∧ Below w.heap.size w w' := by
  go_enter Try.func3, Try.ntmps3
  go_wp2_with fail
  refine (real_lives _).mono ?_
  rintro e w1 ⟨rfl, hb1⟩
  have B1 : Below w.heap.size w w1 := by (focus (repeat' (first | assumption | exact Below.refl _ _ | refine Below.alloc ?_ ?_ _ | refine Below.setCell ?_ ?_ _ | refine Below.drew ?_ | refine below_drewN ?_ _ | refine Below.trans ?_ (Below.mono (by assumption) ?_) | refine Below.trans ?_ (Below.mono (BW.below _) ?_) | (simp; done) | (simp; omega) | omega)))
  have n1 : w.heap.size ≤ w1.heap.size := B1.size
  clear hb1
  go_wp2_with fail
  refine (h1 _).mono ?_
  rintro e w' ⟨rfl, rfl⟩
  go_wp2_with fail
  refine (h2 _).mono ?_
  rintro e w' ⟨rfl, rfl⟩
  go_wp2_with fail
  refine (h3 _).mono ?_
  rintro e w' ⟨rfl, rfl⟩
  go_wp2_with fail
  refine (h4 _).mono ?_
  rintro e w' ⟨rfl, rfl⟩
  go_wp2_with fail
  refine (h5 _).mono ?_
  rintro e w' ⟨rfl, rfl⟩
  go_wp2_with fail
  refine (h6 _).mono ?_
  rintro e w' ⟨rfl, rfl⟩
  go_wp2_with fail
  refine (h7 _).mono ?_
  rintro e w' ⟨rfl, rfl⟩
  go_wp2_with fail
  refine (h8 _).mono ?_
  rintro e w' ⟨rfl, rfl⟩
  go_wp2_with fail
  refine (h10 _).mono ?_
  rintro e w' ⟨rfl, rfl⟩
  go_wp2_with fail
  refine (h11 _).mono ?_
  rintro e w' ⟨rfl, rfl⟩
  go_wp2_with fail
  refine (h12 _).mono ?_
  rintro e w' ⟨rfl, rfl⟩
  go_wp2_with fail
  go_ret
  exact ⟨rfl, by (focus (repeat' (first | assumption | exact Below.refl _ _ | refine Below.alloc ?_ ?_ _ | refine Below.setCell ?_ ?_ _ | refine Below.drew ?_ | refine below_drewN ?_ _ | refine Below.trans ?_ (Below.mono (by assumption) ?_) | refine Below.trans ?_ (Below.mono (BW.below _) ?_) | (simp; done) | (simp; omega) | omega)))⟩
set_option maxRecDepth 100000 in
set_option maxHeartbeats 4000000 in
theorem RealOrder_C1c (a b c r : Nat) (h1 : ∀ w : World, Calls Try.prog 8 #[.float .f64 a, .float .f64 b] w fun e w' => e = .returned (.bool false) ∧ w = w') (h2 : ∀ w : World, Calls Try.prog 8 #[.float .f64 b, .float .f64 a] w fun e w' => e = .returned (.bool false) ∧ w = w') (h3 : ∀ w : World, Calls Try.prog 9 #[.float .f64 a, .float .f64 b] w fun e w' => e = .returned (.bool true) ∧ w = w') (h4 : ∀ w : World, Calls Try.prog 8 #[.float .f64 b, .float .f64 c] w fun e w' => e = .returned (.bool true) ∧ w = w') (h5 : ∀ w : World, Calls Try.prog 8 #[.float .f64 a, .float .f64 c] w fun e w' => e = .returned (.bool true) ∧ w = w') (h6 : ∀ w : World, Calls Try.prog 10 #[.slice (some ⟨w.heap.size, 0, none⟩) 3 3] (w.alloc (.cells #[.float .f64 a, .float .f64 b, .float .f64 c] 22)) fun e w' => e = .returned (.tuple #[.float .f64 r, .bool true]) ∧ (w.alloc (.cells #[.float .f64 a, .float .f64 b, .float .f64 c] 22)) = w') (h7 : ∀ w : World, Calls Try.prog 9 #[.float .f64 r, .float .f64 a] w fun e w' => e = .returned (.bool false) ∧ w = w') (h8 : ∀ w : World, Calls Try.prog 9 #[.float .f64 r, .float .f64 b] w fun e w' => e = .returned (.bool false) ∧ w = w') (h9 : ∀ w : World, Calls Try.prog 9 #[.float .f64 r, .float .f64 c] w fun e w' => e = .returned (.bool true) ∧ w = w') (h10 : ∀ w : World, Calls Try.prog 8 #[.float .f64 a, .float .f64 r] w fun e w' => e = .returned (.bool false) ∧ w = w') (h11 : ∀ w : World, Calls Try.prog 8 #[.float .f64 b, .float .f64 r] w fun e w' => e = .returned (.bool false) ∧ w = w') (h12 : ∀ w : World, Calls Try.prog 8 #[.float .f64 c, .float .f64 r] w fun e w' => e = .returned (.bool false) ∧ w = w') (w : World) : Calls Try.prog 3 #[.float .f64 a, .float .f64 b, .float .f64 c] w fun e w' => e = .returned (.bool true) ∧ Below w.heap.size w w' := by
  go_enter Try.func3, Try.ntmps3
  go_wp2_with fail
  refine (real_lives _).mono ?_
  rintro e w1 ⟨rfl, hb1⟩
  have B1 : Below w.heap.size w w1 := by (focus (repeat' (first | assumption | exact Below.refl _ _ | refine Below.alloc ?_ ?_ _ | refine Below.setCell ?_ ?_ _ | refine Below.drew ?_ | refine below_drewN ?_ _ | refine Below.trans ?_ (Below.mono (by assumption) ?_) | refine Below.trans ?_ (Below.mono (BW.below _) ?_) | (simp; done) | (simp; omega) | omega)))
  have n1 : w.heap.size ≤ w1.heap.size := B1.size
  clear hb1
  go_wp2_with fail
  refine (h1 _).mono ?_
  rintro e w' ⟨rfl, rfl⟩
  go_wp2_with fail
  refine (h2 _).mono ?_
  rintro e w' ⟨rfl, rfl⟩
  go_wp2_with fail
  refine (h3 _).mono ?_
  rintro e w' ⟨rfl, rfl⟩
  go_wp2_with fail
  refine (h4 _).mono ?_
  rintro e w' ⟨rfl, rfl⟩
  go_wp2_with fail
  refine (h5 _).mono ?_
  rintro e w' ⟨rfl, rfl⟩
  go_wp2_with fail
  refine (h6 _).mono ?_
  rintro e w' ⟨rfl, rfl⟩
  go_wp2_with fail
  refine (h7 _).mono ?_
  rintro e w' ⟨rfl, rfl⟩
  go_wp2_with fail
  refine (h8 _).mono ?_
  rintro e w' ⟨rfl, rfl⟩
  go_wp2_with fail
  refine (h9 _).mono ?_
  rintro e w' ⟨rfl, rfl⟩
  go_wp2_with fail
  refine (h10 _).mono ?_
  rintro e w' ⟨rfl, rfl⟩
  go_wp2_with fail
  refine (h11 _).mono ?_
  rintro e w' ⟨rfl, rfl⟩
  go_wp2_with fail
  refine (h12 _).mono ?_
  rintro e w' ⟨rfl, rfl⟩
  go_wp2_with fail
  go_ret
  exact ⟨rfl, by (focus (repeat' (first | assumption | exact Below.refl _ _ | refine Below.alloc ?_ ?_ _ | refine Below.setCell ?_ ?_ _ | refine Below.drew ?_ | refine below_drewN ?_ _ | refine Below.trans ?_ (Below.mono (by assumption) ?_) | refine Below.trans ?_ (Below.mono (BW.below _) ?_) | (simp; done) | (simp; omega) | omega)))⟩
set_option maxRecDepth 100000 in
set_option maxHeartbeats 4000000 in
theorem RealOrder_C2a (a b c r : Nat) (h1 : ∀ w : World, Calls Try.prog 8 #[.float .f64 a, .float .f64 b] w fun e w' => e = .returned (.bool false) ∧ w = w') (h2 : ∀ w : World, Calls Try.prog 8 #[.float .f64 b, .float .f64 a] w fun e w' => e = .returned (.bool false) ∧ w = w') (h3 : ∀ w : World, Calls Try.prog 9 #[.float .f64 a, .float .f64 b] w fun e w' => e = .returned (.bool true) ∧ w = w') (h4 : ∀ w : World, Calls Try.prog 8 #[.float .f64 b, .float .f64 c] w fun e w' => e = .returned (.bool false) ∧ w = w') (h5 : ∀ w : World, Calls Try.prog 8 #[.float .f64 a, .float .f64 c] w fun e w' => e = .returned (.bool false) ∧ w = w') (h6 : ∀ w : World, Calls Try.prog 10 #[.slice (some ⟨w.heap.size, 0, none⟩) 3 3] (w.alloc (.cells #[.float .f64 a, .float .f64 b, .float .f64 c] 22)) fun e w' => e = .returned (.tuple #[.float .f64 r, .bool true]) ∧ (w.alloc (.cells #[.float .f64 a, .float .f64 b, .float .f64 c] 22)) = w') (h7 : ∀ w : World, Calls Try.prog 9 #[.float .f64 r, .float .f64 a] w fun e w' => e = .returned (.bool true) ∧ w = w') (h10 : ∀ w : World, Calls Try.prog 8 #[.float .f64 a, .float .f64 r] w fun e w' => e = .returned (.bool false) ∧ w = w') (h11 : ∀ w : World, Calls Try.prog 8 #[.float .f64 b, .float .f64 r] w fun e w' => e = .returned (.bool false) ∧ w = w') (h12 : ∀ w : World, Calls Try.prog 8 #[.float .f64 c, .float .f64 r] w fun e w' => e = .returned (.bool false) ∧ w = w') (w : World) : Calls Try.prog 3 #[.float .f64 a, .float .f64 b, .float .f64 c] w fun e w' => e = .returned (.bool true) ∧ Below w.heap.size w w' := by
  go_enter Try.func3, Try.ntmps3
  go_wp2_with fail
  refine (real_lives _).mono ?_
  rintro e w1 ⟨rfl, hb1⟩
  have B1 : Below w.heap.size w w1 := by (focus (repeat' (first | assumption | exact Below.refl _ _ | refine Below.alloc ?_ ?_ _ | refine Below.setCell ?_ ?_ _ | refine Below.drew ?_ | refine below_drewN ?_ _ | refine Below.trans ?_ (Below.mono (by assumption) ?_) | refine Below.trans ?_ (Below.mono (BW.below _) ?_) | (simp; done) | (simp; omega) | omega)))
  have n1 : w.heap.size ≤ w1.heap.size := B1.size
  clear hb1
  go_wp2_with fail
  refine (h1 _).mono ?_
  rintro e w' ⟨rfl, rfl⟩
  go_wp2_with fail
  refine (h2 _).mono ?_
  rintro e w' ⟨rfl, rfl⟩
  go_wp2_with fail
  refine (h3 _).mono ?_
  rintro e w' ⟨rfl, rfl⟩
  go_wp2_with fail
  refine (h4 _).mono ?_
  rintro e w' ⟨rfl, rfl⟩
  go_wp2_with fail
  refine (h5 _).mono ?_
  rintro e w' ⟨rfl, rfl⟩
  go_wp2_with fail
  refine (h6 _).mono ?_
  rintro e w' ⟨rfl, rfl⟩
  go_wp2_with fail
  refine (h7 _).mono ?_
  rintro e w' ⟨rfl, rfl⟩
  go_wp2_with fail
  refine (h10 _).mono ?_
  rintro e w' ⟨rfl, rfl⟩
  go_wp2_with fail
  refine (h11 _).mono ?_
  rintro e w' ⟨rfl, rfl⟩
  go_wp2_with fail
  refine (h12 _).mono ?_
  rintro e w' ⟨rfl, rfl⟩
  go_wp2_with fail
  go_ret
  exact ⟨rfl, by (focus (repeat' (first | assumption | exact Below.refl _ _ | refine Below.alloc ?_ ?_ _ | refine Below.setCell ?_ ?_ _ | refine Below.drew ?_ | refine below_drewN ?_ _ | refine Below.trans ?_ (Below.mono (by assumption) ?_) | refine Below.trans ?_ (Below.mono (BW.below _) ?_) | (simp; done) | (simp; omega) | omega)))⟩
set_option maxRecDepth 100000 in
set_option maxHeartbeats 4000000 in
theorem RealOrder_C2b (a b c r : Nat) (h1 : ∀ w : World, Calls Try.prog 8 #[.float .f64 a, .float .f64 b] w fun e w' => e = .returned (.bool false) ∧ w = w') (h2 : ∀ w : World, Calls Try.prog 8 #[.float .f64 b, .float .f64 a] w fun e w' => e = .returned (.bool false) ∧ w = w') (h3 : ∀ w : World, Calls Try.prog 9 #[.float .f64 a, .float .f64 b] w fun e w' => e = .returned (.bool true) ∧ w = w') (h4 : ∀ w : World, Calls Try.prog 8 #[.float .f64 b, .float .f64 c] w fun e w' => e = .returned (.bool false) ∧ w = w') (h5 : ∀ w : World, Calls Try.prog 8 #[.float .f64 a, .float .f64 c] w fun e w' => e = .returned (.bool false) ∧ w = w') (h6 : ∀ w : World, Calls Try.prog 10 #[.slice (some ⟨w.heap.size, 0, none⟩) 3 3] (w.alloc (.cells #[.float .f64 a, .float .f64 b, .float .f64 c] 22)) fun e w' => e = .returned (.tuple #[.float .f64 r, .bool true]) ∧ (w.alloc (.cells #[.float .f64 a, .float .f64 b, .float .f64 c] 22)) = w') (h7 : ∀ w : World, Calls Try.prog 9 #[.float .f64 r, .float .f64 a] w fun e w' => e = .returned (.bool false) ∧ w = w') (h8 : ∀ w : World, Calls Try.prog 9 #[.float .f64 r, .float .f64 b] w fun e w' => e = .returned (.bool true) ∧ w = w') (h10 : ∀ w : World, Calls Try.prog 8 #[.float .f64 a, .float .f64 r] w fun e w' => e = .returned (.bool false) ∧ w = w') (h11 : ∀ w : World, Calls Try.prog 8 #[.float .f64 b, .float .f64 r] w fun e w' => e = .returned (.bool false) ∧ w = w') (h12 : ∀ w : World, Calls Try.prog 8 #[.float .f64 c, .float .f64 r] w fun e w' => e = .returned (.bool false) ∧ w = w') (w : World) : Calls Try.prog 3 #[.float .f64 a, .float .f64 b, .float .f64 c] w fun e w' => e = .returned (.bool true) ∧ Below w.heap.size w w' := by
  go_enter Try.func3, Try.ntmps3
  go_wp2_with fail
  refine (real_lives _).mono ?_
  rintro e w1 ⟨rfl, hb1⟩
  have B1 : Below w.heap.size w w1 := by (focus (repeat' (first | assumption | exact Below.refl _ _ | refine Below.alloc ?_ ?_ _ | refine Below.setCell ?_ ?_ _ | refine Below.drew ?_ | refine below_drewN ?_ _ | refine Below.trans ?_ (Below.mono (by assumption) ?_) | refine Below.trans ?_ (Below.mono (BW.below _) ?_) | (simp; done) | (simp; omega) | omega)))
  have n1 : w.heap.size ≤ w1.heap.size := B1.size
  clear hb1
  go_wp2_with fail
  refine (h1 _).mono ?_
  rintro e w' ⟨rfl, rfl⟩
  go_wp2_with fail
  refine (h2 _).mono ?_
  rintro e w' ⟨rfl, rfl⟩
  go_wp2_with fail
  refine (h3 _).mono ?_
  rintro e w' ⟨rfl, rfl⟩
  go_wp2_with fail
  refine (h4 _).mono ?_
  rintro e w' ⟨rfl, rfl⟩
  go_wp2_with fail
  refine (h5 _).mono ?_
  rintro e w' ⟨rfl, rfl⟩
  go_wp2_with fail
  refine (h6 _).mono ?_
  rintro e w' ⟨rfl, rfl⟩
  go_wp2_with fail
  refine (h7 _).mono ?_
  rintro e w' ⟨rfl, rfl⟩
  go_wp2_with fail
  refine (h8 _).mono ?_
  rintro e w' ⟨rfl, rfl⟩
  go_wp2_with fail
  refine (h10 _).mono ?_
  rintro e w' ⟨rfl, rfl⟩
  go_wp2_with fail
  refine (h11 _).mono ?_
  rintro e w' ⟨rfl, rfl⟩
  go_wp2_with fail
  refine (h12 _).mono ?_
  rintro e w' ⟨rfl, rfl⟩
  go_wp2_with fail
  go_ret
  exact ⟨rfl, by (focus (repeat' (first | assumption | exact Below.refl _ _ | refine Below.alloc ?_ ?_ _ | refine Below.setCell ?_ ?_ _ | refine Below.drew ?_ | refine below_drewN ?_ _ | refine Below.trans ?_ (Below.mono (by assumption) ?_) | refine Below.trans ?_ (Below.mono (BW.below _) ?_) | (simp; done) | (simp; omega) | omega)))⟩
set_option maxRecDepth 100000 in
set_option maxHeartbeats 4000000 in
theorem RealOrder_C2c (a b c r : Nat) (h1 : ∀ w : World, Calls Try.prog 8 #[.float .f64 a, .float .f64 b] w fun e w' => e = .returned (.bool false) ∧ w = w') (h2 : ∀ w : World, Calls Try.prog 8 #[.float .f64 b, .float .f64 a] w fun e w' => e = .returned (.bool false) ∧ w = w') (h3 : ∀ w : World, Calls Try.prog 9 #[.float .f64 a, .float .f64 b] w fun e w' => e = .returned (.bool true) ∧ w = w') (h4 : ∀ w : World, Calls Try.prog 8 #[.float .f64 b, .float .f64 c] w fun e w' => e = .returned (.bool false) ∧ w = w') (h5 : ∀ w : World, Calls Try.prog 8 #[.float .f64 a, .float .f64 c] w fun e w' => e = .returned (.bool false) ∧ w = w') (h6 : ∀ w : World, Calls Try.prog 10 #[.slice (some ⟨w.heap.size, 0, none⟩) 3 3] (w.alloc (.cells #[.float .f64 a, .float .f64 b, .float .f64 c] 22)) fun e w' => e = .returned (.tuple #[.float .f64 r, .bool true]) ∧ (w.alloc (.cells #[.float .f64 a, .float .f64 b, .float .f64 c] 22)) = w') (h7 : ∀ w : World, Calls Try.prog 9 #[.float .f64 r, .float .f64 a] w fun e w' => e = .returned (.bool false) ∧ w = w') (h8 : ∀ w : World, Calls Try.prog 9 #[.float .f64 r, .float .f64 b] w fun e w' => e = .returned (.bool false) ∧ w = w') (h9 : ∀ w : World, Calls Try.prog 9 #[.float .f64 r, .float .f64 c] w fun e w' => e = .returned (.bool true) ∧ w = w') (h10 : ∀ w : World, Calls Try.prog 8 #[.float .f64 a, .float .f64 r] w fun e w' => e = .returned (.bool false) ∧ w = w') (h11 : ∀ w : World, Calls Try.prog 8 #[.float .f64 b, .float .f64 r] w fun e w' => e = .returned (.bool false) ∧ w = w') (h12 : ∀ w : World, Calls Try.prog 8 #[.float .f64 c, .float .f64 r] w fun e w' => e = .returned (.bool false) ∧ w = w') (w : World) : Calls Try.prog 3 #[.float .f64 a, .float .f64 b, .float .f64 c] w fun e w' => e = .returned (.bool true) ∧ Below w.heap.size w w' := by
  go_enter Try.func3, Try.ntmps3
  go_wp2_with fail
  refine (real_lives _).mono ?_
  rintro e w1 ⟨rfl, hb1⟩
  have B1 : Below w.heap.size w w1 := by (focus (repeat' (first | assumption | exact Below.refl _ _ | refine Below.alloc ?_ ?_ _ | refine Below.setCell ?_ ?_ _ | refine Below.drew ?_ | refine below_drewN ?_ _ | refine Below.trans ?_ (Below.mono (by assumption) ?_) | refine Below.trans ?_ (Below.mono (BW.below _) ?_) | (simp; done) | (simp; omega) | omega)))
  have n1 : w.heap.size ≤ w1.heap.size := B1.size
  clear hb1
  go_wp2_with fail
  refine (h1 _).mono ?_
  rintro e w' ⟨rfl, rfl⟩
  go_wp2_with fail
  refine (h2 _).mono ?_
  rintro e w' ⟨rfl, rfl⟩
  go_wp2_with fail
  refine (h3 _).mono ?_
  rintro e w' ⟨rfl, rfl⟩
  go_wp2_with fail
  refine (h4 _).mono ?_
  rintro e w' ⟨rfl, rfl⟩
  go_wp2_with fail
  refine (h5 _).mono ?_
  rintro e w' ⟨rfl, rfl⟩
  go_wp2_with fail
  refine (h6 _).mono ?_
  rintro e w' ⟨rfl, rfl⟩
  go_wp2_with fail
  refine (h7 _).mono ?_
  rintro e w' ⟨rfl, rfl⟩
  go_wp2_with fail
  refine (h8 _).mono ?_
  rintro e w' ⟨rfl, rfl⟩
  go_wp2_with fail
  refine (h9 _).mono ?_
  rintro e w' ⟨rfl, rfl⟩
  go_wp2_with fail
  refine (h10 _).mono ?_
  rintro e w' ⟨rfl, rfl⟩
  go_wp2_with fail
  refine (h11 _).mono ?_
  rintro e w' ⟨rfl, rfl⟩
  go_wp2_with fail
  refine (h12 _).mono ?_
  rintro e w' ⟨rfl, rfl⟩
  go_wp2_with fail
  go_ret
  exact ⟨rfl, by (focus (repeat' (first | assumption | exact Below.refl _ _ | refine Below.alloc ?_ ?_ _ | refine Below.setCell ?_ ?_ _ | refine Below.drew ?_ | refine below_drewN ?_ _ | refine Below.trans ?_ (Below.mono (by assumption) ?_) | refine Below.trans ?_ (Below.mono (BW.below _) ?_) | (simp; done) | (simp; omega) | omega)))⟩
theorem least_laws (a b c : Nat) : (plc (leastL [a, b, c]) = plc a ∨ plc (leastL [a, b, c]) = plc b ∨ plc (leastL [a, b, c]) = plc c) ∧ plc (leastL [a, b, c]) ≤ plc a ∧ plc (leastL [a, b, c]) ≤ plc b ∧ plc (leastL [a, b, c]) ≤ plc c := by
  have k : ∀ x y : Nat, (plc (if plc y < plc x then y else x) = plc x ∨ plc (if plc y < plc x then y else x) = plc y) ∧ plc (if plc y < plc x then y else x) ≤ plc x ∧ plc (if plc y < plc x then y else x) ≤ plc y := fun x y => by
    by_cases h : plc y < plc x
    · rw [if_pos h]; omega
    · rw [if_neg h]; omega
  have k1 := k a b
  have k2 := k (if plc b < plc a then b else a) c
  have e : leastL [a, b, c] = (if plc c < plc (if plc b < plc a then b else a) then c else if plc b < plc a then b else a) := rfl
  rw [e]
  generalize (if plc b < plc a then b else a) = m at *
  generalize (if plc c < plc m then c else m) = r at *
  omega
theorem least_lt (a b c : Nat) (ha : a < 18446744073709551616) (hb : b < 18446744073709551616) (hc : c < 18446744073709551616) : leastL [a, b, c] < 18446744073709551616 :=
  leastF_lt a [b, c] ha (fun x hx => by simp at hx; rcases hx with rfl | rfl <;> assumption)
theorem RealOrder_walk (a b c : Nat) (ha : a < 18446744073709551616) (hb : b < 18446744073709551616) (hc : c < 18446744073709551616) (w : World) : Calls Try.prog 3 #[.float .f64 a, .float .f64 b, .float .f64 c] w fun e w' => e = .returned (.bool true) ∧ Below w.heap.size w w' := by
  have hr := least_lt a b c ha hb hc
  have hL : ∀ w : World, Calls Try.prog 10 #[.slice (some ⟨w.heap.size, 0, none⟩) 3 3] (w.alloc (.cells #[.float .f64 a, .float .f64 b, .float .f64 c] 22)) fun e w' => e = .returned (.tuple #[.float .f64 (leastL [a, b, c]), .bool true]) ∧ (w.alloc (.cells #[.float .f64 a, .float .f64 b, .float .f64 c] 22)) = w' := fun w => least_three w a b c ha hb hc rfl
  obtain ⟨h0, l1, l2, l3⟩ := least_laws a b c
  generalize leastL [a, b, c] = r at *
  have lf : ∀ x y : Nat, x < 18446744073709551616 → y < 18446744073709551616 → ¬ plc x < plc y → ∀ w : World, Calls Try.prog 8 #[.float .f64 x, .float .f64 y] w fun e w' => e = .returned (.bool false) ∧ w = w' := fun x y hx hy h w => less_is x y hx hy (decide_eq_false h) w
  have lt : ∀ x y : Nat, x < 18446744073709551616 → y < 18446744073709551616 → plc x < plc y → ∀ w : World, Calls Try.prog 8 #[.float .f64 x, .float .f64 y] w fun e w' => e = .returned (.bool true) ∧ w = w' := fun x y hx hy h w => less_is x y hx hy (decide_eq_true h) w
  have sf : ∀ x y : Nat, x < 18446744073709551616 → y < 18446744073709551616 → plc x ≠ plc y → ∀ w : World, Calls Try.prog 9 #[.float .f64 x, .float .f64 y] w fun e w' => e = .returned (.bool false) ∧ w = w' := fun x y hx hy h w => same_is x y hx hy (by simpa using h) w
  have st : ∀ x y : Nat, x < 18446744073709551616 → y < 18446744073709551616 → plc x = plc y → ∀ w : World, Calls Try.prog 9 #[.float .f64 x, .float .f64 y] w fun e w' => e = .returned (.bool true) ∧ w = w' := fun x y hx hy h w => same_is x y hx hy (by simpa using h) w
  have m1 := lf a r ha hr (by omega)
  have m2 := lf b r hb hr (by omega)
  have m3 := lf c r hc hr (by omega)
  by_cases q1 : plc a < plc b
  · by_cases q2 : plc b < plc c
    · by_cases h7 : plc r = plc a
      · exact RealOrder_A1a a b c r (lt a b ha hb (by omega)) (lf b a hb ha (by omega)) (sf a b ha hb (by omega)) (lt b c hb hc (by omega)) (lt a c ha hc (by omega)) hL (st r a hr ha h7) m1 m2 m3 w
      by_cases h8 : plc r = plc b
      · exact RealOrder_A1b a b c r (lt a b ha hb (by omega)) (lf b a hb ha (by omega)) (sf a b ha hb (by omega)) (lt b c hb hc (by omega)) (lt a c ha hc (by omega)) hL (sf r a hr ha h7) (st r b hr hb h8) m1 m2 m3 w
      exact RealOrder_A1c a b c r (lt a b ha hb (by omega)) (lf b a hb ha (by omega)) (sf a b ha hb (by omega)) (lt b c hb hc (by omega)) (lt a c ha hc (by omega)) hL (sf r a hr ha h7) (sf r b hr hb h8) (st r c hr hc (by omega)) m1 m2 m3 w
    by_cases h7 : plc r = plc a
    · exact RealOrder_A2a a b c r (lt a b ha hb (by omega)) (lf b a hb ha (by omega)) (sf a b ha hb (by omega)) (lf b c hb hc (by omega)) hL (st r a hr ha h7) m1 m2 m3 w
    by_cases h8 : plc r = plc b
    · exact RealOrder_A2b a b c r (lt a b ha hb (by omega)) (lf b a hb ha (by omega)) (sf a b ha hb (by omega)) (lf b c hb hc (by omega)) hL (sf r a hr ha h7) (st r b hr hb h8) m1 m2 m3 w
    exact RealOrder_A2c a b c r (lt a b ha hb (by omega)) (lf b a hb ha (by omega)) (sf a b ha hb (by omega)) (lf b c hb hc (by omega)) hL (sf r a hr ha h7) (sf r b hr hb h8) (st r c hr hc (by omega)) m1 m2 m3 w
  by_cases q3 : plc b < plc a
  · by_cases h7 : plc r = plc a
    · exact RealOrder_Ba a b c r (lf a b ha hb (by omega)) (lt b a hb ha (by omega)) (sf a b ha hb (by omega)) hL (st r a hr ha h7) m1 m2 m3 w
    by_cases h8 : plc r = plc b
    · exact RealOrder_Bb a b c r (lf a b ha hb (by omega)) (lt b a hb ha (by omega)) (sf a b ha hb (by omega)) hL (sf r a hr ha h7) (st r b hr hb h8) m1 m2 m3 w
    exact RealOrder_Bc a b c r (lf a b ha hb (by omega)) (lt b a hb ha (by omega)) (sf a b ha hb (by omega)) hL (sf r a hr ha h7) (sf r b hr hb h8) (st r c hr hc (by omega)) m1 m2 m3 w
  by_cases q4 : plc b < plc c
  · by_cases h7 : plc r = plc a
    · exact RealOrder_C1a a b c r (lf a b ha hb (by omega)) (lf b a hb ha (by omega)) (st a b ha hb (by omega)) (lt b c hb hc (by omega)) (lt a c ha hc (by omega)) hL (st r a hr ha h7) m1 m2 m3 w
    by_cases h8 : plc r = plc b
    · exact RealOrder_C1b a b c r (lf a b ha hb (by omega)) (lf b a hb ha (by omega)) (st a b ha hb (by omega)) (lt b c hb hc (by omega)) (lt a c ha hc (by omega)) hL (sf r a hr ha h7) (st r b hr hb h8) m1 m2 m3 w
    exact RealOrder_C1c a b c r (lf a b ha hb (by omega)) (lf b a hb ha (by omega)) (st a b ha hb (by omega)) (lt b c hb hc (by omega)) (lt a c ha hc (by omega)) hL (sf r a hr ha h7) (sf r b hr hb h8) (st r c hr hc (by omega)) m1 m2 m3 w
  by_cases h7 : plc r = plc a
  · exact RealOrder_C2a a b c r (lf a b ha hb (by omega)) (lf b a hb ha (by omega)) (st a b ha hb (by omega)) (lf b c hb hc (by omega)) (lf a c ha hc (by omega)) hL (st r a hr ha h7) m1 m2 m3 w
  by_cases h8 : plc r = plc b
  · exact RealOrder_C2b a b c r (lf a b ha hb (by omega)) (lf b a hb ha (by omega)) (st a b ha hb (by omega)) (lf b c hb hc (by omega)) (lf a c ha hc (by omega)) hL (sf r a hr ha h7) (st r b hr hb h8) m1 m2 m3 w
  exact RealOrder_C2c a b c r (lf a b ha hb (by omega)) (lf b a hb ha (by omega)) (st a b ha hb (by omega)) (lf b c hb hc (by omega)) (lf a c ha hc (by omega)) hL (sf r a hr ha h7) (sf r b hr hb h8) (st r c hr hc (by omega)) m1 m2 m3 w
end Go.Proofs.Ytblmlglkjmilkac
