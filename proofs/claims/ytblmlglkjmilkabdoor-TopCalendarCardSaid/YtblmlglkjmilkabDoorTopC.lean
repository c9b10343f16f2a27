/-
  noontidetop.TopCalendar: the walk.
-/
import Derived.Test.YtblmlglkjmilkabDoorStmC
namespace Go.Proofs.YtblmlglkjmilkabDoor
open Go.RowKit Go.Lib Cal
attribute [local go_sem] BW.cell BW.frozen
def bs (l : List UInt8) : ByteArray := ⟨l.toArray⟩
set_option maxRecDepth 100000 in
set_option maxHeartbeats 4000000 in
theorem begins2   (w : World) : Calls Tryd.prog 4 #[] w fun e w' => e = .returned (.bool true) ∧ Below w.heap.size w w' := by
  have h0 := fun w => civil_Days 2000 3 1 (I64.sm (by omega)) w
  rw [show dayV 2000 3 1 = 11017 by decide +kernel, show dayE 2000 3 1 = 0 by decide +kernel] at h0
  have h1 := fun w => civil_Len2a 2000 (I64.sm (by omega)) (by decide +kernel) w
  go_enter Tryd.func4, Tryd.ntmps4
  go_wp2_with fail
  refine (h0 _).mono ?_
  rintro e w1 ⟨rfl, hb1⟩
  have B1 : Below w.heap.size w w1 := by (focus (repeat' (first | assumption | exact Below.refl _ _ | refine Below.alloc ?_ ?_ _ | refine Below.setCell ?_ ?_ _ | refine Below.drew ?_ | refine below_drewN ?_ _ | refine Below.trans ?_ (Below.mono (by assumption) ?_) | refine Below.trans ?_ (Below.mono (BW.below _) ?_) | (simp; done) | (simp; omega) | omega)))
  have n1 : w.heap.size ≤ w1.heap.size := B1.size
  clear hb1
  go_wp2_with fail
  refine (h1 _).mono ?_
  rintro e w' ⟨rfl, rfl⟩
  go_wp2_with fail
  go_ret
  exact ⟨rfl, by (focus (repeat' (first | assumption | exact Below.refl _ _ | refine Below.alloc ?_ ?_ _ | refine Below.setCell ?_ ?_ _ | refine Below.drew ?_ | refine below_drewN ?_ _ | refine Below.trans ?_ (Below.mono (by assumption) ?_) | refine Below.trans ?_ (Below.mono (BW.below _) ?_) | (simp; done) | (simp; omega) | omega)))⟩
set_option maxRecDepth 100000 in
set_option maxHeartbeats 4000000 in
theorem TopCalendar_28 (y mo s X V H I Z : Int) (w : World) (S : Signs w) (ta tb tt : ByteArray) (na nb : Nat) (y0 : -39000 ≤ y) (y1 : y ≤ 39000) (m0 : 1 ≤ mo) (m1 : mo ≤ 12) (s0 : 0 ≤ s) (s1 : s ≤ 86399) (X0 : -20000000 ≤ X) (X1 : X ≤ 20000000)
    (hl : ∀ w : World, Calls Tryd.prog 5 #[.int .i64 y, .int .i64 2] w fun e w' => e = .returned (.int .i64 28) ∧ w = w')
    (hX : ∀ w : World, Calls Tryd.prog 6 #[dat y 1 1] w fun e w' => e = .returned (.tuple #[.int .i64 X, .int .i64 0]) ∧ Below w.heap.size w w')
    (hY : ∀ w : World, Calls Tryd.prog 6 #[dat (y + 1) 1 1] w fun e w' => e = .returned (.tuple #[.int .i64 (X + 365), .int .i64 0]) ∧ Below w.heap.size w w')
    (hZ : ∀ w : World, Calls Tryd.prog 6 #[dat (y + 400) 1 1] w fun e w' => e = .returned (.tuple #[.int .i64 (X + 146097), .int .i64 0]) ∧ Below w.heap.size w w')
    (hU : ∀ w : World, Calls Tryd.prog 7 #[.int .i64 X] w fun e w' => e = .returned (.int .i64 V) ∧ Below w.heap.size w w')
    (hV : ∀ w : World, Calls Tryd.prog 7 #[.int .i64 (X + 146097)] w fun e w' => e = .returned (.int .i64 V) ∧ Below w.heap.size w w')
    (hA : ∀ w : World, Calls Tryd.prog 8 #[.int .i64 (X * 86400 + s)] w fun e w' => e = .returned (.tuple #[stp y 1 1 H I Z, .int .i64 0]) ∧ Below w.heap.size w w')
    (hB : ∀ w : World, Calls Tryd.prog 8 #[.int .i64 ((X + 146097) * 86400 + s)] w fun e w' => e = .returned (.tuple #[stp (y + 400) 1 1 H I Z, .int .i64 0]) ∧ Below w.heap.size w w')
    (hta : ∀ w : World, Signs w → Calls Tryd.prog 9 #[stp y 1 1 H I Z] w fun e w' => e = .returned (.string ta) ∧ Below w.heap.size w w')
    (htb : ∀ w : World, Signs w → Calls Tryd.prog 9 #[stp (y + 400) 1 1 H I Z] w fun e w' => e = .returned (.string tb) ∧ Below w.heap.size w w')
    (na0 : (15 : Int) < (na : Int) + 15)
    (nb0 : (15 : Int) < (nb : Int) + 15)
    (na1 : 1 ≤ na)
    (na2 : na ≤ 100)
    (nb1 : 1 ≤ nb)
    (nb2 : nb ≤ 100)
    (sza : ta.size = na + 15)
    (szb : tb.size = nb + 15)
    (exa : ta.extract na (na + 15) = tt)
    (exb : tb.extract nb (nb + 15) = tt)
    : Calls Tryd.prog 3 #[.int .i64 y, .int .i64 mo, .int .i64 s] w fun e w' => e = .returned (.bool true) ∧ Below w.heap.size w w' := by
  have hG := fun w => begins2 w
  have hl1 := fun w => civil_Len1 y w
  have hl2 := hl
  have hl3 := fun w => civil_Len3 y w
  have hl4 := fun w => civil_Len4 y w
  have hl5 := fun w => civil_Len5 y w
  have hl6 := fun w => civil_Len6 y w
  have hl7 := fun w => civil_Len7 y w
  have hl8 := fun w => civil_Len8 y w
  have hl9 := fun w => civil_Len9 y w
  have hl10 := fun w => civil_Len10 y w
  have hl11 := fun w => civil_Len11 y w
  have hl12 := fun w => civil_Len12 y w
  clear hl
  go_enter Tryd.func3, Tryd.ntmps3
  go_wp2_with fail
  refine (hG _).mono ?_
  rintro e u ⟨rfl, hbu⟩
  have Su : Signs u := S.below S.lt hbu
  go_wp2_with fail
  refine wp_loop_rounds 13 ?_
  rw [rounds_succ]
  go_wp2_with fail
  refine (hl1 _).mono ?_
  rintro e u1 ⟨rfl, rfl⟩
  go_wp2_with fail
  rw [rounds_succ]
  go_wp2_with fail
  refine (hl2 _).mono ?_
  rintro e u2 ⟨rfl, rfl⟩
  go_wp2_with fail
  rw [rounds_succ]
  go_wp2_with fail
  refine (hl3 _).mono ?_
  rintro e u3 ⟨rfl, rfl⟩
  go_wp2_with fail
  rw [rounds_succ]
  go_wp2_with fail
  refine (hl4 _).mono ?_
  rintro e u4 ⟨rfl, rfl⟩
  go_wp2_with fail
  rw [rounds_succ]
  go_wp2_with fail
  refine (hl5 _).mono ?_
  rintro e u5 ⟨rfl, rfl⟩
  go_wp2_with fail
  rw [rounds_succ]
  go_wp2_with fail
  refine (hl6 _).mono ?_
  rintro e u6 ⟨rfl, rfl⟩
  go_wp2_with fail
  rw [rounds_succ]
  go_wp2_with fail
  refine (hl7 _).mono ?_
  rintro e u7 ⟨rfl, rfl⟩
  go_wp2_with fail
  rw [rounds_succ]
  go_wp2_with fail
  refine (hl8 _).mono ?_
  rintro e u8 ⟨rfl, rfl⟩
  go_wp2_with fail
  rw [rounds_succ]
  go_wp2_with fail
  refine (hl9 _).mono ?_
  rintro e u9 ⟨rfl, rfl⟩
  go_wp2_with fail
  rw [rounds_succ]
  go_wp2_with fail
  refine (hl10 _).mono ?_
  rintro e u10 ⟨rfl, rfl⟩
  go_wp2_with fail
  rw [rounds_succ]
  go_wp2_with fail
  refine (hl11 _).mono ?_
  rintro e u11 ⟨rfl, rfl⟩
  go_wp2_with fail
  rw [rounds_succ]
  go_wp2_with fail
  refine (hl12 _).mono ?_
  rintro e u12 ⟨rfl, rfl⟩
  go_wp2_with fail
  rw [rounds_succ]
  clear hG hl1 hl2 hl3 hl4 hl5 hl6 hl7 hl8 hl9 hl10 hl11 hl12
  go_wp2_with fail
  refine (hX _).mono ?_
  rintro e x1 ⟨rfl, hb1⟩
  have B1 : Below u.heap.size u x1 := by (focus (repeat' (first | assumption | exact Below.refl _ _ | refine Below.alloc ?_ ?_ _ | refine Below.setCell ?_ ?_ _ | refine Below.drew ?_ | refine below_drewN ?_ _ | refine Below.trans ?_ (Below.mono (by assumption) ?_) | refine Below.trans ?_ (Below.mono (BW.below _) ?_) | (simp; done) | (simp; omega) | omega)))
  have n1 : u.heap.size ≤ x1.heap.size := B1.size
  have s1_0 : u.heap.size + 1 < x1.heap.size := Nat.lt_of_lt_of_le (by first | (simp; done) | (simp; omega) | omega) hb1.size
  have c1_0_0 : x1.cell? ⟨u.heap.size + 1, 0, none⟩ = some (.int .i64 (y + 1)) := (hb1.cell (p := ⟨u.heap.size + 1, 0, none⟩) (by first | (simp; done) | (simp; omega) | omega)).trans (by go_simp)
  have c1_0_1 : x1.cell? ⟨u.heap.size + 1, 1, none⟩ = some (.int .i64 1) := (hb1.cell (p := ⟨u.heap.size + 1, 1, none⟩) (by first | (simp; done) | (simp; omega) | omega)).trans (by go_simp)
  have c1_0_2 : x1.cell? ⟨u.heap.size + 1, 2, none⟩ = some (.int .i64 1) := (hb1.cell (p := ⟨u.heap.size + 1, 2, none⟩) (by first | (simp; done) | (simp; omega) | omega)).trans (by go_simp)
  have s1_1 : u.heap.size + 1 + 1 < x1.heap.size := Nat.lt_of_lt_of_le (by first | (simp; done) | (simp; omega) | omega) hb1.size
  have c1_1_0 : x1.cell? ⟨u.heap.size + 1 + 1, 0, none⟩ = some (.int .i64 (y + 400)) := (hb1.cell (p := ⟨u.heap.size + 1 + 1, 0, none⟩) (by first | (simp; done) | (simp; omega) | omega)).trans (by go_simp)
  have c1_1_1 : x1.cell? ⟨u.heap.size + 1 + 1, 1, none⟩ = some (.int .i64 1) := (hb1.cell (p := ⟨u.heap.size + 1 + 1, 1, none⟩) (by first | (simp; done) | (simp; omega) | omega)).trans (by go_simp)
  have c1_1_2 : x1.cell? ⟨u.heap.size + 1 + 1, 2, none⟩ = some (.int .i64 1) := (hb1.cell (p := ⟨u.heap.size + 1 + 1, 2, none⟩) (by first | (simp; done) | (simp; omega) | omega)).trans (by go_simp)
  clear hb1
  go_wp2_with fail
  refine (hY _).mono ?_
  rintro e x2 ⟨rfl, hb2⟩
  have B2 : Below u.heap.size u x2 := by (focus (repeat' (first | assumption | exact Below.refl _ _ | refine Below.alloc ?_ ?_ _ | refine Below.setCell ?_ ?_ _ | refine Below.drew ?_ | refine below_drewN ?_ _ | refine Below.trans ?_ (Below.mono (by assumption) ?_) | refine Below.trans ?_ (Below.mono (BW.below _) ?_) | (simp; done) | (simp; omega) | omega)))
  have n2 : u.heap.size ≤ x2.heap.size := B2.size
  have s2_0 : u.heap.size + 1 + 1 < x2.heap.size := Nat.lt_of_lt_of_le (by first | (simp; done) | (simp; omega) | omega) hb2.size
  have c2_0_0 : x2.cell? ⟨u.heap.size + 1 + 1, 0, none⟩ = some (.int .i64 (y + 400)) := (hb2.cell (p := ⟨u.heap.size + 1 + 1, 0, none⟩) (by first | (simp; done) | (simp; omega) | omega)).trans (by go_simp)
  have c2_0_1 : x2.cell? ⟨u.heap.size + 1 + 1, 1, none⟩ = some (.int .i64 1) := (hb2.cell (p := ⟨u.heap.size + 1 + 1, 1, none⟩) (by first | (simp; done) | (simp; omega) | omega)).trans (by go_simp)
  have c2_0_2 : x2.cell? ⟨u.heap.size + 1 + 1, 2, none⟩ = some (.int .i64 1) := (hb2.cell (p := ⟨u.heap.size + 1 + 1, 2, none⟩) (by first | (simp; done) | (simp; omega) | omega)).trans (by go_simp)
  clear hb2 B1 c1_0_0 c1_0_1 c1_0_2 c1_1_0 c1_1_1 c1_1_2
  go_wp2_with fail
  refine (hZ _).mono ?_
  rintro e x3 ⟨rfl, hb3⟩
  have B3 : Below u.heap.size u x3 := by (focus (repeat' (first | assumption | exact Below.refl _ _ | refine Below.alloc ?_ ?_ _ | refine Below.setCell ?_ ?_ _ | refine Below.drew ?_ | refine below_drewN ?_ _ | refine Below.trans ?_ (Below.mono (by assumption) ?_) | refine Below.trans ?_ (Below.mono (BW.below _) ?_) | (simp; done) | (simp; omega) | omega)))
  have n3 : u.heap.size ≤ x3.heap.size := B3.size
  clear hb3 B2 c2_0_0 c2_0_1 c2_0_2
  go_wp2_with fail
  refine (hU _).mono ?_
  rintro e x4 ⟨rfl, hb4⟩
  have B4 : Below u.heap.size u x4 := by (focus (repeat' (first | assumption | exact Below.refl _ _ | refine Below.alloc ?_ ?_ _ | refine Below.setCell ?_ ?_ _ | refine Below.drew ?_ | refine below_drewN ?_ _ | refine Below.trans ?_ (Below.mono (by assumption) ?_) | refine Below.trans ?_ (Below.mono (BW.below _) ?_) | (simp; done) | (simp; omega) | omega)))
  have n4 : u.heap.size ≤ x4.heap.size := B4.size
  clear hb4 B3
  go_wp2_with fail
  refine (hV _).mono ?_
  rintro e x5 ⟨rfl, hb5⟩
  have B5 : Below u.heap.size u x5 := by (focus (repeat' (first | assumption | exact Below.refl _ _ | refine Below.alloc ?_ ?_ _ | refine Below.setCell ?_ ?_ _ | refine Below.drew ?_ | refine below_drewN ?_ _ | refine Below.trans ?_ (Below.mono (by assumption) ?_) | refine Below.trans ?_ (Below.mono (BW.below _) ?_) | (simp; done) | (simp; omega) | omega)))
  have n5 : u.heap.size ≤ x5.heap.size := B5.size
  clear hb5 B4
  go_wp2_with fail
  refine (hA _).mono ?_
  rintro e x6 ⟨rfl, hb6⟩
  have B6 : Below u.heap.size u x6 := by (focus (repeat' (first | assumption | exact Below.refl _ _ | refine Below.alloc ?_ ?_ _ | refine Below.setCell ?_ ?_ _ | refine Below.drew ?_ | refine below_drewN ?_ _ | refine Below.trans ?_ (Below.mono (by assumption) ?_) | refine Below.trans ?_ (Below.mono (BW.below _) ?_) | (simp; done) | (simp; omega) | omega)))
  have n6 : u.heap.size ≤ x6.heap.size := B6.size
  clear hb6 B5
  go_wp2_with fail
  refine (hB _).mono ?_
  rintro e x7 ⟨rfl, hb7⟩
  have B7 : Below u.heap.size u x7 := by (focus (repeat' (first | assumption | exact Below.refl _ _ | refine Below.alloc ?_ ?_ _ | refine Below.setCell ?_ ?_ _ | refine Below.drew ?_ | refine below_drewN ?_ _ | refine Below.trans ?_ (Below.mono (by assumption) ?_) | refine Below.trans ?_ (Below.mono (BW.below _) ?_) | (simp; done) | (simp; omega) | omega)))
  have n7 : u.heap.size ≤ x7.heap.size := B7.size
  have s7_0 : x6.heap.size < x7.heap.size := Nat.lt_of_lt_of_le (by first | (simp; done) | (simp; omega) | omega) hb7.size
  have c7_0_0 : x7.cell? ⟨x6.heap.size, 0, none⟩ = some (.int .i64 (y)) := (hb7.cell (p := ⟨x6.heap.size, 0, none⟩) (by first | (simp; done) | (simp; omega) | omega)).trans (by go_simp)
  have c7_0_1 : x7.cell? ⟨x6.heap.size, 1, none⟩ = some (.int .i64 (1)) := (hb7.cell (p := ⟨x6.heap.size, 1, none⟩) (by first | (simp; done) | (simp; omega) | omega)).trans (by go_simp)
  have c7_0_2 : x7.cell? ⟨x6.heap.size, 2, none⟩ = some (.int .i64 (1)) := (hb7.cell (p := ⟨x6.heap.size, 2, none⟩) (by first | (simp; done) | (simp; omega) | omega)).trans (by go_simp)
  have c7_0_3 : x7.cell? ⟨x6.heap.size, 3, none⟩ = some (.int .i64 (H)) := (hb7.cell (p := ⟨x6.heap.size, 3, none⟩) (by first | (simp; done) | (simp; omega) | omega)).trans (by go_simp)
  have c7_0_4 : x7.cell? ⟨x6.heap.size, 4, none⟩ = some (.int .i64 (I)) := (hb7.cell (p := ⟨x6.heap.size, 4, none⟩) (by first | (simp; done) | (simp; omega) | omega)).trans (by go_simp)
  have c7_0_5 : x7.cell? ⟨x6.heap.size, 5, none⟩ = some (.int .i64 (Z)) := (hb7.cell (p := ⟨x6.heap.size, 5, none⟩) (by first | (simp; done) | (simp; omega) | omega)).trans (by go_simp)
  clear hb7 B6
  go_wp2_with fail
  have Bx51 : Below u.heap.size u (x7.alloc (.cells #[.int .i64 (y + 400), .int .i64 (1), .int .i64 (1), .int .i64 (H), .int .i64 (I), .int .i64 (Z)] 31)) := by (focus (repeat' (first | assumption | exact Below.refl _ _ | refine Below.alloc ?_ ?_ _ | refine Below.setCell ?_ ?_ _ | refine Below.drew ?_ | refine below_drewN ?_ _ | refine Below.trans ?_ (Below.mono (by assumption) ?_) | refine Below.trans ?_ (Below.mono (BW.below _) ?_) | (simp; done) | (simp; omega) | omega)))
  have nx51 : u.heap.size ≤ (x7.alloc (.cells #[.int .i64 (y + 400), .int .i64 (1), .int .i64 (1), .int .i64 (H), .int .i64 (I), .int .i64 (Z)] 31)).heap.size := Bx51.size
  have sx51_0 : x6.heap.size < (x7.alloc (.cells #[.int .i64 (y + 400), .int .i64 (1), .int .i64 (1), .int .i64 (H), .int .i64 (I), .int .i64 (Z)] 31)).heap.size := (by first | (simp; done) | (simp; omega) | omega)
  have cx51_0_0 : (x7.alloc (.cells #[.int .i64 (y + 400), .int .i64 (1), .int .i64 (1), .int .i64 (H), .int .i64 (I), .int .i64 (Z)] 31)).cell? ⟨x6.heap.size, 0, none⟩ = some (.int .i64 (y)) := by go_simp
  have cx51_0_1 : (x7.alloc (.cells #[.int .i64 (y + 400), .int .i64 (1), .int .i64 (1), .int .i64 (H), .int .i64 (I), .int .i64 (Z)] 31)).cell? ⟨x6.heap.size, 1, none⟩ = some (.int .i64 (1)) := by go_simp
  have cx51_0_2 : (x7.alloc (.cells #[.int .i64 (y + 400), .int .i64 (1), .int .i64 (1), .int .i64 (H), .int .i64 (I), .int .i64 (Z)] 31)).cell? ⟨x6.heap.size, 2, none⟩ = some (.int .i64 (1)) := by go_simp
  have cx51_0_3 : (x7.alloc (.cells #[.int .i64 (y + 400), .int .i64 (1), .int .i64 (1), .int .i64 (H), .int .i64 (I), .int .i64 (Z)] 31)).cell? ⟨x6.heap.size, 3, none⟩ = some (.int .i64 (H)) := by go_simp
  have cx51_0_4 : (x7.alloc (.cells #[.int .i64 (y + 400), .int .i64 (1), .int .i64 (1), .int .i64 (H), .int .i64 (I), .int .i64 (Z)] 31)).cell? ⟨x6.heap.size, 4, none⟩ = some (.int .i64 (I)) := by go_simp
  have cx51_0_5 : (x7.alloc (.cells #[.int .i64 (y + 400), .int .i64 (1), .int .i64 (1), .int .i64 (H), .int .i64 (I), .int .i64 (Z)] 31)).cell? ⟨x6.heap.size, 5, none⟩ = some (.int .i64 (Z)) := by go_simp
  have sx51_1 : x7.heap.size < (x7.alloc (.cells #[.int .i64 (y + 400), .int .i64 (1), .int .i64 (1), .int .i64 (H), .int .i64 (I), .int .i64 (Z)] 31)).heap.size := (by first | (simp; done) | (simp; omega) | omega)
  have cx51_1_0 : (x7.alloc (.cells #[.int .i64 (y + 400), .int .i64 (1), .int .i64 (1), .int .i64 (H), .int .i64 (I), .int .i64 (Z)] 31)).cell? ⟨x7.heap.size, 0, none⟩ = some (.int .i64 (y + 400)) := by go_simp
  have cx51_1_1 : (x7.alloc (.cells #[.int .i64 (y + 400), .int .i64 (1), .int .i64 (1), .int .i64 (H), .int .i64 (I), .int .i64 (Z)] 31)).cell? ⟨x7.heap.size, 1, none⟩ = some (.int .i64 (1)) := by go_simp
  have cx51_1_2 : (x7.alloc (.cells #[.int .i64 (y + 400), .int .i64 (1), .int .i64 (1), .int .i64 (H), .int .i64 (I), .int .i64 (Z)] 31)).cell? ⟨x7.heap.size, 2, none⟩ = some (.int .i64 (1)) := by go_simp
  have cx51_1_3 : (x7.alloc (.cells #[.int .i64 (y + 400), .int .i64 (1), .int .i64 (1), .int .i64 (H), .int .i64 (I), .int .i64 (Z)] 31)).cell? ⟨x7.heap.size, 3, none⟩ = some (.int .i64 (H)) := by go_simp
  have cx51_1_4 : (x7.alloc (.cells #[.int .i64 (y + 400), .int .i64 (1), .int .i64 (1), .int .i64 (H), .int .i64 (I), .int .i64 (Z)] 31)).cell? ⟨x7.heap.size, 4, none⟩ = some (.int .i64 (I)) := by go_simp
  have cx51_1_5 : (x7.alloc (.cells #[.int .i64 (y + 400), .int .i64 (1), .int .i64 (1), .int .i64 (H), .int .i64 (I), .int .i64 (Z)] 31)).cell? ⟨x7.heap.size, 5, none⟩ = some (.int .i64 (Z)) := by go_simp
  clear B7 c7_0_0 c7_0_1 c7_0_2 c7_0_3 c7_0_4 c7_0_5
  generalize (x7.alloc (.cells #[.int .i64 (y + 400), .int .i64 (1), .int .i64 (1), .int .i64 (H), .int .i64 (I), .int .i64 (Z)] 31)) = x51 at *
  try dsimp only [List.append]
  have Sx : Signs x51 := Su.below Su.lt Bx51
  refine wp_region_bw (by kernel_rfl) (by kernel_rfl) ?_; (repeat (go_big_quiet_step ((go_at_call 9; first | with_reducible exact bw_call (hta _ (Sx.below Sx.lt (BW.below _))) | with_reducible exact bw_call (htb _ (Sx.below Sx.lt (BW.below _))))))); refine wpQuiet_nil ?_; intro _ hw'; obtain ⟨xq, hw''⟩ := hw'; subst hw''
  have Bx52 : Below u.heap.size u xq.val := Bx51.trans (xq.below.mono nx51)
  have nx52 : u.heap.size ≤ xq.val.heap.size := Bx52.size
  have sx52_0 : x6.heap.size < xq.val.heap.size := Nat.lt_of_lt_of_le (by first | (simp; done) | (simp; omega) | omega) xq.below.size
  have cx52_0_0 : xq.val.cell? ⟨x6.heap.size, 0, none⟩ = some (.int .i64 (y)) := (xq.cell (x6.heap.size) 0 (by first | (simp; done) | (simp; omega) | omega)).trans (by go_simp)
  have cx52_0_1 : xq.val.cell? ⟨x6.heap.size, 1, none⟩ = some (.int .i64 (1)) := (xq.cell (x6.heap.size) 1 (by first | (simp; done) | (simp; omega) | omega)).trans (by go_simp)
  have cx52_0_2 : xq.val.cell? ⟨x6.heap.size, 2, none⟩ = some (.int .i64 (1)) := (xq.cell (x6.heap.size) 2 (by first | (simp; done) | (simp; omega) | omega)).trans (by go_simp)
  have cx52_0_3 : xq.val.cell? ⟨x6.heap.size, 3, none⟩ = some (.int .i64 (H)) := (xq.cell (x6.heap.size) 3 (by first | (simp; done) | (simp; omega) | omega)).trans (by go_simp)
  have cx52_0_4 : xq.val.cell? ⟨x6.heap.size, 4, none⟩ = some (.int .i64 (I)) := (xq.cell (x6.heap.size) 4 (by first | (simp; done) | (simp; omega) | omega)).trans (by go_simp)
  have cx52_0_5 : xq.val.cell? ⟨x6.heap.size, 5, none⟩ = some (.int .i64 (Z)) := (xq.cell (x6.heap.size) 5 (by first | (simp; done) | (simp; omega) | omega)).trans (by go_simp)
  have sx52_1 : x7.heap.size < xq.val.heap.size := Nat.lt_of_lt_of_le (by first | (simp; done) | (simp; omega) | omega) xq.below.size
  have cx52_1_0 : xq.val.cell? ⟨x7.heap.size, 0, none⟩ = some (.int .i64 (y + 400)) := (xq.cell (x7.heap.size) 0 (by first | (simp; done) | (simp; omega) | omega)).trans (by go_simp)
  have cx52_1_1 : xq.val.cell? ⟨x7.heap.size, 1, none⟩ = some (.int .i64 (1)) := (xq.cell (x7.heap.size) 1 (by first | (simp; done) | (simp; omega) | omega)).trans (by go_simp)
  have cx52_1_2 : xq.val.cell? ⟨x7.heap.size, 2, none⟩ = some (.int .i64 (1)) := (xq.cell (x7.heap.size) 2 (by first | (simp; done) | (simp; omega) | omega)).trans (by go_simp)
  have cx52_1_3 : xq.val.cell? ⟨x7.heap.size, 3, none⟩ = some (.int .i64 (H)) := (xq.cell (x7.heap.size) 3 (by first | (simp; done) | (simp; omega) | omega)).trans (by go_simp)
  have cx52_1_4 : xq.val.cell? ⟨x7.heap.size, 4, none⟩ = some (.int .i64 (I)) := (xq.cell (x7.heap.size) 4 (by first | (simp; done) | (simp; omega) | omega)).trans (by go_simp)
  have cx52_1_5 : xq.val.cell? ⟨x7.heap.size, 5, none⟩ = some (.int .i64 (Z)) := (xq.cell (x7.heap.size) 5 (by first | (simp; done) | (simp; omega) | omega)).trans (by go_simp)
  clear Bx51 cx51_0_0 cx51_0_1 cx51_0_2 cx51_0_3 cx51_0_4 cx51_0_5 cx51_1_0 cx51_1_1 cx51_1_2 cx51_1_3 cx51_1_4 cx51_1_5
  generalize xq.val = x52 at *
  go_wp2_with fail
  have Bx53 : Below u.heap.size u x52 := by (focus (repeat' (first | assumption | exact Below.refl _ _ | refine Below.alloc ?_ ?_ _ | refine Below.setCell ?_ ?_ _ | refine Below.drew ?_ | refine below_drewN ?_ _ | refine Below.trans ?_ (Below.mono (by assumption) ?_) | refine Below.trans ?_ (Below.mono (BW.below _) ?_) | (simp; done) | (simp; omega) | omega)))
  have nx53 : u.heap.size ≤ x52.heap.size := Bx53.size
  have sx53_0 : x6.heap.size < x52.heap.size := (by first | (simp; done) | (simp; omega) | omega)
  have cx53_0_0 : x52.cell? ⟨x6.heap.size, 0, none⟩ = some (.int .i64 (y)) := by go_simp
  have cx53_0_1 : x52.cell? ⟨x6.heap.size, 1, none⟩ = some (.int .i64 (1)) := by go_simp
  have cx53_0_2 : x52.cell? ⟨x6.heap.size, 2, none⟩ = some (.int .i64 (1)) := by go_simp
  have cx53_0_3 : x52.cell? ⟨x6.heap.size, 3, none⟩ = some (.int .i64 (H)) := by go_simp
  have cx53_0_4 : x52.cell? ⟨x6.heap.size, 4, none⟩ = some (.int .i64 (I)) := by go_simp
  have cx53_0_5 : x52.cell? ⟨x6.heap.size, 5, none⟩ = some (.int .i64 (Z)) := by go_simp
  have sx53_1 : x7.heap.size < x52.heap.size := (by first | (simp; done) | (simp; omega) | omega)
  have cx53_1_0 : x52.cell? ⟨x7.heap.size, 0, none⟩ = some (.int .i64 (y + 400)) := by go_simp
  have cx53_1_1 : x52.cell? ⟨x7.heap.size, 1, none⟩ = some (.int .i64 (1)) := by go_simp
  have cx53_1_2 : x52.cell? ⟨x7.heap.size, 2, none⟩ = some (.int .i64 (1)) := by go_simp
  have cx53_1_3 : x52.cell? ⟨x7.heap.size, 3, none⟩ = some (.int .i64 (H)) := by go_simp
  have cx53_1_4 : x52.cell? ⟨x7.heap.size, 4, none⟩ = some (.int .i64 (I)) := by go_simp
  have cx53_1_5 : x52.cell? ⟨x7.heap.size, 5, none⟩ = some (.int .i64 (Z)) := by go_simp
  clear Bx52 cx52_0_0 cx52_0_1 cx52_0_2 cx52_0_3 cx52_0_4 cx52_0_5 cx52_1_0 cx52_1_1 cx52_1_2 cx52_1_3 cx52_1_4 cx52_1_5
  generalize x52 = x53 at *
  try dsimp only [List.append]
  refine wp_region_bw (by kernel_rfl) (by kernel_rfl) ?_; (repeat (go_big_quiet_step (fail))); refine wpQuiet_nil ?_; intro _ hw'; obtain ⟨xq, hw''⟩ := hw'; subst hw''
  have Bx54 : Below u.heap.size u xq.val := Bx53.trans (xq.below.mono nx53)
  have nx54 : u.heap.size ≤ xq.val.heap.size := Bx54.size
  clear Bx53 cx53_0_0 cx53_0_1 cx53_0_2 cx53_0_3 cx53_0_4 cx53_0_5 cx53_1_0 cx53_1_1 cx53_1_2 cx53_1_3 cx53_1_4 cx53_1_5
  generalize xq.val = x54 at *
  go_wp2_with fail
  go_ret
  exact ⟨rfl, hbu.trans ((show Below u.heap.size u _ by assumption).mono hbu.size)⟩
set_option maxRecDepth 100000 in
set_option maxHeartbeats 4000000 in
theorem TopCalendar_29 (y mo s X V H I Z : Int) (w : World) (S : Signs w) (ta tb tt : ByteArray) (na nb : Nat) (y0 : -39000 ≤ y) (y1 : y ≤ 39000) (m0 : 1 ≤ mo) (m1 : mo ≤ 12) (s0 : 0 ≤ s) (s1 : s ≤ 86399) (X0 : -20000000 ≤ X) (X1 : X ≤ 20000000)
    (hl : ∀ w : World, Calls Tryd.prog 5 #[.int .i64 y, .int .i64 2] w fun e w' => e = .returned (.int .i64 29) ∧ w = w')
    (hX : ∀ w : World, Calls Tryd.prog 6 #[dat y 1 1] w fun e w' => e = .returned (.tuple #[.int .i64 X, .int .i64 0]) ∧ Below w.heap.size w w')
    (hY : ∀ w : World, Calls Tryd.prog 6 #[dat (y + 1) 1 1] w fun e w' => e = .returned (.tuple #[.int .i64 (X + 366), .int .i64 0]) ∧ Below w.heap.size w w')
    (hZ : ∀ w : World, Calls Tryd.prog 6 #[dat (y + 400) 1 1] w fun e w' => e = .returned (.tuple #[.int .i64 (X + 146097), .int .i64 0]) ∧ Below w.heap.size w w')
    (hU : ∀ w : World, Calls Tryd.prog 7 #[.int .i64 X] w fun e w' => e = .returned (.int .i64 V) ∧ Below w.heap.size w w')
    (hV : ∀ w : World, Calls Tryd.prog 7 #[.int .i64 (X + 146097)] w fun e w' => e = .returned (.int .i64 V) ∧ Below w.heap.size w w')
    (hA : ∀ w : World, Calls Tryd.prog 8 #[.int .i64 (X * 86400 + s)] w fun e w' => e = .returned (.tuple #[stp y 1 1 H I Z, .int .i64 0]) ∧ Below w.heap.size w w')
    (hB : ∀ w : World, Calls Tryd.prog 8 #[.int .i64 ((X + 146097) * 86400 + s)] w fun e w' => e = .returned (.tuple #[stp (y + 400) 1 1 H I Z, .int .i64 0]) ∧ Below w.heap.size w w')
    (hta : ∀ w : World, Signs w → Calls Tryd.prog 9 #[stp y 1 1 H I Z] w fun e w' => e = .returned (.string ta) ∧ Below w.heap.size w w')
    (htb : ∀ w : World, Signs w → Calls Tryd.prog 9 #[stp (y + 400) 1 1 H I Z] w fun e w' => e = .returned (.string tb) ∧ Below w.heap.size w w')
    (na0 : (15 : Int) < (na : Int) + 15)
    (nb0 : (15 : Int) < (nb : Int) + 15)
    (na1 : 1 ≤ na)
    (na2 : na ≤ 100)
    (nb1 : 1 ≤ nb)
    (nb2 : nb ≤ 100)
    (sza : ta.size = na + 15)
    (szb : tb.size = nb + 15)
    (exa : ta.extract na (na + 15) = tt)
    (exb : tb.extract nb (nb + 15) = tt)
    : Calls Tryd.prog 3 #[.int .i64 y, .int .i64 mo, .int .i64 s] w fun e w' => e = .returned (.bool true) ∧ Below w.heap.size w w' := by
  have hG := fun w => begins2 w
  have hl1 := fun w => civil_Len1 y w
  have hl2 := hl
  have hl3 := fun w => civil_Len3 y w
  have hl4 := fun w => civil_Len4 y w
  have hl5 := fun w => civil_Len5 y w
  have hl6 := fun w => civil_Len6 y w
  have hl7 := fun w => civil_Len7 y w
  have hl8 := fun w => civil_Len8 y w
  have hl9 := fun w => civil_Len9 y w
  have hl10 := fun w => civil_Len10 y w
  have hl11 := fun w => civil_Len11 y w
  have hl12 := fun w => civil_Len12 y w
  clear hl
  go_enter Tryd.func3, Tryd.ntmps3
  go_wp2_with fail
  refine (hG _).mono ?_
  rintro e u ⟨rfl, hbu⟩
  have Su : Signs u := S.below S.lt hbu
  go_wp2_with fail
  refine wp_loop_rounds 13 ?_
  rw [rounds_succ]
  go_wp2_with fail
  refine (hl1 _).mono ?_
  rintro e u1 ⟨rfl, rfl⟩
  go_wp2_with fail
  rw [rounds_succ]
  go_wp2_with fail
  refine (hl2 _).mono ?_
  rintro e u2 ⟨rfl, rfl⟩
  go_wp2_with fail
  rw [rounds_succ]
  go_wp2_with fail
  refine (hl3 _).mono ?_
  rintro e u3 ⟨rfl, rfl⟩
  go_wp2_with fail
  rw [rounds_succ]
  go_wp2_with fail
  refine (hl4 _).mono ?_
  rintro e u4 ⟨rfl, rfl⟩
  go_wp2_with fail
  rw [rounds_succ]
  go_wp2_with fail
  refine (hl5 _).mono ?_
  rintro e u5 ⟨rfl, rfl⟩
  go_wp2_with fail
  rw [rounds_succ]
  go_wp2_with fail
  refine (hl6 _).mono ?_
  rintro e u6 ⟨rfl, rfl⟩
  go_wp2_with fail
  rw [rounds_succ]
  go_wp2_with fail
  refine (hl7 _).mono ?_
  rintro e u7 ⟨rfl, rfl⟩
  go_wp2_with fail
  rw [rounds_succ]
  go_wp2_with fail
  refine (hl8 _).mono ?_
  rintro e u8 ⟨rfl, rfl⟩
  go_wp2_with fail
  rw [rounds_succ]
  go_wp2_with fail
  refine (hl9 _).mono ?_
  rintro e u9 ⟨rfl, rfl⟩
  go_wp2_with fail
  rw [rounds_succ]
  go_wp2_with fail
  refine (hl10 _).mono ?_
  rintro e u10 ⟨rfl, rfl⟩
  go_wp2_with fail
  rw [rounds_succ]
  go_wp2_with fail
  refine (hl11 _).mono ?_
  rintro e u11 ⟨rfl, rfl⟩
  go_wp2_with fail
  rw [rounds_succ]
  go_wp2_with fail
  refine (hl12 _).mono ?_
  rintro e u12 ⟨rfl, rfl⟩
  go_wp2_with fail
  rw [rounds_succ]
  clear hG hl1 hl2 hl3 hl4 hl5 hl6 hl7 hl8 hl9 hl10 hl11 hl12
  go_wp2_with fail
  refine (hX _).mono ?_
  rintro e x1 ⟨rfl, hb1⟩
  have B1 : Below u.heap.size u x1 := by (focus (repeat' (first | assumption | exact Below.refl _ _ | refine Below.alloc ?_ ?_ _ | refine Below.setCell ?_ ?_ _ | refine Below.drew ?_ | refine below_drewN ?_ _ | refine Below.trans ?_ (Below.mono (by assumption) ?_) | refine Below.trans ?_ (Below.mono (BW.below _) ?_) | (simp; done) | (simp; omega) | omega)))
  have n1 : u.heap.size ≤ x1.heap.size := B1.size
  have s1_0 : u.heap.size + 1 < x1.heap.size := Nat.lt_of_lt_of_le (by first | (simp; done) | (simp; omega) | omega) hb1.size
  have c1_0_0 : x1.cell? ⟨u.heap.size + 1, 0, none⟩ = some (.int .i64 (y + 1)) := (hb1.cell (p := ⟨u.heap.size + 1, 0, none⟩) (by first | (simp; done) | (simp; omega) | omega)).trans (by go_simp)
  have c1_0_1 : x1.cell? ⟨u.heap.size + 1, 1, none⟩ = some (.int .i64 1) := (hb1.cell (p := ⟨u.heap.size + 1, 1, none⟩) (by first | (simp; done) | (simp; omega) | omega)).trans (by go_simp)
  have c1_0_2 : x1.cell? ⟨u.heap.size + 1, 2, none⟩ = some (.int .i64 1) := (hb1.cell (p := ⟨u.heap.size + 1, 2, none⟩) (by first | (simp; done) | (simp; omega) | omega)).trans (by go_simp)
  have s1_1 : u.heap.size + 1 + 1 < x1.heap.size := Nat.lt_of_lt_of_le (by first | (simp; done) | (simp; omega) | omega) hb1.size
  have c1_1_0 : x1.cell? ⟨u.heap.size + 1 + 1, 0, none⟩ = some (.int .i64 (y + 400)) := (hb1.cell (p := ⟨u.heap.size + 1 + 1, 0, none⟩) (by first | (simp; done) | (simp; omega) | omega)).trans (by go_simp)
  have c1_1_1 : x1.cell? ⟨u.heap.size + 1 + 1, 1, none⟩ = some (.int .i64 1) := (hb1.cell (p := ⟨u.heap.size + 1 + 1, 1, none⟩) (by first | (simp; done) | (simp; omega) | omega)).trans (by go_simp)
  have c1_1_2 : x1.cell? ⟨u.heap.size + 1 + 1, 2, none⟩ = some (.int .i64 1) := (hb1.cell (p := ⟨u.heap.size + 1 + 1, 2, none⟩) (by first | (simp; done) | (simp; omega) | omega)).trans (by go_simp)
  clear hb1
  go_wp2_with fail
  refine (hY _).mono ?_
  rintro e x2 ⟨rfl, hb2⟩
  have B2 : Below u.heap.size u x2 := by (focus (repeat' (first | assumption | exact Below.refl _ _ | refine Below.alloc ?_ ?_ _ | refine Below.setCell ?_ ?_ _ | refine Below.drew ?_ | refine below_drewN ?_ _ | refine Below.trans ?_ (Below.mono (by assumption) ?_) | refine Below.trans ?_ (Below.mono (BW.below _) ?_) | (simp; done) | (simp; omega) | omega)))
  have n2 : u.heap.size ≤ x2.heap.size := B2.size
  have s2_0 : u.heap.size + 1 + 1 < x2.heap.size := Nat.lt_of_lt_of_le (by first | (simp; done) | (simp; omega) | omega) hb2.size
  have c2_0_0 : x2.cell? ⟨u.heap.size + 1 + 1, 0, none⟩ = some (.int .i64 (y + 400)) := (hb2.cell (p := ⟨u.heap.size + 1 + 1, 0, none⟩) (by first | (simp; done) | (simp; omega) | omega)).trans (by go_simp)
  have c2_0_1 : x2.cell? ⟨u.heap.size + 1 + 1, 1, none⟩ = some (.int .i64 1) := (hb2.cell (p := ⟨u.heap.size + 1 + 1, 1, none⟩) (by first | (simp; done) | (simp; omega) | omega)).trans (by go_simp)
  have c2_0_2 : x2.cell? ⟨u.heap.size + 1 + 1, 2, none⟩ = some (.int .i64 1) := (hb2.cell (p := ⟨u.heap.size + 1 + 1, 2, none⟩) (by first | (simp; done) | (simp; omega) | omega)).trans (by go_simp)
  clear hb2 B1 c1_0_0 c1_0_1 c1_0_2 c1_1_0 c1_1_1 c1_1_2
  go_wp2_with fail
  refine (hZ _).mono ?_
  rintro e x3 ⟨rfl, hb3⟩
  have B3 : Below u.heap.size u x3 := by (focus (repeat' (first | assumption | exact Below.refl _ _ | refine Below.alloc ?_ ?_ _ | refine Below.setCell ?_ ?_ _ | refine Below.drew ?_ | refine below_drewN ?_ _ | refine Below.trans ?_ (Below.mono (by assumption) ?_) | refine Below.trans ?_ (Below.mono (BW.below _) ?_) | (simp; done) | (simp; omega) | omega)))
  have n3 : u.heap.size ≤ x3.heap.size := B3.size
  clear hb3 B2 c2_0_0 c2_0_1 c2_0_2
  go_wp2_with fail
  refine (hU _).mono ?_
  rintro e x4 ⟨rfl, hb4⟩
  have B4 : Below u.heap.size u x4 := by (focus (repeat' (first | assumption | exact Below.refl _ _ | refine Below.alloc ?_ ?_ _ | refine Below.setCell ?_ ?_ _ | refine Below.drew ?_ | refine below_drewN ?_ _ | refine Below.trans ?_ (Below.mono (by assumption) ?_) | refine Below.trans ?_ (Below.mono (BW.below _) ?_) | (simp; done) | (simp; omega) | omega)))
  have n4 : u.heap.size ≤ x4.heap.size := B4.size
  clear hb4 B3
  go_wp2_with fail
  refine (hV _).mono ?_
  rintro e x5 ⟨rfl, hb5⟩
  have B5 : Below u.heap.size u x5 := by (focus (repeat' (first | assumption | exact Below.refl _ _ | refine Below.alloc ?_ ?_ _ | refine Below.setCell ?_ ?_ _ | refine Below.drew ?_ | refine below_drewN ?_ _ | refine Below.trans ?_ (Below.mono (by assumption) ?_) | refine Below.trans ?_ (Below.mono (BW.below _) ?_) | (simp; done) | (simp; omega) | omega)))
  have n5 : u.heap.size ≤ x5.heap.size := B5.size
  clear hb5 B4
  go_wp2_with fail
  refine (hA _).mono ?_
  rintro e x6 ⟨rfl, hb6⟩
  have B6 : Below u.heap.size u x6 := by (focus (repeat' (first | assumption | exact Below.refl _ _ | refine Below.alloc ?_ ?_ _ | refine Below.setCell ?_ ?_ _ | refine Below.drew ?_ | refine below_drewN ?_ _ | refine Below.trans ?_ (Below.mono (by assumption) ?_) | refine Below.trans ?_ (Below.mono (BW.below _) ?_) | (simp; done) | (simp; omega) | omega)))
  have n6 : u.heap.size ≤ x6.heap.size := B6.size
  clear hb6 B5
  go_wp2_with fail
  refine (hB _).mono ?_
  rintro e x7 ⟨rfl, hb7⟩
  have B7 : Below u.heap.size u x7 := by (focus (repeat' (first | assumption | exact Below.refl _ _ | refine Below.alloc ?_ ?_ _ | refine Below.setCell ?_ ?_ _ | refine Below.drew ?_ | refine below_drewN ?_ _ | refine Below.trans ?_ (Below.mono (by assumption) ?_) | refine Below.trans ?_ (Below.mono (BW.below _) ?_) | (simp; done) | (simp; omega) | omega)))
  have n7 : u.heap.size ≤ x7.heap.size := B7.size
  have s7_0 : x6.heap.size < x7.heap.size := Nat.lt_of_lt_of_le (by first | (simp; done) | (simp; omega) | omega) hb7.size
  have c7_0_0 : x7.cell? ⟨x6.heap.size, 0, none⟩ = some (.int .i64 (y)) := (hb7.cell (p := ⟨x6.heap.size, 0, none⟩) (by first | (simp; done) | (simp; omega) | omega)).trans (by go_simp)
  have c7_0_1 : x7.cell? ⟨x6.heap.size, 1, none⟩ = some (.int .i64 (1)) := (hb7.cell (p := ⟨x6.heap.size, 1, none⟩) (by first | (simp; done) | (simp; omega) | omega)).trans (by go_simp)
  have c7_0_2 : x7.cell? ⟨x6.heap.size, 2, none⟩ = some (.int .i64 (1)) := (hb7.cell (p := ⟨x6.heap.size, 2, none⟩) (by first | (simp; done) | (simp; omega) | omega)).trans (by go_simp)
  have c7_0_3 : x7.cell? ⟨x6.heap.size, 3, none⟩ = some (.int .i64 (H)) := (hb7.cell (p := ⟨x6.heap.size, 3, none⟩) (by first | (simp; done) | (simp; omega) | omega)).trans (by go_simp)
  have c7_0_4 : x7.cell? ⟨x6.heap.size, 4, none⟩ = some (.int .i64 (I)) := (hb7.cell (p := ⟨x6.heap.size, 4, none⟩) (by first | (simp; done) | (simp; omega) | omega)).trans (by go_simp)
  have c7_0_5 : x7.cell? ⟨x6.heap.size, 5, none⟩ = some (.int .i64 (Z)) := (hb7.cell (p := ⟨x6.heap.size, 5, none⟩) (by first | (simp; done) | (simp; omega) | omega)).trans (by go_simp)
  clear hb7 B6
  go_wp2_with fail
  have Bx51 : Below u.heap.size u (x7.alloc (.cells #[.int .i64 (y + 400), .int .i64 (1), .int .i64 (1), .int .i64 (H), .int .i64 (I), .int .i64 (Z)] 31)) := by (focus (repeat' (first | assumption | exact Below.refl _ _ | refine Below.alloc ?_ ?_ _ | refine Below.setCell ?_ ?_ _ | refine Below.drew ?_ | refine below_drewN ?_ _ | refine Below.trans ?_ (Below.mono (by assumption) ?_) | refine Below.trans ?_ (Below.mono (BW.below _) ?_) | (simp; done) | (simp; omega) | omega)))
  have nx51 : u.heap.size ≤ (x7.alloc (.cells #[.int .i64 (y + 400), .int .i64 (1), .int .i64 (1), .int .i64 (H), .int .i64 (I), .int .i64 (Z)] 31)).heap.size := Bx51.size
  have sx51_0 : x6.heap.size < (x7.alloc (.cells #[.int .i64 (y + 400), .int .i64 (1), .int .i64 (1), .int .i64 (H), .int .i64 (I), .int .i64 (Z)] 31)).heap.size := (by first | (simp; done) | (simp; omega) | omega)
  have cx51_0_0 : (x7.alloc (.cells #[.int .i64 (y + 400), .int .i64 (1), .int .i64 (1), .int .i64 (H), .int .i64 (I), .int .i64 (Z)] 31)).cell? ⟨x6.heap.size, 0, none⟩ = some (.int .i64 (y)) := by go_simp
  have cx51_0_1 : (x7.alloc (.cells #[.int .i64 (y + 400), .int .i64 (1), .int .i64 (1), .int .i64 (H), .int .i64 (I), .int .i64 (Z)] 31)).cell? ⟨x6.heap.size, 1, none⟩ = some (.int .i64 (1)) := by go_simp
  have cx51_0_2 : (x7.alloc (.cells #[.int .i64 (y + 400), .int .i64 (1), .int .i64 (1), .int .i64 (H), .int .i64 (I), .int .i64 (Z)] 31)).cell? ⟨x6.heap.size, 2, none⟩ = some (.int .i64 (1)) := by go_simp
  have cx51_0_3 : (x7.alloc (.cells #[.int .i64 (y + 400), .int .i64 (1), .int .i64 (1), .int .i64 (H), .int .i64 (I), .int .i64 (Z)] 31)).cell? ⟨x6.heap.size, 3, none⟩ = some (.int .i64 (H)) := by go_simp
  have cx51_0_4 : (x7.alloc (.cells #[.int .i64 (y + 400), .int .i64 (1), .int .i64 (1), .int .i64 (H), .int .i64 (I), .int .i64 (Z)] 31)).cell? ⟨x6.heap.size, 4, none⟩ = some (.int .i64 (I)) := by go_simp
  have cx51_0_5 : (x7.alloc (.cells #[.int .i64 (y + 400), .int .i64 (1), .int .i64 (1), .int .i64 (H), .int .i64 (I), .int .i64 (Z)] 31)).cell? ⟨x6.heap.size, 5, none⟩ = some (.int .i64 (Z)) := by go_simp
  have sx51_1 : x7.heap.size < (x7.alloc (.cells #[.int .i64 (y + 400), .int .i64 (1), .int .i64 (1), .int .i64 (H), .int .i64 (I), .int .i64 (Z)] 31)).heap.size := (by first | (simp; done) | (simp; omega) | omega)
  have cx51_1_0 : (x7.alloc (.cells #[.int .i64 (y + 400), .int .i64 (1), .int .i64 (1), .int .i64 (H), .int .i64 (I), .int .i64 (Z)] 31)).cell? ⟨x7.heap.size, 0, none⟩ = some (.int .i64 (y + 400)) := by go_simp
  have cx51_1_1 : (x7.alloc (.cells #[.int .i64 (y + 400), .int .i64 (1), .int .i64 (1), .int .i64 (H), .int .i64 (I), .int .i64 (Z)] 31)).cell? ⟨x7.heap.size, 1, none⟩ = some (.int .i64 (1)) := by go_simp
  have cx51_1_2 : (x7.alloc (.cells #[.int .i64 (y + 400), .int .i64 (1), .int .i64 (1), .int .i64 (H), .int .i64 (I), .int .i64 (Z)] 31)).cell? ⟨x7.heap.size, 2, none⟩ = some (.int .i64 (1)) := by go_simp
  have cx51_1_3 : (x7.alloc (.cells #[.int .i64 (y + 400), .int .i64 (1), .int .i64 (1), .int .i64 (H), .int .i64 (I), .int .i64 (Z)] 31)).cell? ⟨x7.heap.size, 3, none⟩ = some (.int .i64 (H)) := by go_simp
  have cx51_1_4 : (x7.alloc (.cells #[.int .i64 (y + 400), .int .i64 (1), .int .i64 (1), .int .i64 (H), .int .i64 (I), .int .i64 (Z)] 31)).cell? ⟨x7.heap.size, 4, none⟩ = some (.int .i64 (I)) := by go_simp
  have cx51_1_5 : (x7.alloc (.cells #[.int .i64 (y + 400), .int .i64 (1), .int .i64 (1), .int .i64 (H), .int .i64 (I), .int .i64 (Z)] 31)).cell? ⟨x7.heap.size, 5, none⟩ = some (.int .i64 (Z)) := by go_simp
  clear B7 c7_0_0 c7_0_1 c7_0_2 c7_0_3 c7_0_4 c7_0_5
  generalize (x7.alloc (.cells #[.int .i64 (y + 400), .int .i64 (1), .int .i64 (1), .int .i64 (H), .int .i64 (I), .int .i64 (Z)] 31)) = x51 at *
  try dsimp only [List.append]
  have Sx : Signs x51 := Su.below Su.lt Bx51
  refine wp_region_bw (by kernel_rfl) (by kernel_rfl) ?_; (repeat (go_big_quiet_step ((go_at_call 9; first | with_reducible exact bw_call (hta _ (Sx.below Sx.lt (BW.below _))) | with_reducible exact bw_call (htb _ (Sx.below Sx.lt (BW.below _))))))); refine wpQuiet_nil ?_; intro _ hw'; obtain ⟨xq, hw''⟩ := hw'; subst hw''
  have Bx52 : Below u.heap.size u xq.val := Bx51.trans (xq.below.mono nx51)
  have nx52 : u.heap.size ≤ xq.val.heap.size := Bx52.size
  have sx52_0 : x6.heap.size < xq.val.heap.size := Nat.lt_of_lt_of_le (by first | (simp; done) | (simp; omega) | omega) xq.below.size
  have cx52_0_0 : xq.val.cell? ⟨x6.heap.size, 0, none⟩ = some (.int .i64 (y)) := (xq.cell (x6.heap.size) 0 (by first | (simp; done) | (simp; omega) | omega)).trans (by go_simp)
  have cx52_0_1 : xq.val.cell? ⟨x6.heap.size, 1, none⟩ = some (.int .i64 (1)) := (xq.cell (x6.heap.size) 1 (by first | (simp; done) | (simp; omega) | omega)).trans (by go_simp)
  have cx52_0_2 : xq.val.cell? ⟨x6.heap.size, 2, none⟩ = some (.int .i64 (1)) := (xq.cell (x6.heap.size) 2 (by first | (simp; done) | (simp; omega) | omega)).trans (by go_simp)
  have cx52_0_3 : xq.val.cell? ⟨x6.heap.size, 3, none⟩ = some (.int .i64 (H)) := (xq.cell (x6.heap.size) 3 (by first | (simp; done) | (simp; omega) | omega)).trans (by go_simp)
  have cx52_0_4 : xq.val.cell? ⟨x6.heap.size, 4, none⟩ = some (.int .i64 (I)) := (xq.cell (x6.heap.size) 4 (by first | (simp; done) | (simp; omega) | omega)).trans (by go_simp)
  have cx52_0_5 : xq.val.cell? ⟨x6.heap.size, 5, none⟩ = some (.int .i64 (Z)) := (xq.cell (x6.heap.size) 5 (by first | (simp; done) | (simp; omega) | omega)).trans (by go_simp)
  have sx52_1 : x7.heap.size < xq.val.heap.size := Nat.lt_of_lt_of_le (by first | (simp; done) | (simp; omega) | omega) xq.below.size
  have cx52_1_0 : xq.val.cell? ⟨x7.heap.size, 0, none⟩ = some (.int .i64 (y + 400)) := (xq.cell (x7.heap.size) 0 (by first | (simp; done) | (simp; omega) | omega)).trans (by go_simp)
  have cx52_1_1 : xq.val.cell? ⟨x7.heap.size, 1, none⟩ = some (.int .i64 (1)) := (xq.cell (x7.heap.size) 1 (by first | (simp; done) | (simp; omega) | omega)).trans (by go_simp)
  have cx52_1_2 : xq.val.cell? ⟨x7.heap.size, 2, none⟩ = some (.int .i64 (1)) := (xq.cell (x7.heap.size) 2 (by first | (simp; done) | (simp; omega) | omega)).trans (by go_simp)
  have cx52_1_3 : xq.val.cell? ⟨x7.heap.size, 3, none⟩ = some (.int .i64 (H)) := (xq.cell (x7.heap.size) 3 (by first | (simp; done) | (simp; omega) | omega)).trans (by go_simp)
  have cx52_1_4 : xq.val.cell? ⟨x7.heap.size, 4, none⟩ = some (.int .i64 (I)) := (xq.cell (x7.heap.size) 4 (by first | (simp; done) | (simp; omega) | omega)).trans (by go_simp)
  have cx52_1_5 : xq.val.cell? ⟨x7.heap.size, 5, none⟩ = some (.int .i64 (Z)) := (xq.cell (x7.heap.size) 5 (by first | (simp; done) | (simp; omega) | omega)).trans (by go_simp)
  clear Bx51 cx51_0_0 cx51_0_1 cx51_0_2 cx51_0_3 cx51_0_4 cx51_0_5 cx51_1_0 cx51_1_1 cx51_1_2 cx51_1_3 cx51_1_4 cx51_1_5
  generalize xq.val = x52 at *
  go_wp2_with fail
  have Bx53 : Below u.heap.size u x52 := by (focus (repeat' (first | assumption | exact Below.refl _ _ | refine Below.alloc ?_ ?_ _ | refine Below.setCell ?_ ?_ _ | refine Below.drew ?_ | refine below_drewN ?_ _ | refine Below.trans ?_ (Below.mono (by assumption) ?_) | refine Below.trans ?_ (Below.mono (BW.below _) ?_) | (simp; done) | (simp; omega) | omega)))
  have nx53 : u.heap.size ≤ x52.heap.size := Bx53.size
  have sx53_0 : x6.heap.size < x52.heap.size := (by first | (simp; done) | (simp; omega) | omega)
  have cx53_0_0 : x52.cell? ⟨x6.heap.size, 0, none⟩ = some (.int .i64 (y)) := by go_simp
  have cx53_0_1 : x52.cell? ⟨x6.heap.size, 1, none⟩ = some (.int .i64 (1)) := by go_simp
  have cx53_0_2 : x52.cell? ⟨x6.heap.size, 2, none⟩ = some (.int .i64 (1)) := by go_simp
  have cx53_0_3 : x52.cell? ⟨x6.heap.size, 3, none⟩ = some (.int .i64 (H)) := by go_simp
  have cx53_0_4 : x52.cell? ⟨x6.heap.size, 4, none⟩ = some (.int .i64 (I)) := by go_simp
  have cx53_0_5 : x52.cell? ⟨x6.heap.size, 5, none⟩ = some (.int .i64 (Z)) := by go_simp
  have sx53_1 : x7.heap.size < x52.heap.size := (by first | (simp; done) | (simp; omega) | omega)
  have cx53_1_0 : x52.cell? ⟨x7.heap.size, 0, none⟩ = some (.int .i64 (y + 400)) := by go_simp
  have cx53_1_1 : x52.cell? ⟨x7.heap.size, 1, none⟩ = some (.int .i64 (1)) := by go_simp
  have cx53_1_2 : x52.cell? ⟨x7.heap.size, 2, none⟩ = some (.int .i64 (1)) := by go_simp
  have cx53_1_3 : x52.cell? ⟨x7.heap.size, 3, none⟩ = some (.int .i64 (H)) := by go_simp
  have cx53_1_4 : x52.cell? ⟨x7.heap.size, 4, none⟩ = some (.int .i64 (I)) := by go_simp
  have cx53_1_5 : x52.cell? ⟨x7.heap.size, 5, none⟩ = some (.int .i64 (Z)) := by go_simp
  clear Bx52 cx52_0_0 cx52_0_1 cx52_0_2 cx52_0_3 cx52_0_4 cx52_0_5 cx52_1_0 cx52_1_1 cx52_1_2 cx52_1_3 cx52_1_4 cx52_1_5
  generalize x52 = x53 at *
  try dsimp only [List.append]
  refine wp_region_bw (by kernel_rfl) (by kernel_rfl) ?_; (repeat (go_big_quiet_step (fail))); refine wpQuiet_nil ?_; intro _ hw'; obtain ⟨xq, hw''⟩ := hw'; subst hw''
  have Bx54 : Below u.heap.size u xq.val := Bx53.trans (xq.below.mono nx53)
  have nx54 : u.heap.size ≤ xq.val.heap.size := Bx54.size
  clear Bx53 cx53_0_0 cx53_0_1 cx53_0_2 cx53_0_3 cx53_0_4 cx53_0_5 cx53_1_0 cx53_1_1 cx53_1_2 cx53_1_3 cx53_1_4 cx53_1_5
  generalize xq.val = x54 at *
  go_wp2_with fail
  go_ret
  exact ⟨rfl, hbu.trans ((show Below u.heap.size u _ by assumption).mono hbu.size)⟩
set_option maxRecDepth 100000 in
set_option maxHeartbeats 4000000 in
theorem TopCalendar_o0 (y mo s : Int) (h : y < -39000) (w : World) : Calls Tryd.prog 3 #[.int .i64 y, .int .i64 mo, .int .i64 s] w fun e w' => e = .returned (.bool true) ∧ Below w.heap.size w w' := by
  have hG := fun w => begins2 w
  go_enter Tryd.func3, Tryd.ntmps3
  go_wp2_with fail
  refine (hG _).mono ?_
  rintro e u ⟨rfl, hbu⟩
  clear hG
  go_wp2_with fail
  go_ret
  exact ⟨rfl, hbu⟩
set_option maxRecDepth 100000 in
set_option maxHeartbeats 4000000 in
theorem TopCalendar_o1 (y mo s : Int) (n0 : -39000 ≤ y) (h : 39000 < y) (w : World) : Calls Tryd.prog 3 #[.int .i64 y, .int .i64 mo, .int .i64 s] w fun e w' => e = .returned (.bool true) ∧ Below w.heap.size w w' := by
  have hG := fun w => begins2 w
  go_enter Tryd.func3, Tryd.ntmps3
  go_wp2_with fail
  refine (hG _).mono ?_
  rintro e u ⟨rfl, hbu⟩
  clear hG
  go_wp2_with fail
  go_ret
  exact ⟨rfl, hbu⟩
set_option maxRecDepth 100000 in
set_option maxHeartbeats 4000000 in
theorem TopCalendar_o2 (y mo s : Int) (n0 : -39000 ≤ y) (n1 : y ≤ 39000) (h : mo < 1) (w : World) : Calls Tryd.prog 3 #[.int .i64 y, .int .i64 mo, .int .i64 s] w fun e w' => e = .returned (.bool true) ∧ Below w.heap.size w w' := by
  have hG := fun w => begins2 w
  go_enter Tryd.func3, Tryd.ntmps3
  go_wp2_with fail
  refine (hG _).mono ?_
  rintro e u ⟨rfl, hbu⟩
  clear hG
  go_wp2_with fail
  go_ret
  exact ⟨rfl, hbu⟩
set_option maxRecDepth 100000 in
set_option maxHeartbeats 4000000 in
theorem TopCalendar_o3 (y mo s : Int) (n0 : -39000 ≤ y) (n1 : y ≤ 39000) (n2 : 1 ≤ mo) (h : 12 < mo) (w : World) : Calls Tryd.prog 3 #[.int .i64 y, .int .i64 mo, .int .i64 s] w fun e w' => e = .returned (.bool true) ∧ Below w.heap.size w w' := by
  have hG := fun w => begins2 w
  go_enter Tryd.func3, Tryd.ntmps3
  go_wp2_with fail
  refine (hG _).mono ?_
  rintro e u ⟨rfl, hbu⟩
  clear hG
  go_wp2_with fail
  go_ret
  exact ⟨rfl, hbu⟩
set_option maxRecDepth 100000 in
set_option maxHeartbeats 4000000 in
theorem TopCalendar_o4 (y mo s : Int) (n0 : -39000 ≤ y) (n1 : y ≤ 39000) (n2 : 1 ≤ mo) (n3 : mo ≤ 12) (h : s < 0) (w : World) : Calls Tryd.prog 3 #[.int .i64 y, .int .i64 mo, .int .i64 s] w fun e w' => e = .returned (.bool true) ∧ Below w.heap.size w w' := by
  have hG := fun w => begins2 w
  go_enter Tryd.func3, Tryd.ntmps3
  go_wp2_with fail
  refine (hG _).mono ?_
  rintro e u ⟨rfl, hbu⟩
  clear hG
  go_wp2_with fail
  go_ret
  exact ⟨rfl, hbu⟩
set_option maxRecDepth 100000 in
set_option maxHeartbeats 4000000 in
theorem TopCalendar_o5 (y mo s : Int) (n0 : -39000 ≤ y) (n1 : y ≤ 39000) (n2 : 1 ≤ mo) (n3 : mo ≤ 12) (n4 : 0 ≤ s) (h : 86399 < s) (w : World) : Calls Tryd.prog 3 #[.int .i64 y, .int .i64 mo, .int .i64 s] w fun e w' => e = .returned (.bool true) ∧ Below w.heap.size w w' := by
  have hG := fun w => begins2 w
  go_enter Tryd.func3, Tryd.ntmps3
  go_wp2_with fail
  refine (hG _).mono ?_
  rintro e u ⟨rfl, hbu⟩
  clear hG
  go_wp2_with fail
  go_ret
  exact ⟨rfl, hbu⟩
theorem dec_pos (n : Nat) : 1 ≤ (dec n).length := by
  rw [dec]
  split <;> simp
theorem pads_2 {n : Nat} (h : n < 100) : (pads n 2).length = 2 := by
  have := dec_len 1 n (by omega)
  have p := dec_pos n
  unfold pads
  simp
  omega
theorem st_split (y : Int) (h i s : Nat) : stText y 1 1 h i s = ((if y < 0 then [45] else []) ++ pads y.natAbs 4) ++ ([45] ++ pads 1 2 ++ [45] ++ pads 1 2 ++ [84] ++ pads h 2 ++ [58] ++ pads i 2 ++ [58] ++ pads s 2) := by
  unfold stText
  simp only [List.append_assoc]
theorem tail_cut (a t : List UInt8) (h : t.length = 15) : (bs (a ++ t)).size = a.length + 15 ∧ (bs (a ++ t)).extract a.length (a.length + 15) = bs t := by
  refine ⟨by show (a ++ t).length = _; simp [h], ?_⟩
  apply ByteArray.ext
  simp [bs, ByteArray.data_extract, h]
  exact List.take_of_length_le (by omega)
set_option maxHeartbeats 2000000 in
theorem TopCalendar_in (y mo s : Int) (y0 : -39000 ≤ y) (y1 : y ≤ 39000) (m0 : 1 ≤ mo) (m1 : mo ≤ 12) (s0 : 0 ≤ s) (s1 : s ≤ 86399) (w : World) (S : Signs w) : Calls Tryd.prog 3 #[.int .i64 y, .int .i64 mo, .int .i64 s] w fun e w' => e = .returned (.bool true) ∧ Below w.heap.size w w' := by
  have r : ∀ z : Int, -40000 ≤ z → z ≤ 40000 → rightB z 1 1 = true := fun z h0 h1 => (right_iff z 1 1).2 ⟨h0, h1, by omega, by omega, by omega, by simp [mlen]⟩
  have hday : ∀ z : Int, -40000 ≤ z → z ≤ 40000 → ∀ w : World, Calls Tryd.prog 6 #[dat z 1 1] w fun e w' => e = .returned (.tuple #[.int .i64 (Cal.ahead z), .int .i64 0]) ∧ Below w.heap.size w w' := fun z h0 h1 w => by
    have := civil_Days z 1 1 (I64.sm (by omega)) w
    rwa [show dayV z 1 1 = Cal.ahead z by unfold dayV; rw [if_pos (r z h0 h1)]; unfold numb cum; simp; try omega, show dayE z 1 1 = 0 by unfold dayE; rw [if_pos (r z h0 h1)]] at this
  have hX := hday y (by omega) (by omega)
  have hY := hday (y + 1) (by omega) (by omega)
  have hZ := hday (y + 400) (by omega) (by omega)
  have e1 := ahead_succ y
  have e2 : Cal.ahead (y + 400) = Cal.ahead y + 146097 := by unfold Cal.ahead leaps; omega
  have b0 : -20000000 ≤ Cal.ahead y := by unfold Cal.ahead leaps; omega
  have b1 : Cal.ahead y ≤ 20000000 := by unfold Cal.ahead leaps; omega
  rw [e2] at hZ
  have hU := fun w => civil_Weekday (Cal.ahead y) (I64.sm (by omega)) w
  have hV := fun w => civil_Weekday (Cal.ahead y + 146097) (I64.sm (by omega)) w
  rw [show wday (Cal.ahead y + 146097) = wday (Cal.ahead y) by unfold wday; omega] at hV
  have ok : ∀ z : Int, -40000 ≤ z → z ≤ 40000 → dtOk (Cal.ahead z) = true ∧ dateY (Cal.ahead z) = z ∧ dateM (Cal.ahead z) = 1 ∧ dateD (Cal.ahead z) = 1 := fun z h0 h1 => by
    obtain ⟨a, b, c⟩ := date_of z 1 1 (r z h0 h1)
    rw [show numb z 1 1 = Cal.ahead z by unfold numb cum; simp; try omega] at a b c
    refine ⟨?_, a, b, c⟩
    unfold dtOk
    have : -16000000 ≤ Cal.ahead z ∧ Cal.ahead z ≤ 16000000 := by unfold Cal.ahead leaps; omega
    simp only [decide_eq_true_eq]
    omega
  obtain ⟨H, hH⟩ : ∃ H : Nat, (H : Int) = s / 3600 := ⟨(s / 3600).toNat, by omega⟩
  obtain ⟨I, hI⟩ : ∃ I : Nat, (I : Int) = s % 3600 / 60 := ⟨(s % 3600 / 60).toNat, by omega⟩
  obtain ⟨Z, hZZ⟩ : ∃ Z : Nat, (Z : Int) = s % 60 := ⟨(s % 60).toNat, by omega⟩
  have hof : ∀ z : Int, -40000 ≤ z → z ≤ 40000 → ∀ w : World, Calls Tryd.prog 8 #[.int .i64 (Cal.ahead z * 86400 + s)] w fun e w' => e = .returned (.tuple #[stp z 1 1 H I Z, .int .i64 0]) ∧ Below w.heap.size w w' := fun z h0 h1 w => by
    obtain ⟨o, a, b, c⟩ := ok z h0 h1
    have d1 : (Cal.ahead z * 86400 + s) / 86400 = Cal.ahead z := by omega
    have d2 : (Cal.ahead z * 86400 + s) % 86400 = s := by omega
    have kt : I64 (Cal.ahead z * 86400 + s) := by
      have : -16000000 ≤ Cal.ahead z ∧ Cal.ahead z ≤ 16000000 := by unfold Cal.ahead leaps; omega
      unfold I64
      omega
    have := stamp_Of (Cal.ahead z * 86400 + s) kt (by rw [d1]; exact o) w
    rwa [d1, d2, a, b, c, ← hH, ← hI, ← hZZ] at this
  have hA := hof y (by omega) (by omega)
  have hB := hof (y + 400) (by omega) (by omega)
  rw [e2] at hB
  have st : ∀ z : Int, -40000 ≤ z → z ≤ 40000 → StOk z (1 : Nat) (1 : Nat) (H : Nat) (I : Nat) (Z : Nat) := fun z h0 h1 => ⟨r z h0 h1, by omega, by omega, by omega, by omega, by omega, by omega⟩
  have hta := fun w S => stamp_Text (st y (by omega) (by omega)) w S
  have htb := fun w S => stamp_Text (st (y + 400) (by omega) (by omega)) w S
  rw [st_split] at hta htb
  have lt : ([45] ++ pads 1 2 ++ [45] ++ pads 1 2 ++ [84] ++ pads H 2 ++ [58] ++ pads I 2 ++ [58] ++ pads Z 2 : List UInt8).length = 15 := by
    simp [pads_2 (show 1 < 100 by omega), pads_2 (show H < 100 by omega), pads_2 (show I < 100 by omega), pads_2 (show Z < 100 by omega)]
  have la : ∀ z : Int, -40000 ≤ z → z ≤ 40000 → 1 ≤ ((if z < 0 then [45] else []) ++ pads z.natAbs 4 : List UInt8).length ∧ ((if z < 0 then [45] else []) ++ pads z.natAbs 4 : List UInt8).length ≤ 100 := fun z h0 h1 => by
    have p := dec_pos z.natAbs
    have q := pads_len (n := z.natAbs) (k := 4) (by omega) (by omega)
    have : (dec z.natAbs).length ≤ (pads z.natAbs 4).length := by unfold pads; simp
    rw [List.length_append]
    split <;> simp <;> omega
  generalize ([45] ++ pads 1 2 ++ [45] ++ pads 1 2 ++ [84] ++ pads H 2 ++ [58] ++ pads I 2 ++ [58] ++ pads Z 2 : List UInt8) = T at *
  have lA := la y (by omega) (by omega)
  have lB := la (y + 400) (by omega) (by omega)
  generalize ((if y < 0 then [45] else []) ++ pads y.natAbs 4 : List UInt8) = A at *
  generalize ((if y + 400 < 0 then [45] else []) ++ pads (y + 400).natAbs 4 : List UInt8) = B at *
  obtain ⟨sA, xA⟩ := tail_cut A T lt
  obtain ⟨sB, xB⟩ := tail_cut B T lt
  rcases lp_01 y with ⟨l1, l2⟩ | ⟨l1, l2⟩
  · rw [show Cal.ahead (y + 1) = Cal.ahead y + 365 by omega] at hY
    exact TopCalendar_28 y mo s (Cal.ahead y) (wday (Cal.ahead y)) H I Z w S (bs (A ++ T)) (bs (B ++ T)) (bs T) A.length B.length y0 y1 m0 m1 s0 s1 b0 b1 (fun w => civil_Len2b y (I64.sm (by omega)) (by assumption) w) hX hY hZ hU hV hA hB hta htb (by omega) (by omega) lA.1 lA.2 lB.1 lB.2 sA sB xA xB
  · rw [show Cal.ahead (y + 1) = Cal.ahead y + 366 by omega] at hY
    exact TopCalendar_29 y mo s (Cal.ahead y) (wday (Cal.ahead y)) H I Z w S (bs (A ++ T)) (bs (B ++ T)) (bs T) A.length B.length y0 y1 m0 m1 s0 s1 b0 b1 (fun w => civil_Len2a y (I64.sm (by omega)) (by assumption) w) hX hY hZ hU hV hA hB hta htb (by omega) (by omega) lA.1 lA.2 lB.1 lB.2 sA sB xA xB
theorem TopCalendar_walk (y mo s : Int) (w : World) (S : Signs w) : Calls Tryd.prog 3 #[.int .i64 y, .int .i64 mo, .int .i64 s] w fun e w' => e = .returned (.bool true) ∧ Below w.heap.size w w' := by
  by_cases n0 : -39000 ≤ y
  case neg => exact TopCalendar_o0 y mo s (by omega) w
  by_cases n1 : y ≤ 39000
  case neg => exact TopCalendar_o1 y mo s n0 (by omega) w
  by_cases n2 : 1 ≤ mo
  case neg => exact TopCalendar_o2 y mo s n0 n1 (by omega) w
  by_cases n3 : mo ≤ 12
  case neg => exact TopCalendar_o3 y mo s n0 n1 n2 (by omega) w
  by_cases n4 : 0 ≤ s
  case neg => exact TopCalendar_o4 y mo s n0 n1 n2 n3 (by omega) w
  by_cases n5 : s ≤ 86399
  case neg => exact TopCalendar_o5 y mo s n0 n1 n2 n3 n4 (by omega) w
  exact TopCalendar_in y mo s n0 n1 n2 n3 n4 n5 w S
end Go.Proofs.YtblmlglkjmilkabDoor
