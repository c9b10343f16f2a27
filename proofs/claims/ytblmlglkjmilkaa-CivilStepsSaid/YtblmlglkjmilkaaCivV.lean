/-
  noontidelaw03: lives.
-/
import Derived.Test.YtblmlglkjmilkaaCivF
namespace Go.Proofs.Ytblmlglkjmilkaa
open Go.RowKit Cal
attribute [local go_sem] BW.cell BW.frozen

set_option maxRecDepth 100000 in
set_option maxHeartbeats 4000000 in
theorem civ_lives (w : World) : Calls Try.prog 60 #[] w fun e w' => e = .returned (.bool true) ∧ Below w.heap.size w w' := by
  have q0 : dayV 1970 1 1 = 0 := by decide
  have q1 : dayE 1970 1 1 = 0 := by decide
  have q2 : dayV 2000 3 1 = 11017 := by decide
  have q3 : dayE 2000 3 1 = 0 := by decide
  have q4 : dtY (-719529) = -1 := by decide
  have q5 : dtM (-719529) = 12 := by decide
  have q6 : dtD (-719529) = 31 := by decide
  have q7 : dtE (-719529) = 0 := by decide
  have q8 : dayV 1900 2 29 = 0 := by decide
  have q9 : dayE 1900 2 29 = 1 := by decide
  have q10 : dtY 1099511627776 = 0 := by decide
  have q11 : dtM 1099511627776 = 0 := by decide
  have q12 : dtD 1099511627776 = 0 := by decide
  have q13 : dtE 1099511627776 = 1 := by decide
  have q14 : ydV 2000 12 31 = 366 := by decide
  have q15 : dayE 2000 12 31 = 0 := by decide
  have q16 : ydV 40001 1 1 = 0 := by decide
  have q17 : dayE 40001 1 1 = 1 := by decide
  have q18 : wday 0 = 4 := by decide
  have q19 : wday (-1) = 3 := by decide
  have q20 : wday 3 = 0 := by decide
  have q21 : lpB 2000 = true := by decide
  have q22 : lpB 1900 = false := by decide
  have q23 : lpB (-4) = true := by decide
  have q24 : lpB 0 = true := by decide
  have q25 : mlen 2001 2 = 28 := by decide
  have q26 : mlen 2001 13 = 0 := by decide
  have q27 : mlen 2001 12 = 31 := by decide
  have q28 : rightB 0 2 29 = true := by decide
  have q29 : rightB 1 4 31 = false := by decide
  have q30 : cmp3 1 2 3 1 3 0 = -1 := by decide
  have q31 : cmp3 0 0 2 0 0 1 = 1 := by decide
  have q32 : cmp3 0 0 0 0 0 0 = 0 := by decide
  go_enter Try.func60, Try.ntmps60
  go_wp2_with fail
  refine (civil_Days _ _ _ (I64.sm (by omega)) _).mono ?_
  rintro e w1 ⟨rfl, hb1⟩
  have B1 : Below w.heap.size w w1 := by (focus (repeat' (first | assumption | exact Below.refl _ _ | refine Below.alloc ?_ ?_ _ | refine Below.setCell ?_ ?_ _ | refine Below.drew ?_ | refine below_drewN ?_ _ | refine Below.trans ?_ (Below.mono (by assumption) ?_) | refine Below.trans ?_ (Below.mono (BW.below _) ?_) | (simp; done) | (simp; omega) | omega)))
  have n1 : w.heap.size ≤ w1.heap.size := B1.size
  clear hb1
  go_wp2_with fail
  refine (civil_Days _ _ _ (I64.sm (by omega)) _).mono ?_
  rintro e w2 ⟨rfl, hb2⟩
  have B2 : Below w.heap.size w w2 := by (focus (repeat' (first | assumption | exact Below.refl _ _ | refine Below.alloc ?_ ?_ _ | refine Below.setCell ?_ ?_ _ | refine Below.drew ?_ | refine below_drewN ?_ _ | refine Below.trans ?_ (Below.mono (by assumption) ?_) | refine Below.trans ?_ (Below.mono (BW.below _) ?_) | (simp; done) | (simp; omega) | omega)))
  have n2 : w.heap.size ≤ w2.heap.size := B2.size
  clear hb2 B1 n1
  go_wp2_with fail
  refine (civil_Date _ _).mono ?_
  rintro e w3 ⟨rfl, hb3⟩
  have B3 : Below w.heap.size w w3 := by (focus (repeat' (first | assumption | exact Below.refl _ _ | refine Below.alloc ?_ ?_ _ | refine Below.setCell ?_ ?_ _ | refine Below.drew ?_ | refine below_drewN ?_ _ | refine Below.trans ?_ (Below.mono (by assumption) ?_) | refine Below.trans ?_ (Below.mono (BW.below _) ?_) | (simp; done) | (simp; omega) | omega)))
  have n3 : w.heap.size ≤ w3.heap.size := B3.size
  clear hb3 B2 n2
  go_wp2_with fail
  refine (civil_Days _ _ _ (I64.sm (by omega)) _).mono ?_
  rintro e w4 ⟨rfl, hb4⟩
  have B4 : Below w.heap.size w w4 := by (focus (repeat' (first | assumption | exact Below.refl _ _ | refine Below.alloc ?_ ?_ _ | refine Below.setCell ?_ ?_ _ | refine Below.drew ?_ | refine below_drewN ?_ _ | refine Below.trans ?_ (Below.mono (by assumption) ?_) | refine Below.trans ?_ (Below.mono (BW.below _) ?_) | (simp; done) | (simp; omega) | omega)))
  have n4 : w.heap.size ≤ w4.heap.size := B4.size
  have s4_0 : w3.heap.size < w4.heap.size := Nat.lt_of_lt_of_le (by first | (simp; done) | (simp; omega) | omega) hb4.size
  have c4_0_0 : w4.cell? ⟨w3.heap.size, 0, none⟩ = some (.int .i64 (-1)) := (hb4.cell (p := ⟨w3.heap.size, 0, none⟩) (by first | (simp; done) | (simp; omega) | omega)).trans (by go_simp)
  have c4_0_1 : w4.cell? ⟨w3.heap.size, 1, none⟩ = some (.int .i64 (12)) := (hb4.cell (p := ⟨w3.heap.size, 1, none⟩) (by first | (simp; done) | (simp; omega) | omega)).trans (by go_simp)
  have c4_0_2 : w4.cell? ⟨w3.heap.size, 2, none⟩ = some (.int .i64 (31)) := (hb4.cell (p := ⟨w3.heap.size, 2, none⟩) (by first | (simp; done) | (simp; omega) | omega)).trans (by go_simp)
  clear hb4 B3 n3
  go_wp2_with fail
  refine (civil_Date _ _).mono ?_
  rintro e w5 ⟨rfl, hb5⟩
  have B5 : Below w.heap.size w w5 := by (focus (repeat' (first | assumption | exact Below.refl _ _ | refine Below.alloc ?_ ?_ _ | refine Below.setCell ?_ ?_ _ | refine Below.drew ?_ | refine below_drewN ?_ _ | refine Below.trans ?_ (Below.mono (by assumption) ?_) | refine Below.trans ?_ (Below.mono (BW.below _) ?_) | (simp; done) | (simp; omega) | omega)))
  have n5 : w.heap.size ≤ w5.heap.size := B5.size
  have s5_0 : w3.heap.size < w5.heap.size := Nat.lt_of_lt_of_le (by first | (simp; done) | (simp; omega) | omega) hb5.size
  have c5_0_0 : w5.cell? ⟨w3.heap.size, 0, none⟩ = some (.int .i64 (-1)) := (hb5.cell (p := ⟨w3.heap.size, 0, none⟩) (by first | (simp; done) | (simp; omega) | omega)).trans (by go_simp)
  have c5_0_1 : w5.cell? ⟨w3.heap.size, 1, none⟩ = some (.int .i64 (12)) := (hb5.cell (p := ⟨w3.heap.size, 1, none⟩) (by first | (simp; done) | (simp; omega) | omega)).trans (by go_simp)
  have c5_0_2 : w5.cell? ⟨w3.heap.size, 2, none⟩ = some (.int .i64 (31)) := (hb5.cell (p := ⟨w3.heap.size, 2, none⟩) (by first | (simp; done) | (simp; omega) | omega)).trans (by go_simp)
  clear hb5 B4 n4 s4_0 c4_0_0 c4_0_1 c4_0_2
  go_wp2_with fail
  refine (civil_YearDay _ _ _ (I64.sm (by omega)) _).mono ?_
  rintro e w6 ⟨rfl, hb6⟩
  have B6 : Below w.heap.size w w6 := by (focus (repeat' (first | assumption | exact Below.refl _ _ | refine Below.alloc ?_ ?_ _ | refine Below.setCell ?_ ?_ _ | refine Below.drew ?_ | refine below_drewN ?_ _ | refine Below.trans ?_ (Below.mono (by assumption) ?_) | refine Below.trans ?_ (Below.mono (BW.below _) ?_) | (simp; done) | (simp; omega) | omega)))
  have n6 : w.heap.size ≤ w6.heap.size := B6.size
  have s6_0 : w3.heap.size < w6.heap.size := Nat.lt_of_lt_of_le (by first | (simp; done) | (simp; omega) | omega) hb6.size
  have c6_0_0 : w6.cell? ⟨w3.heap.size, 0, none⟩ = some (.int .i64 (-1)) := (hb6.cell (p := ⟨w3.heap.size, 0, none⟩) (by first | (simp; done) | (simp; omega) | omega)).trans (by go_simp)
  have c6_0_1 : w6.cell? ⟨w3.heap.size, 1, none⟩ = some (.int .i64 (12)) := (hb6.cell (p := ⟨w3.heap.size, 1, none⟩) (by first | (simp; done) | (simp; omega) | omega)).trans (by go_simp)
  have c6_0_2 : w6.cell? ⟨w3.heap.size, 2, none⟩ = some (.int .i64 (31)) := (hb6.cell (p := ⟨w3.heap.size, 2, none⟩) (by first | (simp; done) | (simp; omega) | omega)).trans (by go_simp)
  clear hb6 B5 n5 s5_0 c5_0_0 c5_0_1 c5_0_2
  go_wp2_with fail
  refine (civil_YearDay _ _ _ (I64.sm (by omega)) _).mono ?_
  rintro e w7 ⟨rfl, hb7⟩
  have B7 : Below w.heap.size w w7 := by (focus (repeat' (first | assumption | exact Below.refl _ _ | refine Below.alloc ?_ ?_ _ | refine Below.setCell ?_ ?_ _ | refine Below.drew ?_ | refine below_drewN ?_ _ | refine Below.trans ?_ (Below.mono (by assumption) ?_) | refine Below.trans ?_ (Below.mono (BW.below _) ?_) | (simp; done) | (simp; omega) | omega)))
  have n7 : w.heap.size ≤ w7.heap.size := B7.size
  have s7_0 : w3.heap.size < w7.heap.size := Nat.lt_of_lt_of_le (by first | (simp; done) | (simp; omega) | omega) hb7.size
  have c7_0_0 : w7.cell? ⟨w3.heap.size, 0, none⟩ = some (.int .i64 (-1)) := (hb7.cell (p := ⟨w3.heap.size, 0, none⟩) (by first | (simp; done) | (simp; omega) | omega)).trans (by go_simp)
  have c7_0_1 : w7.cell? ⟨w3.heap.size, 1, none⟩ = some (.int .i64 (12)) := (hb7.cell (p := ⟨w3.heap.size, 1, none⟩) (by first | (simp; done) | (simp; omega) | omega)).trans (by go_simp)
  have c7_0_2 : w7.cell? ⟨w3.heap.size, 2, none⟩ = some (.int .i64 (31)) := (hb7.cell (p := ⟨w3.heap.size, 2, none⟩) (by first | (simp; done) | (simp; omega) | omega)).trans (by go_simp)
  clear hb7 B6 n6 s6_0 c6_0_0 c6_0_1 c6_0_2
  go_wp2_with (first
    | (go_at_call 56; refine (civil_Weekday _ (I64.sm (by omega)) _).mono ?_; rintro e wr ⟨rfl, hbr⟩; have zr := hbr.size)
    | (go_at_call 50; refine (civil_Leap _ (I64.sm (by omega)) _).mono ?_; rintro e wr ⟨rfl, rfl⟩)
    | (go_at_call 52; refine (civil_Len _ _ (I64.sm (by omega)) _).mono ?_; rintro e wr ⟨rfl, rfl⟩)
    | (go_at_call 54; refine (civil_Right _ _ _ (I64.sm (by omega)) _).mono ?_; rintro e wr ⟨rfl, hbr⟩; have zr := hbr.size)
    | (go_at_call 58; refine (civil_Compare _ _ _ _ _ _ _).mono ?_; rintro e wr ⟨rfl, hbr⟩; have zr := hbr.size))
  go_ret
  exact ⟨rfl, by (focus (repeat' (first | assumption | exact Below.refl _ _ | refine Below.alloc ?_ ?_ _ | refine Below.setCell ?_ ?_ _ | refine Below.drew ?_ | refine below_drewN ?_ _ | refine Below.trans ?_ (Below.mono (by assumption) ?_) | refine Below.trans ?_ (Below.mono (BW.below _) ?_) | (simp; done) | (simp; omega) | omega)))⟩
end Go.Proofs.Ytblmlglkjmilkaa
