/-
  noontidelaw09: lives.
-/
import Derived.Test.YtblmlglkjmilkabLonA
namespace Go.Proofs.Ytblmlglkjmilkab
open Go.RowKit Flo
attribute [local go_sem] BW.cell BW.frozen
theorem off_is (b : Nat) {m : Int} {V E : Int} (hb : b < 18446744073709551616) (hV : offV b m = V) (hE : offE b m = E) (w : World) : Calls Try.prog 39 #[.float .f64 b, .int .i64 m] w fun e w' => e = .returned (.tuple #[.int .i64 V, .int .i64 E]) ∧ Below w.heap.size w w' := by
  have := lon_Off b m hb w
  rwa [hV, hE] at this
theorem hours_is (b : Nat) {V E : Int} (hb : b < 18446744073709551616) (hV : hourV b = V) (hE : fitE b = E) (w : World) : Calls Try.prog 40 #[.float .f64 b] w fun e w' => e = .returned (.tuple #[.int .i64 V, .int .i64 E]) ∧ Below w.heap.size w w' := by
  have := lon_Hours b hb w
  rwa [hV, hE] at this
theorem fit_nan {b : Nat} (h : isnan b = true) : fitE b = 18 := by simp [fitE, h]
theorem off_nan {b : Nat} (h : isnan b = true) : offV b 2 = 0 ∧ offE b 2 = 18 ∧ offV b 0 = 0 ∧ offE b 0 = 4 := by
  have hf := fit_nan h
  have m2 : modB 2 = true := by decide
  have m0 : modB 0 = false := by decide
  exact ⟨(off_f m2 (by omega)).2, (off_f m2 (by omega)).1.trans hf, (off_n m0).2, (off_n m0).1⟩
theorem gfe_is {f : FuncId} {args : Array Value} {w : World} {X : Option Nat} {E F : Int} {c : Nat} (h : Calls Try.prog f args w (GFE w X E)) (e : X = some c) (e2 : E = F) : Calls Try.prog f args w fun e w' => e = .returned (.tuple #[.float .f64 c, .int .i64 F]) ∧ Below w.heap.size w w' := by
  refine h.mono ?_
  rintro e' w' ⟨y, rfl, HY, hb⟩
  have := HY.out.2
  rw [e] at this
  rw [(nz_eq_some this).1, e2]
  exact ⟨rfl, hb⟩
theorem norm_is (b : Nat) {X : Option Nat} (h : normX (nz b) = X) (w : World) : Calls Try.prog 51 #[.float .f64 b] w (GF w X) := by
  have := lon_Norm b w
  rwa [h] at this
set_option maxRecDepth 100000 in
set_option maxHeartbeats 4000000 in
theorem lon_lives   (w : World) : Calls Try.prog 53 #[] w fun e w' => e = .returned (.bool true) ∧ Below w.heap.size w w' := by
  have o0 : (FloatKind.f64.format.order 13863909240395005952 13863909240395005952 == some Ordering.eq) = true := by kernel_rfl
  have o1 : (FloatKind.f64.format.order 13863557396674117632 13863557396674117632 == some Ordering.eq) = true := by kernel_rfl
  go_enter Try.func53, Try.ntmps53
  go_wp2_with fail
  refine (ref02_Edges _).mono ?_
  rintro e w1 ⟨g, n, rfl, sg, cg_0, cg_1, cg_2, cg_3, cg_4, HN, hb1⟩
  have B1 : Below w.heap.size w w1 := by (focus (repeat' (first | assumption | exact Below.refl _ _ | refine Below.alloc ?_ ?_ _ | refine Below.setCell ?_ ?_ _ | refine Below.drew ?_ | refine below_drewN ?_ _ | refine Below.trans ?_ (Below.mono (by assumption) ?_) | refine Below.trans ?_ (Below.mono (BW.below _) ?_) | (simp; done) | (simp; omega) | omega)))
  have n1 : w.heap.size ≤ w1.heap.size := B1.size
  clear hb1
  go_wp2_with fail
  refine (off_is 13858279740860792832 (m := 3) (V := -17760) (E := 0) (by decide) (by kernel_rfl) (by kernel_rfl) _).mono ?_
  rintro e w2 ⟨rfl, hb2⟩
  have B2 : Below w.heap.size w w2 := by (focus (repeat' (first | assumption | exact Below.refl _ _ | refine Below.alloc ?_ ?_ _ | refine Below.setCell ?_ ?_ _ | refine Below.drew ?_ | refine below_drewN ?_ _ | refine Below.trans ?_ (Below.mono (by assumption) ?_) | refine Below.trans ?_ (Below.mono (BW.below _) ?_) | (simp; done) | (simp; omega) | omega)))
  have n2 : w.heap.size ≤ w2.heap.size := B2.size
  have s2_0 : g < w2.heap.size := Nat.lt_of_lt_of_le (by first | (simp; done) | (simp; omega) | omega) hb2.size
  have c2_0_0 : w2.cell? ⟨g, 0, none⟩ = some (.float .f64 n) := (hb2.cell (p := ⟨g, 0, none⟩) (by first | (simp; done) | (simp; omega) | omega)).trans (by go_simp)
  have c2_0_1 : w2.cell? ⟨g, 1, none⟩ = some (.float .f64 18442240474082181120) := (hb2.cell (p := ⟨g, 1, none⟩) (by first | (simp; done) | (simp; omega) | omega)).trans (by go_simp)
  have c2_0_2 : w2.cell? ⟨g, 2, none⟩ = some (.float .f64 9223372036854775808) := (hb2.cell (p := ⟨g, 2, none⟩) (by first | (simp; done) | (simp; omega) | omega)).trans (by go_simp)
  have c2_0_3 : w2.cell? ⟨g, 3, none⟩ = some (.float .f64 0) := (hb2.cell (p := ⟨g, 3, none⟩) (by first | (simp; done) | (simp; omega) | omega)).trans (by go_simp)
  have c2_0_4 : w2.cell? ⟨g, 4, none⟩ = some (.float .f64 9218868437227405312) := (hb2.cell (p := ⟨g, 4, none⟩) (by first | (simp; done) | (simp; omega) | omega)).trans (by go_simp)
  clear hb2 cg_0 cg_1 cg_2 cg_3 cg_4 B1
  go_wp2_with fail
  refine (off_is 4562254508917369340 (m := 2) (V := 1) (E := 0) (by decide) (by kernel_rfl) (by kernel_rfl) _).mono ?_
  rintro e w3 ⟨rfl, hb3⟩
  have B3 : Below w.heap.size w w3 := by (focus (repeat' (first | assumption | exact Below.refl _ _ | refine Below.alloc ?_ ?_ _ | refine Below.setCell ?_ ?_ _ | refine Below.drew ?_ | refine below_drewN ?_ _ | refine Below.trans ?_ (Below.mono (by assumption) ?_) | refine Below.trans ?_ (Below.mono (BW.below _) ?_) | (simp; done) | (simp; omega) | omega)))
  have n3 : w.heap.size ≤ w3.heap.size := B3.size
  have s3_0 : g < w3.heap.size := Nat.lt_of_lt_of_le (by first | (simp; done) | (simp; omega) | omega) hb3.size
  have c3_0_0 : w3.cell? ⟨g, 0, none⟩ = some (.float .f64 n) := (hb3.cell (p := ⟨g, 0, none⟩) (by first | (simp; done) | (simp; omega) | omega)).trans (by go_simp)
  have c3_0_1 : w3.cell? ⟨g, 1, none⟩ = some (.float .f64 18442240474082181120) := (hb3.cell (p := ⟨g, 1, none⟩) (by first | (simp; done) | (simp; omega) | omega)).trans (by go_simp)
  have c3_0_2 : w3.cell? ⟨g, 2, none⟩ = some (.float .f64 9223372036854775808) := (hb3.cell (p := ⟨g, 2, none⟩) (by first | (simp; done) | (simp; omega) | omega)).trans (by go_simp)
  have c3_0_3 : w3.cell? ⟨g, 3, none⟩ = some (.float .f64 0) := (hb3.cell (p := ⟨g, 3, none⟩) (by first | (simp; done) | (simp; omega) | omega)).trans (by go_simp)
  have c3_0_4 : w3.cell? ⟨g, 4, none⟩ = some (.float .f64 9218868437227405312) := (hb3.cell (p := ⟨g, 4, none⟩) (by first | (simp; done) | (simp; omega) | omega)).trans (by go_simp)
  clear hb3 B2 c2_0_0 c2_0_1 c2_0_2 c2_0_3 c2_0_4
  go_wp2_with fail
  refine (off_is 4640554795726274560 (m := 2) (V := 0) (E := 1) (by decide) (by kernel_rfl) (by kernel_rfl) _).mono ?_
  rintro e w4 ⟨rfl, hb4⟩
  have B4 : Below w.heap.size w w4 := by (focus (repeat' (first | assumption | exact Below.refl _ _ | refine Below.alloc ?_ ?_ _ | refine Below.setCell ?_ ?_ _ | refine Below.drew ?_ | refine below_drewN ?_ _ | refine Below.trans ?_ (Below.mono (by assumption) ?_) | refine Below.trans ?_ (Below.mono (BW.below _) ?_) | (simp; done) | (simp; omega) | omega)))
  have n4 : w.heap.size ≤ w4.heap.size := B4.size
  have s4_0 : g < w4.heap.size := Nat.lt_of_lt_of_le (by first | (simp; done) | (simp; omega) | omega) hb4.size
  have c4_0_0 : w4.cell? ⟨g, 0, none⟩ = some (.float .f64 n) := (hb4.cell (p := ⟨g, 0, none⟩) (by first | (simp; done) | (simp; omega) | omega)).trans (by go_simp)
  have c4_0_1 : w4.cell? ⟨g, 1, none⟩ = some (.float .f64 18442240474082181120) := (hb4.cell (p := ⟨g, 1, none⟩) (by first | (simp; done) | (simp; omega) | omega)).trans (by go_simp)
  have c4_0_2 : w4.cell? ⟨g, 2, none⟩ = some (.float .f64 9223372036854775808) := (hb4.cell (p := ⟨g, 2, none⟩) (by first | (simp; done) | (simp; omega) | omega)).trans (by go_simp)
  have c4_0_3 : w4.cell? ⟨g, 3, none⟩ = some (.float .f64 0) := (hb4.cell (p := ⟨g, 3, none⟩) (by first | (simp; done) | (simp; omega) | omega)).trans (by go_simp)
  have c4_0_4 : w4.cell? ⟨g, 4, none⟩ = some (.float .f64 9218868437227405312) := (hb4.cell (p := ⟨g, 4, none⟩) (by first | (simp; done) | (simp; omega) | omega)).trans (by go_simp)
  clear hb4 B3 c3_0_0 c3_0_1 c3_0_2 c3_0_3 c3_0_4
  go_wp2_with fail
  refine (off_is n (m := 2) (V := 0) (E := 18) HN.out.2 (off_nan HN.out.1).1 (off_nan HN.out.1).2.1 _).mono ?_
  rintro e w5 ⟨rfl, hb5⟩
  have B5 : Below w.heap.size w w5 := by (focus (repeat' (first | assumption | exact Below.refl _ _ | refine Below.alloc ?_ ?_ _ | refine Below.setCell ?_ ?_ _ | refine Below.drew ?_ | refine below_drewN ?_ _ | refine Below.trans ?_ (Below.mono (by assumption) ?_) | refine Below.trans ?_ (Below.mono (BW.below _) ?_) | (simp; done) | (simp; omega) | omega)))
  have n5 : w.heap.size ≤ w5.heap.size := B5.size
  have s5_0 : g < w5.heap.size := Nat.lt_of_lt_of_le (by first | (simp; done) | (simp; omega) | omega) hb5.size
  have c5_0_0 : w5.cell? ⟨g, 0, none⟩ = some (.float .f64 n) := (hb5.cell (p := ⟨g, 0, none⟩) (by first | (simp; done) | (simp; omega) | omega)).trans (by go_simp)
  have c5_0_1 : w5.cell? ⟨g, 1, none⟩ = some (.float .f64 18442240474082181120) := (hb5.cell (p := ⟨g, 1, none⟩) (by first | (simp; done) | (simp; omega) | omega)).trans (by go_simp)
  have c5_0_2 : w5.cell? ⟨g, 2, none⟩ = some (.float .f64 9223372036854775808) := (hb5.cell (p := ⟨g, 2, none⟩) (by first | (simp; done) | (simp; omega) | omega)).trans (by go_simp)
  have c5_0_3 : w5.cell? ⟨g, 3, none⟩ = some (.float .f64 0) := (hb5.cell (p := ⟨g, 3, none⟩) (by first | (simp; done) | (simp; omega) | omega)).trans (by go_simp)
  have c5_0_4 : w5.cell? ⟨g, 4, none⟩ = some (.float .f64 9218868437227405312) := (hb5.cell (p := ⟨g, 4, none⟩) (by first | (simp; done) | (simp; omega) | omega)).trans (by go_simp)
  clear hb5 B4 c4_0_0 c4_0_1 c4_0_2 c4_0_3 c4_0_4
  go_wp2_with fail
  refine (off_is n (m := 0) (V := 0) (E := 4) HN.out.2 (off_nan HN.out.1).2.2.1 (off_nan HN.out.1).2.2.2 _).mono ?_
  rintro e w6 ⟨rfl, hb6⟩
  have B6 : Below w.heap.size w w6 := by (focus (repeat' (first | assumption | exact Below.refl _ _ | refine Below.alloc ?_ ?_ _ | refine Below.setCell ?_ ?_ _ | refine Below.drew ?_ | refine below_drewN ?_ _ | refine Below.trans ?_ (Below.mono (by assumption) ?_) | refine Below.trans ?_ (Below.mono (BW.below _) ?_) | (simp; done) | (simp; omega) | omega)))
  have n6 : w.heap.size ≤ w6.heap.size := B6.size
  have s6_0 : g < w6.heap.size := Nat.lt_of_lt_of_le (by first | (simp; done) | (simp; omega) | omega) hb6.size
  have c6_0_0 : w6.cell? ⟨g, 0, none⟩ = some (.float .f64 n) := (hb6.cell (p := ⟨g, 0, none⟩) (by first | (simp; done) | (simp; omega) | omega)).trans (by go_simp)
  have c6_0_1 : w6.cell? ⟨g, 1, none⟩ = some (.float .f64 18442240474082181120) := (hb6.cell (p := ⟨g, 1, none⟩) (by first | (simp; done) | (simp; omega) | omega)).trans (by go_simp)
  have c6_0_2 : w6.cell? ⟨g, 2, none⟩ = some (.float .f64 9223372036854775808) := (hb6.cell (p := ⟨g, 2, none⟩) (by first | (simp; done) | (simp; omega) | omega)).trans (by go_simp)
  have c6_0_3 : w6.cell? ⟨g, 3, none⟩ = some (.float .f64 0) := (hb6.cell (p := ⟨g, 3, none⟩) (by first | (simp; done) | (simp; omega) | omega)).trans (by go_simp)
  have c6_0_4 : w6.cell? ⟨g, 4, none⟩ = some (.float .f64 9218868437227405312) := (hb6.cell (p := ⟨g, 4, none⟩) (by first | (simp; done) | (simp; omega) | omega)).trans (by go_simp)
  clear hb6 B5 c5_0_0 c5_0_1 c5_0_2 c5_0_3 c5_0_4
  go_wp2_with fail
  refine (gfe_is (lon_Degrees (-43200) _) (by kernel_rfl : _ = some 13863909240395005952) (by kernel_rfl : _ = (0 : Int))).mono ?_
  rintro e w7 ⟨rfl, hb7⟩
  have B7 : Below w.heap.size w w7 := by (focus (repeat' (first | assumption | exact Below.refl _ _ | refine Below.alloc ?_ ?_ _ | refine Below.setCell ?_ ?_ _ | refine Below.drew ?_ | refine below_drewN ?_ _ | refine Below.trans ?_ (Below.mono (by assumption) ?_) | refine Below.trans ?_ (Below.mono (BW.below _) ?_) | (simp; done) | (simp; omega) | omega)))
  have n7 : w.heap.size ≤ w7.heap.size := B7.size
  have s7_0 : g < w7.heap.size := Nat.lt_of_lt_of_le (by first | (simp; done) | (simp; omega) | omega) hb7.size
  have c7_0_0 : w7.cell? ⟨g, 0, none⟩ = some (.float .f64 n) := (hb7.cell (p := ⟨g, 0, none⟩) (by first | (simp; done) | (simp; omega) | omega)).trans (by go_simp)
  have c7_0_1 : w7.cell? ⟨g, 1, none⟩ = some (.float .f64 18442240474082181120) := (hb7.cell (p := ⟨g, 1, none⟩) (by first | (simp; done) | (simp; omega) | omega)).trans (by go_simp)
  have c7_0_2 : w7.cell? ⟨g, 2, none⟩ = some (.float .f64 9223372036854775808) := (hb7.cell (p := ⟨g, 2, none⟩) (by first | (simp; done) | (simp; omega) | omega)).trans (by go_simp)
  have c7_0_3 : w7.cell? ⟨g, 3, none⟩ = some (.float .f64 0) := (hb7.cell (p := ⟨g, 3, none⟩) (by first | (simp; done) | (simp; omega) | omega)).trans (by go_simp)
  have c7_0_4 : w7.cell? ⟨g, 4, none⟩ = some (.float .f64 9218868437227405312) := (hb7.cell (p := ⟨g, 4, none⟩) (by first | (simp; done) | (simp; omega) | omega)).trans (by go_simp)
  clear hb7 B6 c6_0_0 c6_0_1 c6_0_2 c6_0_3 c6_0_4
  go_wp2_with fail
  refine (gfe_is (lon_Degrees 43201 _) (by kernel_rfl : _ = some 0) (by kernel_rfl : _ = (1 : Int))).mono ?_
  rintro e w8 ⟨rfl, hb8⟩
  have B8 : Below w.heap.size w w8 := by (focus (repeat' (first | assumption | exact Below.refl _ _ | refine Below.alloc ?_ ?_ _ | refine Below.setCell ?_ ?_ _ | refine Below.drew ?_ | refine below_drewN ?_ _ | refine Below.trans ?_ (Below.mono (by assumption) ?_) | refine Below.trans ?_ (Below.mono (BW.below _) ?_) | (simp; done) | (simp; omega) | omega)))
  have n8 : w.heap.size ≤ w8.heap.size := B8.size
  have s8_0 : g < w8.heap.size := Nat.lt_of_lt_of_le (by first | (simp; done) | (simp; omega) | omega) hb8.size
  have c8_0_0 : w8.cell? ⟨g, 0, none⟩ = some (.float .f64 n) := (hb8.cell (p := ⟨g, 0, none⟩) (by first | (simp; done) | (simp; omega) | omega)).trans (by go_simp)
  have c8_0_1 : w8.cell? ⟨g, 1, none⟩ = some (.float .f64 18442240474082181120) := (hb8.cell (p := ⟨g, 1, none⟩) (by first | (simp; done) | (simp; omega) | omega)).trans (by go_simp)
  have c8_0_2 : w8.cell? ⟨g, 2, none⟩ = some (.float .f64 9223372036854775808) := (hb8.cell (p := ⟨g, 2, none⟩) (by first | (simp; done) | (simp; omega) | omega)).trans (by go_simp)
  have c8_0_3 : w8.cell? ⟨g, 3, none⟩ = some (.float .f64 0) := (hb8.cell (p := ⟨g, 3, none⟩) (by first | (simp; done) | (simp; omega) | omega)).trans (by go_simp)
  have c8_0_4 : w8.cell? ⟨g, 4, none⟩ = some (.float .f64 9218868437227405312) := (hb8.cell (p := ⟨g, 4, none⟩) (by first | (simp; done) | (simp; omega) | omega)).trans (by go_simp)
  clear hb8 B7 c7_0_0 c7_0_1 c7_0_2 c7_0_3 c7_0_4
  go_wp2_with fail
  refine (hours_is 4627026404658118656 (V := 2) (E := 0) (by decide) (by kernel_rfl) (by kernel_rfl) _).mono ?_
  rintro e w9 ⟨rfl, hb9⟩
  have B9 : Below w.heap.size w w9 := by (focus (repeat' (first | assumption | exact Below.refl _ _ | refine Below.alloc ?_ ?_ _ | refine Below.setCell ?_ ?_ _ | refine Below.drew ?_ | refine below_drewN ?_ _ | refine Below.trans ?_ (Below.mono (by assumption) ?_) | refine Below.trans ?_ (Below.mono (BW.below _) ?_) | (simp; done) | (simp; omega) | omega)))
  have n9 : w.heap.size ≤ w9.heap.size := B9.size
  have s9_0 : g < w9.heap.size := Nat.lt_of_lt_of_le (by first | (simp; done) | (simp; omega) | omega) hb9.size
  have c9_0_0 : w9.cell? ⟨g, 0, none⟩ = some (.float .f64 n) := (hb9.cell (p := ⟨g, 0, none⟩) (by first | (simp; done) | (simp; omega) | omega)).trans (by go_simp)
  have c9_0_1 : w9.cell? ⟨g, 1, none⟩ = some (.float .f64 18442240474082181120) := (hb9.cell (p := ⟨g, 1, none⟩) (by first | (simp; done) | (simp; omega) | omega)).trans (by go_simp)
  have c9_0_2 : w9.cell? ⟨g, 2, none⟩ = some (.float .f64 9223372036854775808) := (hb9.cell (p := ⟨g, 2, none⟩) (by first | (simp; done) | (simp; omega) | omega)).trans (by go_simp)
  have c9_0_3 : w9.cell? ⟨g, 3, none⟩ = some (.float .f64 0) := (hb9.cell (p := ⟨g, 3, none⟩) (by first | (simp; done) | (simp; omega) | omega)).trans (by go_simp)
  have c9_0_4 : w9.cell? ⟨g, 4, none⟩ = some (.float .f64 9218868437227405312) := (hb9.cell (p := ⟨g, 4, none⟩) (by first | (simp; done) | (simp; omega) | omega)).trans (by go_simp)
  clear hb9 B8 c8_0_0 c8_0_1 c8_0_2 c8_0_3 c8_0_4
  go_wp2_with fail
  refine (hours_is 18442240474082181120 (V := 0) (E := 1) (by decide) (by kernel_rfl) (by kernel_rfl) _).mono ?_
  rintro e w10 ⟨rfl, hb10⟩
  have B10 : Below w.heap.size w w10 := by (focus (repeat' (first | assumption | exact Below.refl _ _ | refine Below.alloc ?_ ?_ _ | refine Below.setCell ?_ ?_ _ | refine Below.drew ?_ | refine below_drewN ?_ _ | refine Below.trans ?_ (Below.mono (by assumption) ?_) | refine Below.trans ?_ (Below.mono (BW.below _) ?_) | (simp; done) | (simp; omega) | omega)))
  have n10 : w.heap.size ≤ w10.heap.size := B10.size
  have s10_0 : g < w10.heap.size := Nat.lt_of_lt_of_le (by first | (simp; done) | (simp; omega) | omega) hb10.size
  have c10_0_0 : w10.cell? ⟨g, 0, none⟩ = some (.float .f64 n) := (hb10.cell (p := ⟨g, 0, none⟩) (by first | (simp; done) | (simp; omega) | omega)).trans (by go_simp)
  have c10_0_1 : w10.cell? ⟨g, 1, none⟩ = some (.float .f64 18442240474082181120) := (hb10.cell (p := ⟨g, 1, none⟩) (by first | (simp; done) | (simp; omega) | omega)).trans (by go_simp)
  have c10_0_2 : w10.cell? ⟨g, 2, none⟩ = some (.float .f64 9223372036854775808) := (hb10.cell (p := ⟨g, 2, none⟩) (by first | (simp; done) | (simp; omega) | omega)).trans (by go_simp)
  have c10_0_3 : w10.cell? ⟨g, 3, none⟩ = some (.float .f64 0) := (hb10.cell (p := ⟨g, 3, none⟩) (by first | (simp; done) | (simp; omega) | omega)).trans (by go_simp)
  have c10_0_4 : w10.cell? ⟨g, 4, none⟩ = some (.float .f64 9218868437227405312) := (hb10.cell (p := ⟨g, 4, none⟩) (by first | (simp; done) | (simp; omega) | omega)).trans (by go_simp)
  clear hb10 B9 c9_0_0 c9_0_1 c9_0_2 c9_0_3 c9_0_4
  go_wp2_with fail
  refine (gf_is (lon_Norm 4640889047261118464 _) (by kernel_rfl : _ = some 13863557396674117632)).mono ?_
  rintro e w11 ⟨rfl, hb11⟩
  have B11 : Below w.heap.size w w11 := by (focus (repeat' (first | assumption | exact Below.refl _ _ | refine Below.alloc ?_ ?_ _ | refine Below.setCell ?_ ?_ _ | refine Below.drew ?_ | refine below_drewN ?_ _ | refine Below.trans ?_ (Below.mono (by assumption) ?_) | refine Below.trans ?_ (Below.mono (BW.below _) ?_) | (simp; done) | (simp; omega) | omega)))
  have n11 : w.heap.size ≤ w11.heap.size := B11.size
  have s11_0 : g < w11.heap.size := Nat.lt_of_lt_of_le (by first | (simp; done) | (simp; omega) | omega) hb11.size
  have c11_0_0 : w11.cell? ⟨g, 0, none⟩ = some (.float .f64 n) := (hb11.cell (p := ⟨g, 0, none⟩) (by first | (simp; done) | (simp; omega) | omega)).trans (by go_simp)
  have c11_0_1 : w11.cell? ⟨g, 1, none⟩ = some (.float .f64 18442240474082181120) := (hb11.cell (p := ⟨g, 1, none⟩) (by first | (simp; done) | (simp; omega) | omega)).trans (by go_simp)
  have c11_0_2 : w11.cell? ⟨g, 2, none⟩ = some (.float .f64 9223372036854775808) := (hb11.cell (p := ⟨g, 2, none⟩) (by first | (simp; done) | (simp; omega) | omega)).trans (by go_simp)
  have c11_0_3 : w11.cell? ⟨g, 3, none⟩ = some (.float .f64 0) := (hb11.cell (p := ⟨g, 3, none⟩) (by first | (simp; done) | (simp; omega) | omega)).trans (by go_simp)
  have c11_0_4 : w11.cell? ⟨g, 4, none⟩ = some (.float .f64 9218868437227405312) := (hb11.cell (p := ⟨g, 4, none⟩) (by first | (simp; done) | (simp; omega) | omega)).trans (by go_simp)
  clear hb11 B10 c10_0_0 c10_0_1 c10_0_2 c10_0_3 c10_0_4
  go_wp2_with fail
  refine (gf_is (lon_Norm 13863909240395005952 _) (by kernel_rfl : _ = some 13863909240395005952)).mono ?_
  rintro e w12 ⟨rfl, hb12⟩
  have B12 : Below w.heap.size w w12 := by (focus (repeat' (first | assumption | exact Below.refl _ _ | refine Below.alloc ?_ ?_ _ | refine Below.setCell ?_ ?_ _ | refine Below.drew ?_ | refine below_drewN ?_ _ | refine Below.trans ?_ (Below.mono (by assumption) ?_) | refine Below.trans ?_ (Below.mono (BW.below _) ?_) | (simp; done) | (simp; omega) | omega)))
  have n12 : w.heap.size ≤ w12.heap.size := B12.size
  have s12_0 : g < w12.heap.size := Nat.lt_of_lt_of_le (by first | (simp; done) | (simp; omega) | omega) hb12.size
  have c12_0_0 : w12.cell? ⟨g, 0, none⟩ = some (.float .f64 n) := (hb12.cell (p := ⟨g, 0, none⟩) (by first | (simp; done) | (simp; omega) | omega)).trans (by go_simp)
  have c12_0_1 : w12.cell? ⟨g, 1, none⟩ = some (.float .f64 18442240474082181120) := (hb12.cell (p := ⟨g, 1, none⟩) (by first | (simp; done) | (simp; omega) | omega)).trans (by go_simp)
  have c12_0_2 : w12.cell? ⟨g, 2, none⟩ = some (.float .f64 9223372036854775808) := (hb12.cell (p := ⟨g, 2, none⟩) (by first | (simp; done) | (simp; omega) | omega)).trans (by go_simp)
  have c12_0_3 : w12.cell? ⟨g, 3, none⟩ = some (.float .f64 0) := (hb12.cell (p := ⟨g, 3, none⟩) (by first | (simp; done) | (simp; omega) | omega)).trans (by go_simp)
  have c12_0_4 : w12.cell? ⟨g, 4, none⟩ = some (.float .f64 9218868437227405312) := (hb12.cell (p := ⟨g, 4, none⟩) (by first | (simp; done) | (simp; omega) | omega)).trans (by go_simp)
  clear hb12 B11 c11_0_0 c11_0_1 c11_0_2 c11_0_3 c11_0_4
  go_wp2_with fail
  refine (norm_is 9223372036854775808 (X := some 9223372036854775808) (by kernel_rfl) _).mono ?_
  rintro e w13 ⟨x12, rfl, HX12, hb13⟩
  have B13 : Below w.heap.size w w13 := by (focus (repeat' (first | assumption | exact Below.refl _ _ | refine Below.alloc ?_ ?_ _ | refine Below.setCell ?_ ?_ _ | refine Below.drew ?_ | refine below_drewN ?_ _ | refine Below.trans ?_ (Below.mono (by assumption) ?_) | refine Below.trans ?_ (Below.mono (BW.below _) ?_) | (simp; done) | (simp; omega) | omega)))
  have n13 : w.heap.size ≤ w13.heap.size := B13.size
  have s13_0 : g < w13.heap.size := Nat.lt_of_lt_of_le (by first | (simp; done) | (simp; omega) | omega) hb13.size
  have c13_0_0 : w13.cell? ⟨g, 0, none⟩ = some (.float .f64 n) := (hb13.cell (p := ⟨g, 0, none⟩) (by first | (simp; done) | (simp; omega) | omega)).trans (by go_simp)
  have c13_0_1 : w13.cell? ⟨g, 1, none⟩ = some (.float .f64 18442240474082181120) := (hb13.cell (p := ⟨g, 1, none⟩) (by first | (simp; done) | (simp; omega) | omega)).trans (by go_simp)
  have c13_0_2 : w13.cell? ⟨g, 2, none⟩ = some (.float .f64 9223372036854775808) := (hb13.cell (p := ⟨g, 2, none⟩) (by first | (simp; done) | (simp; omega) | omega)).trans (by go_simp)
  have c13_0_3 : w13.cell? ⟨g, 3, none⟩ = some (.float .f64 0) := (hb13.cell (p := ⟨g, 3, none⟩) (by first | (simp; done) | (simp; omega) | omega)).trans (by go_simp)
  have c13_0_4 : w13.cell? ⟨g, 4, none⟩ = some (.float .f64 9218868437227405312) := (hb13.cell (p := ⟨g, 4, none⟩) (by first | (simp; done) | (simp; omega) | omega)).trans (by go_simp)
  clear hb13 B12 c12_0_0 c12_0_1 c12_0_2 c12_0_3 c12_0_4
  go_wp2_with fail
  refine (kind_of HX12 (k := 3) (by kernel_rfl) _).mono ?_
  rintro e w' ⟨rfl, rfl⟩
  go_wp2_with fail
  refine (norm_is 9218868437227405312 (X := none) (by kernel_rfl) _).mono ?_
  rintro e w15 ⟨x14, rfl, HX14, hb15⟩
  have B15 : Below w.heap.size w w15 := by (focus (repeat' (first | assumption | exact Below.refl _ _ | refine Below.alloc ?_ ?_ _ | refine Below.setCell ?_ ?_ _ | refine Below.drew ?_ | refine below_drewN ?_ _ | refine Below.trans ?_ (Below.mono (by assumption) ?_) | refine Below.trans ?_ (Below.mono (BW.below _) ?_) | (simp; done) | (simp; omega) | omega)))
  have n15 : w.heap.size ≤ w15.heap.size := B15.size
  clear hb15 B13 c13_0_0 c13_0_1 c13_0_2 c13_0_3 c13_0_4
  go_wp2_with fail
  refine (kind_of HX14 (k := 0) rfl _).mono ?_
  rintro e w' ⟨rfl, rfl⟩
  go_wp2_with fail
  go_ret
  exact ⟨rfl, by (focus (repeat' (first | assumption | exact Below.refl _ _ | refine Below.alloc ?_ ?_ _ | refine Below.setCell ?_ ?_ _ | refine Below.drew ?_ | refine below_drewN ?_ _ | refine Below.trans ?_ (Below.mono (by assumption) ?_) | refine Below.trans ?_ (Below.mono (BW.below _) ?_) | (simp; done) | (simp; omega) | omega)))⟩
end Go.Proofs.Ytblmlglkjmilkab
