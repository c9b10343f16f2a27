/-
  noontidelaw08: lives.
-/
import Derived.Test.YtblmlglkjmilkabJulA
namespace Go.Proofs.Ytblmlglkjmilkab
open Go.RowKit Flo
attribute [local go_sem] BW.cell BW.frozen

theorem gf_is {f : FuncId} {args : Array Value} {w : World} {X : Option Nat} {c : Nat} (h : Calls Try.prog f args w (GF w X)) (e : X = some c) : Calls Try.prog f args w fun e w' => e = .returned (.float .f64 c) ∧ Below w.heap.size w w' := by
  refine h.mono ?_
  rintro e' w' ⟨y, rfl, HY, hb⟩
  have := HY.out.2
  rw [e] at this
  rw [(nz_eq_some this).1]
  exact ⟨rfl, hb⟩
theorem gf2_is {f : FuncId} {args : Array Value} {w : World} {X Y : Option Nat} {c d : Nat} (h : Calls Try.prog f args w (GF2 w X Y)) (e : X = some c) (e2 : Y = some d) : Calls Try.prog f args w fun e w' => e = .returned (.tuple #[.float .f64 c, .float .f64 d]) ∧ Below w.heap.size w w' := by
  refine h.mono ?_
  rintro e' w' ⟨y, z, rfl, HY, HZ, hb⟩
  have h1 := HY.out.2
  have h2 := HZ.out.2
  rw [e] at h1
  rw [e2] at h2
  rw [(nz_eq_some h1).1, (nz_eq_some h2).1]
  exact ⟨rfl, hb⟩
def kndN (X : Option Nat) : Int := match X with | some b => knd b | none => 0
theorem knd_kndN (b : Nat) : knd b = kndN (nz b) := by
  cases h : isnan b
  · rw [nz_some h]; rfl
  · rw [nz_none h]; simp [knd, h, kndN]
theorem kind_of {x : Nat} {X : Option Nat} {k : Int} (h : Hid (x < 18446744073709551616 ∧ nz x = X)) (hk : kndN X = k) (w : World) : Calls Try.prog 45 #[.float .f64 x] w fun e w' => e = .returned (.int .i64 k) ∧ w = w' := by
  have := real_Kind x h.out.1 w
  rwa [knd_kndN x, h.out.2, hk] at this
theorem kind_is (x : Nat) {k : Int} (hx : x < 18446744073709551616) (hk : knd x = k) (w : World) : Calls Try.prog 45 #[.float .f64 x] w fun e w' => e = .returned (.int .i64 k) ∧ w = w' := by
  have := real_Kind x hx w
  rwa [hk] at this
theorem same_of {x y : Nat} {X : Option Nat} (h : Hid (x < 18446744073709551616 ∧ nz x = X)) (h' : Hid (y < 18446744073709551616 ∧ nz y = X)) (w : World) : Calls Try.prog 33 #[.float .f64 x, .float .f64 y] w fun e w' => e = .returned (.bool true) ∧ w = w' := by
  have := ref02_Same x y w
  rwa [show (plc x == plc y) = true by rw [plc_nz (h.out.2.trans h'.out.2.symm)]; simp] at this
theorem secs_is (b : Nat) {m V E : Int} {X : Option Nat} (hx : nz b = X) (hV : whNV (secX X) m = V) (hE : whNE (secX X) m = E) (w : World) : Calls Try.prog 29 #[.float .f64 b, .int .i64 m] w fun e w' => e = .returned (.tuple #[.int .i64 V, .int .i64 E]) ∧ Below w.heap.size w w' := by
  have := julian_Secs b m w
  rwa [hx, hV, hE] at this
theorem parts_is (b : Nat) {X Y Z : Option Nat} (hb : b < 18446744073709551616) (hz : nz b = Z) (hX : rdW .down b = X) (hY : fop .sub Z X = Y) (w : World) : Calls Try.prog 31 #[.float .f64 b] w (GF2 w X Y) := by
  have := julian_Parts b hb w
  rwa [hz, hX, hY] at this
theorem rdW_nan {b : Nat} (way : Ieee.Toward) (h : isnan b = true) : rdW way b = none := by simp [rdW, h]
set_option maxRecDepth 100000 in
set_option maxHeartbeats 4000000 in
theorem jul_lives   (w : World) : Calls Try.prog 38 #[] w fun e w' => e = .returned (.bool true) ∧ Below w.heap.size w w' := by
  have o1 : (FloatKind.f64.format.order 4702495533095190528 4702495533095190528 == some Ordering.eq) = true := by kernel_rfl
  have o2 : (FloatKind.f64.format.order 4702495534168932352 4702495534168932352 == some Ordering.eq) = true := by kernel_rfl
  have o3 : (FloatKind.f64.format.order 13830554455654793216 13830554455654793216 == some Ordering.eq) = true := by kernel_rfl
  have o4 : (FloatKind.f64.format.order 4604930618986332160 4604930618986332160 == some Ordering.eq) = true := by kernel_rfl
  have o5 : (FloatKind.f64.format.order 4675811048387772416 4675811048387772416 == some Ordering.eq) = true := by kernel_rfl
  go_enter Try.func38, Try.ntmps38
  go_wp2_with fail
  refine (ref02_Edges _).mono ?_
  rintro e w1 ⟨g, n, rfl, sg, cg_0, cg_1, cg_2, cg_3, cg_4, HN, hb1⟩
  have B1 : Below w.heap.size w w1 := by (focus (repeat' (first | assumption | exact Below.refl _ _ | refine Below.alloc ?_ ?_ _ | refine Below.setCell ?_ ?_ _ | refine Below.drew ?_ | refine below_drewN ?_ _ | refine Below.trans ?_ (Below.mono (by assumption) ?_) | refine Below.trans ?_ (Below.mono (BW.below _) ?_) | (simp; done) | (simp; omega) | omega)))
  have n1 : w.heap.size ≤ w1.heap.size := B1.size
  clear hb1
  go_wp2_with fail
  refine (secs_is 4702495532558319616 (m := 2) (V := -21600) (E := 0) (X := some 4702495532558319616) (by kernel_rfl) (by kernel_rfl) (by kernel_rfl) _).mono ?_
  rintro e w2 ⟨rfl, hb2⟩
  have B2 : Below w.heap.size w w2 := by (focus (repeat' (first | assumption | exact Below.refl _ _ | refine Below.alloc ?_ ?_ _ | refine Below.setCell ?_ ?_ _ | refine Below.drew ?_ | refine below_drewN ?_ _ | refine Below.trans ?_ (Below.mono (by assumption) ?_) | refine Below.trans ?_ (Below.mono (BW.below _) ?_) | (simp; done) | (simp; omega) | omega)))
  have n2 : w.heap.size ≤ w2.heap.size := B2.size
  have s2_0 : g < w2.heap.size := Nat.lt_of_lt_of_le (by first | (simp; done) | (simp; omega) | omega) hb2.size
  have c2_0_0 : w2.cell? ⟨g, 0, none⟩ = some (.float .f64 n) := (hb2.cell (p := ⟨g, 0, none⟩) (by first | (simp; done) | (simp; omega) | omega)).trans (by go_simp)
  have c2_0_1 : w2.cell? ⟨g, 1, none⟩ = some (.float .f64 18442240474082181120) := (hb2.cell (p := ⟨g, 1, none⟩) (by first | (simp; done) | (simp; omega) | omega)).trans (by go_simp)
  have c2_0_2 : w2.cell? ⟨g, 2, none⟩ = some (.float .f64 9223372036854775808) := (hb2.cell (p := ⟨g, 2, none⟩) (by first | (simp; done) | (simp; omega) | omega)).trans (by go_simp)
  have c2_0_3 : w2.cell? ⟨g, 3, none⟩ = some (.float .f64 0) := (hb2.cell (p := ⟨g, 3, none⟩) (by first | (simp; done) | (simp; omega) | omega)).trans (by go_simp)
  have c2_0_4 : w2.cell? ⟨g, 4, none⟩ = some (.float .f64 9218868437227405312) := (hb2.cell (p := ⟨g, 4, none⟩) (by first | (simp; done) | (simp; omega) | omega)).trans (by go_simp)
  clear hb2 cg_0 cg_1 cg_2 cg_3 cg_4 B1
  go_wp2_with fail
  refine (secs_is n (m := 2) (V := 0) (E := 18) (X := none) (nz_none HN.out.1) (by kernel_rfl) (by kernel_rfl) _).mono ?_
  rintro e w3 ⟨rfl, hb3⟩
  have B3 : Below w.heap.size w w3 := by (focus (repeat' (first | assumption | exact Below.refl _ _ | refine Below.alloc ?_ ?_ _ | refine Below.setCell ?_ ?_ _ | refine Below.drew ?_ | refine below_drewN ?_ _ | refine Below.trans ?_ (Below.mono (by assumption) ?_) | refine Below.trans ?_ (Below.mono (BW.below _) ?_) | (simp; done) | (simp; omega) | omega)))
  have n3 : w.heap.size ≤ w3.heap.size := B3.size
  have s3_0 : g < w3.heap.size := Nat.lt_of_lt_of_le (by first | (simp; done) | (simp; omega) | omega) hb3.size
  have c3_0_0 : w3.cell? ⟨g, 0, none⟩ = some (.float .f64 n) := (hb3.cell (p := ⟨g, 0, none⟩) (by first | (simp; done) | (simp; omega) | omega)).trans (by go_simp)
  have c3_0_1 : w3.cell? ⟨g, 1, none⟩ = some (.float .f64 18442240474082181120) := (hb3.cell (p := ⟨g, 1, none⟩) (by first | (simp; done) | (simp; omega) | omega)).trans (by go_simp)
  have c3_0_2 : w3.cell? ⟨g, 2, none⟩ = some (.float .f64 9223372036854775808) := (hb3.cell (p := ⟨g, 2, none⟩) (by first | (simp; done) | (simp; omega) | omega)).trans (by go_simp)
  have c3_0_3 : w3.cell? ⟨g, 3, none⟩ = some (.float .f64 0) := (hb3.cell (p := ⟨g, 3, none⟩) (by first | (simp; done) | (simp; omega) | omega)).trans (by go_simp)
  have c3_0_4 : w3.cell? ⟨g, 4, none⟩ = some (.float .f64 9218868437227405312) := (hb3.cell (p := ⟨g, 4, none⟩) (by first | (simp; done) | (simp; omega) | omega)).trans (by go_simp)
  clear hb3 B2 c2_0_0 c2_0_1 c2_0_2 c2_0_3 c2_0_4
  go_wp2_with fail
  refine (secs_is 9218868437227405312 (m := 2) (V := 0) (E := 1) (X := some 9218868437227405312) (by kernel_rfl) (by kernel_rfl) (by kernel_rfl) _).mono ?_
  rintro e w4 ⟨rfl, hb4⟩
  have B4 : Below w.heap.size w w4 := by (focus (repeat' (first | assumption | exact Below.refl _ _ | refine Below.alloc ?_ ?_ _ | refine Below.setCell ?_ ?_ _ | refine Below.drew ?_ | refine below_drewN ?_ _ | refine Below.trans ?_ (Below.mono (by assumption) ?_) | refine Below.trans ?_ (Below.mono (BW.below _) ?_) | (simp; done) | (simp; omega) | omega)))
  have n4 : w.heap.size ≤ w4.heap.size := B4.size
  have s4_0 : g < w4.heap.size := Nat.lt_of_lt_of_le (by first | (simp; done) | (simp; omega) | omega) hb4.size
  have c4_0_0 : w4.cell? ⟨g, 0, none⟩ = some (.float .f64 n) := (hb4.cell (p := ⟨g, 0, none⟩) (by first | (simp; done) | (simp; omega) | omega)).trans (by go_simp)
  have c4_0_1 : w4.cell? ⟨g, 1, none⟩ = some (.float .f64 18442240474082181120) := (hb4.cell (p := ⟨g, 1, none⟩) (by first | (simp; done) | (simp; omega) | omega)).trans (by go_simp)
  have c4_0_2 : w4.cell? ⟨g, 2, none⟩ = some (.float .f64 9223372036854775808) := (hb4.cell (p := ⟨g, 2, none⟩) (by first | (simp; done) | (simp; omega) | omega)).trans (by go_simp)
  have c4_0_3 : w4.cell? ⟨g, 3, none⟩ = some (.float .f64 0) := (hb4.cell (p := ⟨g, 3, none⟩) (by first | (simp; done) | (simp; omega) | omega)).trans (by go_simp)
  have c4_0_4 : w4.cell? ⟨g, 4, none⟩ = some (.float .f64 9218868437227405312) := (hb4.cell (p := ⟨g, 4, none⟩) (by first | (simp; done) | (simp; omega) | omega)).trans (by go_simp)
  clear hb4 B3 c3_0_0 c3_0_1 c3_0_2 c3_0_3 c3_0_4
  go_wp2_with fail
  refine (secs_is n (m := 0) (V := 0) (E := 4) (X := none) (nz_none HN.out.1) (by kernel_rfl) (by kernel_rfl) _).mono ?_
  rintro e w5 ⟨rfl, hb5⟩
  have B5 : Below w.heap.size w w5 := by (focus (repeat' (first | assumption | exact Below.refl _ _ | refine Below.alloc ?_ ?_ _ | refine Below.setCell ?_ ?_ _ | refine Below.drew ?_ | refine below_drewN ?_ _ | refine Below.trans ?_ (Below.mono (by assumption) ?_) | refine Below.trans ?_ (Below.mono (BW.below _) ?_) | (simp; done) | (simp; omega) | omega)))
  have n5 : w.heap.size ≤ w5.heap.size := B5.size
  have s5_0 : g < w5.heap.size := Nat.lt_of_lt_of_le (by first | (simp; done) | (simp; omega) | omega) hb5.size
  have c5_0_0 : w5.cell? ⟨g, 0, none⟩ = some (.float .f64 n) := (hb5.cell (p := ⟨g, 0, none⟩) (by first | (simp; done) | (simp; omega) | omega)).trans (by go_simp)
  have c5_0_1 : w5.cell? ⟨g, 1, none⟩ = some (.float .f64 18442240474082181120) := (hb5.cell (p := ⟨g, 1, none⟩) (by first | (simp; done) | (simp; omega) | omega)).trans (by go_simp)
  have c5_0_2 : w5.cell? ⟨g, 2, none⟩ = some (.float .f64 9223372036854775808) := (hb5.cell (p := ⟨g, 2, none⟩) (by first | (simp; done) | (simp; omega) | omega)).trans (by go_simp)
  have c5_0_3 : w5.cell? ⟨g, 3, none⟩ = some (.float .f64 0) := (hb5.cell (p := ⟨g, 3, none⟩) (by first | (simp; done) | (simp; omega) | omega)).trans (by go_simp)
  have c5_0_4 : w5.cell? ⟨g, 4, none⟩ = some (.float .f64 9218868437227405312) := (hb5.cell (p := ⟨g, 4, none⟩) (by first | (simp; done) | (simp; omega) | omega)).trans (by go_simp)
  clear hb5 B4 c4_0_0 c4_0_1 c4_0_2 c4_0_3 c4_0_4
  go_wp2_with fail
  refine (gf2_is (parts_is 13821547256400052224 (by decide) rfl rfl rfl _) (by kernel_rfl : _ = some 13830554455654793216) (by kernel_rfl : _ = some 4604930618986332160)).mono ?_
  rintro e w6 ⟨rfl, hb6⟩
  have B6 : Below w.heap.size w w6 := by (focus (repeat' (first | assumption | exact Below.refl _ _ | refine Below.alloc ?_ ?_ _ | refine Below.setCell ?_ ?_ _ | refine Below.drew ?_ | refine below_drewN ?_ _ | refine Below.trans ?_ (Below.mono (by assumption) ?_) | refine Below.trans ?_ (Below.mono (BW.below _) ?_) | (simp; done) | (simp; omega) | omega)))
  have n6 : w.heap.size ≤ w6.heap.size := B6.size
  have s6_0 : g < w6.heap.size := Nat.lt_of_lt_of_le (by first | (simp; done) | (simp; omega) | omega) hb6.size
  have c6_0_0 : w6.cell? ⟨g, 0, none⟩ = some (.float .f64 n) := (hb6.cell (p := ⟨g, 0, none⟩) (by first | (simp; done) | (simp; omega) | omega)).trans (by go_simp)
  have c6_0_1 : w6.cell? ⟨g, 1, none⟩ = some (.float .f64 18442240474082181120) := (hb6.cell (p := ⟨g, 1, none⟩) (by first | (simp; done) | (simp; omega) | omega)).trans (by go_simp)
  have c6_0_2 : w6.cell? ⟨g, 2, none⟩ = some (.float .f64 9223372036854775808) := (hb6.cell (p := ⟨g, 2, none⟩) (by first | (simp; done) | (simp; omega) | omega)).trans (by go_simp)
  have c6_0_3 : w6.cell? ⟨g, 3, none⟩ = some (.float .f64 0) := (hb6.cell (p := ⟨g, 3, none⟩) (by first | (simp; done) | (simp; omega) | omega)).trans (by go_simp)
  have c6_0_4 : w6.cell? ⟨g, 4, none⟩ = some (.float .f64 9218868437227405312) := (hb6.cell (p := ⟨g, 4, none⟩) (by first | (simp; done) | (simp; omega) | omega)).trans (by go_simp)
  clear hb6 B5 c5_0_0 c5_0_1 c5_0_2 c5_0_3 c5_0_4
  go_wp2_with fail
  refine (parts_is n (X := none) (Y := none) (Z := none) HN.out.2 (nz_none HN.out.1) (rdW_nan _ HN.out.1) rfl _).mono ?_
  rintro e w7 ⟨x7, y7, rfl, HX7, HY7, hb7⟩
  have B7 : Below w.heap.size w w7 := by (focus (repeat' (first | assumption | exact Below.refl _ _ | refine Below.alloc ?_ ?_ _ | refine Below.setCell ?_ ?_ _ | refine Below.drew ?_ | refine below_drewN ?_ _ | refine Below.trans ?_ (Below.mono (by assumption) ?_) | refine Below.trans ?_ (Below.mono (BW.below _) ?_) | (simp; done) | (simp; omega) | omega)))
  have n7 : w.heap.size ≤ w7.heap.size := B7.size
  have s7_0 : g < w7.heap.size := Nat.lt_of_lt_of_le (by first | (simp; done) | (simp; omega) | omega) hb7.size
  have c7_0_0 : w7.cell? ⟨g, 0, none⟩ = some (.float .f64 n) := (hb7.cell (p := ⟨g, 0, none⟩) (by first | (simp; done) | (simp; omega) | omega)).trans (by go_simp)
  have c7_0_1 : w7.cell? ⟨g, 1, none⟩ = some (.float .f64 18442240474082181120) := (hb7.cell (p := ⟨g, 1, none⟩) (by first | (simp; done) | (simp; omega) | omega)).trans (by go_simp)
  have c7_0_2 : w7.cell? ⟨g, 2, none⟩ = some (.float .f64 9223372036854775808) := (hb7.cell (p := ⟨g, 2, none⟩) (by first | (simp; done) | (simp; omega) | omega)).trans (by go_simp)
  have c7_0_3 : w7.cell? ⟨g, 3, none⟩ = some (.float .f64 0) := (hb7.cell (p := ⟨g, 3, none⟩) (by first | (simp; done) | (simp; omega) | omega)).trans (by go_simp)
  have c7_0_4 : w7.cell? ⟨g, 4, none⟩ = some (.float .f64 9218868437227405312) := (hb7.cell (p := ⟨g, 4, none⟩) (by first | (simp; done) | (simp; omega) | omega)).trans (by go_simp)
  clear hb7 B6 c6_0_0 c6_0_1 c6_0_2 c6_0_3 c6_0_4
  go_wp2_with fail
  refine (parts_is 9223372036854775808 (X := some 9223372036854775808) (Y := some 0) (Z := some 9223372036854775808) (by decide) (by kernel_rfl) (by kernel_rfl) (by kernel_rfl) _).mono ?_
  rintro e w8 ⟨x8, y8, rfl, HX8, HY8, hb8⟩
  have B8 : Below w.heap.size w w8 := by (focus (repeat' (first | assumption | exact Below.refl _ _ | refine Below.alloc ?_ ?_ _ | refine Below.setCell ?_ ?_ _ | refine Below.drew ?_ | refine below_drewN ?_ _ | refine Below.trans ?_ (Below.mono (by assumption) ?_) | refine Below.trans ?_ (Below.mono (BW.below _) ?_) | (simp; done) | (simp; omega) | omega)))
  have n8 : w.heap.size ≤ w8.heap.size := B8.size
  have s8_0 : g < w8.heap.size := Nat.lt_of_lt_of_le (by first | (simp; done) | (simp; omega) | omega) hb8.size
  have c8_0_0 : w8.cell? ⟨g, 0, none⟩ = some (.float .f64 n) := (hb8.cell (p := ⟨g, 0, none⟩) (by first | (simp; done) | (simp; omega) | omega)).trans (by go_simp)
  have c8_0_1 : w8.cell? ⟨g, 1, none⟩ = some (.float .f64 18442240474082181120) := (hb8.cell (p := ⟨g, 1, none⟩) (by first | (simp; done) | (simp; omega) | omega)).trans (by go_simp)
  have c8_0_2 : w8.cell? ⟨g, 2, none⟩ = some (.float .f64 9223372036854775808) := (hb8.cell (p := ⟨g, 2, none⟩) (by first | (simp; done) | (simp; omega) | omega)).trans (by go_simp)
  have c8_0_3 : w8.cell? ⟨g, 3, none⟩ = some (.float .f64 0) := (hb8.cell (p := ⟨g, 3, none⟩) (by first | (simp; done) | (simp; omega) | omega)).trans (by go_simp)
  have c8_0_4 : w8.cell? ⟨g, 4, none⟩ = some (.float .f64 9218868437227405312) := (hb8.cell (p := ⟨g, 4, none⟩) (by first | (simp; done) | (simp; omega) | omega)).trans (by go_simp)
  clear hb8 B7 c7_0_0 c7_0_1 c7_0_2 c7_0_3 c7_0_4
  go_wp2_with fail
  refine (parts_is 18442240474082181120 (X := some 18442240474082181120) (Y := none) (Z := some 18442240474082181120) (by decide) (by kernel_rfl) (by kernel_rfl) (by kernel_rfl) _).mono ?_
  rintro e w9 ⟨x9, y9, rfl, HX9, HY9, hb9⟩
  have B9 : Below w.heap.size w w9 := by (focus (repeat' (first | assumption | exact Below.refl _ _ | refine Below.alloc ?_ ?_ _ | refine Below.setCell ?_ ?_ _ | refine Below.drew ?_ | refine below_drewN ?_ _ | refine Below.trans ?_ (Below.mono (by assumption) ?_) | refine Below.trans ?_ (Below.mono (BW.below _) ?_) | (simp; done) | (simp; omega) | omega)))
  have n9 : w.heap.size ≤ w9.heap.size := B9.size
  have s9_0 : g < w9.heap.size := Nat.lt_of_lt_of_le (by first | (simp; done) | (simp; omega) | omega) hb9.size
  have c9_0_0 : w9.cell? ⟨g, 0, none⟩ = some (.float .f64 n) := (hb9.cell (p := ⟨g, 0, none⟩) (by first | (simp; done) | (simp; omega) | omega)).trans (by go_simp)
  have c9_0_1 : w9.cell? ⟨g, 1, none⟩ = some (.float .f64 18442240474082181120) := (hb9.cell (p := ⟨g, 1, none⟩) (by first | (simp; done) | (simp; omega) | omega)).trans (by go_simp)
  have c9_0_2 : w9.cell? ⟨g, 2, none⟩ = some (.float .f64 9223372036854775808) := (hb9.cell (p := ⟨g, 2, none⟩) (by first | (simp; done) | (simp; omega) | omega)).trans (by go_simp)
  have c9_0_3 : w9.cell? ⟨g, 3, none⟩ = some (.float .f64 0) := (hb9.cell (p := ⟨g, 3, none⟩) (by first | (simp; done) | (simp; omega) | omega)).trans (by go_simp)
  have c9_0_4 : w9.cell? ⟨g, 4, none⟩ = some (.float .f64 9218868437227405312) := (hb9.cell (p := ⟨g, 4, none⟩) (by first | (simp; done) | (simp; omega) | omega)).trans (by go_simp)
  clear hb9 B8 c8_0_0 c8_0_1 c8_0_2 c8_0_3 c8_0_4
  go_wp2_with fail
  refine (gf_is (julian_Of 0 _) (by kernel_rfl : _ = some 4702495533095190528)).mono ?_
  rintro e w10 ⟨rfl, hb10⟩
  have B10 : Below w.heap.size w w10 := by (focus (repeat' (first | assumption | exact Below.refl _ _ | refine Below.alloc ?_ ?_ _ | refine Below.setCell ?_ ?_ _ | refine Below.drew ?_ | refine below_drewN ?_ _ | refine Below.trans ?_ (Below.mono (by assumption) ?_) | refine Below.trans ?_ (Below.mono (BW.below _) ?_) | (simp; done) | (simp; omega) | omega)))
  have n10 : w.heap.size ≤ w10.heap.size := B10.size
  have s10_0 : g < w10.heap.size := Nat.lt_of_lt_of_le (by first | (simp; done) | (simp; omega) | omega) hb10.size
  have c10_0_0 : w10.cell? ⟨g, 0, none⟩ = some (.float .f64 n) := (hb10.cell (p := ⟨g, 0, none⟩) (by first | (simp; done) | (simp; omega) | omega)).trans (by go_simp)
  have c10_0_1 : w10.cell? ⟨g, 1, none⟩ = some (.float .f64 18442240474082181120) := (hb10.cell (p := ⟨g, 1, none⟩) (by first | (simp; done) | (simp; omega) | omega)).trans (by go_simp)
  have c10_0_2 : w10.cell? ⟨g, 2, none⟩ = some (.float .f64 9223372036854775808) := (hb10.cell (p := ⟨g, 2, none⟩) (by first | (simp; done) | (simp; omega) | omega)).trans (by go_simp)
  have c10_0_3 : w10.cell? ⟨g, 3, none⟩ = some (.float .f64 0) := (hb10.cell (p := ⟨g, 3, none⟩) (by first | (simp; done) | (simp; omega) | omega)).trans (by go_simp)
  have c10_0_4 : w10.cell? ⟨g, 4, none⟩ = some (.float .f64 9218868437227405312) := (hb10.cell (p := ⟨g, 4, none⟩) (by first | (simp; done) | (simp; omega) | omega)).trans (by go_simp)
  clear hb10 B9 c9_0_0 c9_0_1 c9_0_2 c9_0_3 c9_0_4
  go_wp2_with fail
  refine (gf_is (julian_Of 43200 _) (by kernel_rfl : _ = some 4702495534168932352)).mono ?_
  rintro e w11 ⟨rfl, hb11⟩
  have B11 : Below w.heap.size w w11 := by (focus (repeat' (first | assumption | exact Below.refl _ _ | refine Below.alloc ?_ ?_ _ | refine Below.setCell ?_ ?_ _ | refine Below.drew ?_ | refine below_drewN ?_ _ | refine Below.trans ?_ (Below.mono (by assumption) ?_) | refine Below.trans ?_ (Below.mono (BW.below _) ?_) | (simp; done) | (simp; omega) | omega)))
  have n11 : w.heap.size ≤ w11.heap.size := B11.size
  have s11_0 : g < w11.heap.size := Nat.lt_of_lt_of_le (by first | (simp; done) | (simp; omega) | omega) hb11.size
  have c11_0_0 : w11.cell? ⟨g, 0, none⟩ = some (.float .f64 n) := (hb11.cell (p := ⟨g, 0, none⟩) (by first | (simp; done) | (simp; omega) | omega)).trans (by go_simp)
  have c11_0_1 : w11.cell? ⟨g, 1, none⟩ = some (.float .f64 18442240474082181120) := (hb11.cell (p := ⟨g, 1, none⟩) (by first | (simp; done) | (simp; omega) | omega)).trans (by go_simp)
  have c11_0_2 : w11.cell? ⟨g, 2, none⟩ = some (.float .f64 9223372036854775808) := (hb11.cell (p := ⟨g, 2, none⟩) (by first | (simp; done) | (simp; omega) | omega)).trans (by go_simp)
  have c11_0_3 : w11.cell? ⟨g, 3, none⟩ = some (.float .f64 0) := (hb11.cell (p := ⟨g, 3, none⟩) (by first | (simp; done) | (simp; omega) | omega)).trans (by go_simp)
  have c11_0_4 : w11.cell? ⟨g, 4, none⟩ = some (.float .f64 9218868437227405312) := (hb11.cell (p := ⟨g, 4, none⟩) (by first | (simp; done) | (simp; omega) | omega)).trans (by go_simp)
  clear hb11 B10 c10_0_0 c10_0_1 c10_0_2 c10_0_3 c10_0_4
  go_wp2_with fail
  refine (kind_of HX7 (k := 0) rfl _).mono ?_
  rintro e w' ⟨rfl, rfl⟩
  go_wp2_with fail
  refine (kind_of HY7 (k := 0) rfl _).mono ?_
  rintro e w' ⟨rfl, rfl⟩
  go_wp2_with fail
  refine (kind_of HX8 (k := 3) (by kernel_rfl) _).mono ?_
  rintro e w' ⟨rfl, rfl⟩
  go_wp2_with fail
  refine (kind_of HY8 (k := 4) (by kernel_rfl) _).mono ?_
  rintro e w' ⟨rfl, rfl⟩
  go_wp2_with fail
  refine (kind_of HY9 (k := 0) rfl _).mono ?_
  rintro e w' ⟨rfl, rfl⟩
  go_wp2_with fail
  refine (gf_is (julian_Modified 4702495533095190528 _) (by kernel_rfl : _ = some 4675811048387772416)).mono ?_
  rintro e w17 ⟨rfl, hb17⟩
  have B17 : Below w.heap.size w w17 := by (focus (repeat' (first | assumption | exact Below.refl _ _ | refine Below.alloc ?_ ?_ _ | refine Below.setCell ?_ ?_ _ | refine Below.drew ?_ | refine below_drewN ?_ _ | refine Below.trans ?_ (Below.mono (by assumption) ?_) | refine Below.trans ?_ (Below.mono (BW.below _) ?_) | (simp; done) | (simp; omega) | omega)))
  have n17 : w.heap.size ≤ w17.heap.size := B17.size
  have s17_0 : g < w17.heap.size := Nat.lt_of_lt_of_le (by first | (simp; done) | (simp; omega) | omega) hb17.size
  have c17_0_0 : w17.cell? ⟨g, 0, none⟩ = some (.float .f64 n) := (hb17.cell (p := ⟨g, 0, none⟩) (by first | (simp; done) | (simp; omega) | omega)).trans (by go_simp)
  have c17_0_1 : w17.cell? ⟨g, 1, none⟩ = some (.float .f64 18442240474082181120) := (hb17.cell (p := ⟨g, 1, none⟩) (by first | (simp; done) | (simp; omega) | omega)).trans (by go_simp)
  have c17_0_2 : w17.cell? ⟨g, 2, none⟩ = some (.float .f64 9223372036854775808) := (hb17.cell (p := ⟨g, 2, none⟩) (by first | (simp; done) | (simp; omega) | omega)).trans (by go_simp)
  have c17_0_3 : w17.cell? ⟨g, 3, none⟩ = some (.float .f64 0) := (hb17.cell (p := ⟨g, 3, none⟩) (by first | (simp; done) | (simp; omega) | omega)).trans (by go_simp)
  have c17_0_4 : w17.cell? ⟨g, 4, none⟩ = some (.float .f64 9218868437227405312) := (hb17.cell (p := ⟨g, 4, none⟩) (by first | (simp; done) | (simp; omega) | omega)).trans (by go_simp)
  clear hb17 B11 c11_0_0 c11_0_1 c11_0_2 c11_0_3 c11_0_4
  go_wp2_with fail
  refine (gf_is (julian_Modified 18442240474082181120 _) (by kernel_rfl : _ = some 18442240474082181120)).mono ?_
  rintro e w18 ⟨rfl, hb18⟩
  have B18 : Below w.heap.size w w18 := by (focus (repeat' (first | assumption | exact Below.refl _ _ | refine Below.alloc ?_ ?_ _ | refine Below.setCell ?_ ?_ _ | refine Below.drew ?_ | refine below_drewN ?_ _ | refine Below.trans ?_ (Below.mono (by assumption) ?_) | refine Below.trans ?_ (Below.mono (BW.below _) ?_) | (simp; done) | (simp; omega) | omega)))
  have n18 : w.heap.size ≤ w18.heap.size := B18.size
  clear hb18 B17 c17_0_0 c17_0_1 c17_0_2 c17_0_3 c17_0_4
  go_wp2_with fail
  refine (kind_is 18442240474082181120 (k := 1) (by decide) (by kernel_rfl) _).mono ?_
  rintro e w' ⟨rfl, rfl⟩
  go_wp2_with fail
  go_ret
  exact ⟨rfl, by (focus (repeat' (first | assumption | exact Below.refl _ _ | refine Below.alloc ?_ ?_ _ | refine Below.setCell ?_ ?_ _ | refine Below.drew ?_ | refine below_drewN ?_ _ | refine Below.trans ?_ (Below.mono (by assumption) ?_) | refine Below.trans ?_ (Below.mono (BW.below _) ?_) | (simp; done) | (simp; omega) | omega)))⟩
end Go.Proofs.Ytblmlglkjmilkab
