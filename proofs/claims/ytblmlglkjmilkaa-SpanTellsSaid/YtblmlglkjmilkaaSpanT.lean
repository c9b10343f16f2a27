/-
  The walks of the three laws on spans.
-/
import Derived.Test.YtblmlglkjmilkaaSpanV
namespace Go.Proofs.Ytblmlglkjmilkaa
open Go.RowKit

theorem held_right {w w' : World} (h : (∀ b o, b < w.heap.size → w'.cell? ⟨b, o, none⟩ = w.cell? ⟨b, o, none⟩) ∧ Below w.heap.size w w') : Below w.heap.size w w' := h.2
set_option maxRecDepth 100000 in
set_option maxHeartbeats 4000000 in
theorem SpanTells_walk (a b c d t : Int) (ka : I64 a) (kb : I64 b) (kc : I64 c) (kd : I64 d) (kt : I64 t) (w : World) : Calls Try.prog 3 #[spn a b, spn c d, .int .i64 t] w fun e w' => e = .returned (.bool true) ∧ Below w.heap.size w w' := by
  go_enter Try.func3, Try.ntmps3
  go_wp2_with fail
  refine (span_Both a b c d _).mono ?_
  rintro e w1 ⟨rfl, hb1⟩
  have B1 : Below w.heap.size w w1 := by (focus (repeat' (first | assumption | exact Below.refl _ _ | refine Below.alloc ?_ ?_ _ | refine Below.setCell ?_ ?_ _ | refine Below.drew ?_ | refine below_drewN ?_ _ | refine Below.trans ?_ (Below.mono (by assumption) ?_) | refine Below.trans ?_ (Below.mono (BW.below _) ?_) | (simp; done) | (simp; omega) | omega)))
  have s1_0 : w.heap.size < w1.heap.size := Nat.lt_of_lt_of_le (by first | (simp; done) | (simp; omega) | omega) hb1.size
  have c1_0_0 : w1.cell? ⟨w.heap.size, 0, none⟩ = some (.int .i64 (a)) := (hb1.cell (p := ⟨w.heap.size, 0, none⟩) (by first | (simp; done) | (simp; omega) | omega)).trans (by go_simp)
  have c1_0_1 : w1.cell? ⟨w.heap.size, 1, none⟩ = some (.int .i64 (b)) := (hb1.cell (p := ⟨w.heap.size, 1, none⟩) (by first | (simp; done) | (simp; omega) | omega)).trans (by go_simp)
  have s1_1 : w.heap.size + 1 < w1.heap.size := Nat.lt_of_lt_of_le (by first | (simp; done) | (simp; omega) | omega) hb1.size
  have c1_1_0 : w1.cell? ⟨w.heap.size + 1, 0, none⟩ = some (.int .i64 (c)) := (hb1.cell (p := ⟨w.heap.size + 1, 0, none⟩) (by first | (simp; done) | (simp; omega) | omega)).trans (by go_simp)
  have c1_1_1 : w1.cell? ⟨w.heap.size + 1, 1, none⟩ = some (.int .i64 (d)) := (hb1.cell (p := ⟨w.heap.size + 1, 1, none⟩) (by first | (simp; done) | (simp; omega) | omega)).trans (by go_simp)
  clear hb1
  go_wp2_with fail
  refine (ref10_Both a b c d _).mono ?_
  rintro e w2 ⟨rfl, hb2⟩
  have B2 : Below w.heap.size w w2 := by (focus (repeat' (first | assumption | exact Below.refl _ _ | refine Below.alloc ?_ ?_ _ | refine Below.setCell ?_ ?_ _ | refine Below.drew ?_ | refine below_drewN ?_ _ | refine Below.trans ?_ (Below.mono (by assumption) ?_) | refine Below.trans ?_ (Below.mono (BW.below _) ?_) | (simp; done) | (simp; omega) | omega)))
  have s2_0 : w.heap.size < w2.heap.size := Nat.lt_of_lt_of_le (by first | (simp; done) | (simp; omega) | omega) hb2.size
  have c2_0_0 : w2.cell? ⟨w.heap.size, 0, none⟩ = some (.int .i64 (a)) := (hb2.cell (p := ⟨w.heap.size, 0, none⟩) (by first | (simp; done) | (simp; omega) | omega)).trans (by go_simp)
  have c2_0_1 : w2.cell? ⟨w.heap.size, 1, none⟩ = some (.int .i64 (b)) := (hb2.cell (p := ⟨w.heap.size, 1, none⟩) (by first | (simp; done) | (simp; omega) | omega)).trans (by go_simp)
  have s2_1 : w.heap.size + 1 < w2.heap.size := Nat.lt_of_lt_of_le (by first | (simp; done) | (simp; omega) | omega) hb2.size
  have c2_1_0 : w2.cell? ⟨w.heap.size + 1, 0, none⟩ = some (.int .i64 (c)) := (hb2.cell (p := ⟨w.heap.size + 1, 0, none⟩) (by first | (simp; done) | (simp; omega) | omega)).trans (by go_simp)
  have c2_1_1 : w2.cell? ⟨w.heap.size + 1, 1, none⟩ = some (.int .i64 (d)) := (hb2.cell (p := ⟨w.heap.size + 1, 1, none⟩) (by first | (simp; done) | (simp; omega) | omega)).trans (by go_simp)
  have s2_2 : w1.heap.size < w2.heap.size := Nat.lt_of_lt_of_le (by first | (simp; done) | (simp; omega) | omega) hb2.size
  have c2_2_0 : w2.cell? ⟨w1.heap.size, 0, none⟩ = some (.int .i64 (bothF a b c d)) := (hb2.cell (p := ⟨w1.heap.size, 0, none⟩) (by first | (simp; done) | (simp; omega) | omega)).trans (by go_simp)
  have c2_2_1 : w2.cell? ⟨w1.heap.size, 1, none⟩ = some (.int .i64 (bothT a b c d)) := (hb2.cell (p := ⟨w1.heap.size, 1, none⟩) (by first | (simp; done) | (simp; omega) | omega)).trans (by go_simp)
  clear hb2 B1 s1_0 c1_0_0 c1_0_1 s1_1 c1_1_0 c1_1_1
  go_wp2_with fail
  refine (span_Join a b c d _).mono ?_
  rintro e w3 ⟨rfl, hb3⟩
  have B3 : Below w.heap.size w w3 := by (focus (repeat' (first | assumption | exact Below.refl _ _ | refine Below.alloc ?_ ?_ _ | refine Below.setCell ?_ ?_ _ | refine Below.drew ?_ | refine below_drewN ?_ _ | refine Below.trans ?_ (Below.mono (by assumption) ?_) | refine Below.trans ?_ (Below.mono (BW.below _) ?_) | (simp; done) | (simp; omega) | omega)))
  have s3_0 : w.heap.size < w3.heap.size := Nat.lt_of_lt_of_le (by first | (simp; done) | (simp; omega) | omega) hb3.size
  have c3_0_0 : w3.cell? ⟨w.heap.size, 0, none⟩ = some (.int .i64 (a)) := (hb3.cell (p := ⟨w.heap.size, 0, none⟩) (by first | (simp; done) | (simp; omega) | omega)).trans (by go_simp)
  have c3_0_1 : w3.cell? ⟨w.heap.size, 1, none⟩ = some (.int .i64 (b)) := (hb3.cell (p := ⟨w.heap.size, 1, none⟩) (by first | (simp; done) | (simp; omega) | omega)).trans (by go_simp)
  have s3_1 : w.heap.size + 1 < w3.heap.size := Nat.lt_of_lt_of_le (by first | (simp; done) | (simp; omega) | omega) hb3.size
  have c3_1_0 : w3.cell? ⟨w.heap.size + 1, 0, none⟩ = some (.int .i64 (c)) := (hb3.cell (p := ⟨w.heap.size + 1, 0, none⟩) (by first | (simp; done) | (simp; omega) | omega)).trans (by go_simp)
  have c3_1_1 : w3.cell? ⟨w.heap.size + 1, 1, none⟩ = some (.int .i64 (d)) := (hb3.cell (p := ⟨w.heap.size + 1, 1, none⟩) (by first | (simp; done) | (simp; omega) | omega)).trans (by go_simp)
  have s3_2 : w1.heap.size < w3.heap.size := Nat.lt_of_lt_of_le (by first | (simp; done) | (simp; omega) | omega) hb3.size
  have c3_2_0 : w3.cell? ⟨w1.heap.size, 0, none⟩ = some (.int .i64 (bothF a b c d)) := (hb3.cell (p := ⟨w1.heap.size, 0, none⟩) (by first | (simp; done) | (simp; omega) | omega)).trans (by go_simp)
  have c3_2_1 : w3.cell? ⟨w1.heap.size, 1, none⟩ = some (.int .i64 (bothT a b c d)) := (hb3.cell (p := ⟨w1.heap.size, 1, none⟩) (by first | (simp; done) | (simp; omega) | omega)).trans (by go_simp)
  have s3_3 : w2.heap.size < w3.heap.size := Nat.lt_of_lt_of_le (by first | (simp; done) | (simp; omega) | omega) hb3.size
  have c3_3_0 : w3.cell? ⟨w2.heap.size, 0, none⟩ = some (.int .i64 (bothF a b c d)) := (hb3.cell (p := ⟨w2.heap.size, 0, none⟩) (by first | (simp; done) | (simp; omega) | omega)).trans (by go_simp)
  have c3_3_1 : w3.cell? ⟨w2.heap.size, 1, none⟩ = some (.int .i64 (bothT a b c d)) := (hb3.cell (p := ⟨w2.heap.size, 1, none⟩) (by first | (simp; done) | (simp; omega) | omega)).trans (by go_simp)
  clear hb3 B2 s2_0 c2_0_0 c2_0_1 s2_1 c2_1_0 c2_1_1 s2_2 c2_2_0 c2_2_1
  go_wp2_with fail
  refine (ref10_Join a b c d _).mono ?_
  rintro e w4 ⟨rfl, hb4⟩
  have B4 : Below w.heap.size w w4 := by (focus (repeat' (first | assumption | exact Below.refl _ _ | refine Below.alloc ?_ ?_ _ | refine Below.setCell ?_ ?_ _ | refine Below.drew ?_ | refine below_drewN ?_ _ | refine Below.trans ?_ (Below.mono (by assumption) ?_) | refine Below.trans ?_ (Below.mono (BW.below _) ?_) | (simp; done) | (simp; omega) | omega)))
  have s4_0 : w.heap.size < w4.heap.size := Nat.lt_of_lt_of_le (by first | (simp; done) | (simp; omega) | omega) hb4.size
  have c4_0_0 : w4.cell? ⟨w.heap.size, 0, none⟩ = some (.int .i64 (a)) := (hb4.cell (p := ⟨w.heap.size, 0, none⟩) (by first | (simp; done) | (simp; omega) | omega)).trans (by go_simp)
  have c4_0_1 : w4.cell? ⟨w.heap.size, 1, none⟩ = some (.int .i64 (b)) := (hb4.cell (p := ⟨w.heap.size, 1, none⟩) (by first | (simp; done) | (simp; omega) | omega)).trans (by go_simp)
  have s4_1 : w.heap.size + 1 < w4.heap.size := Nat.lt_of_lt_of_le (by first | (simp; done) | (simp; omega) | omega) hb4.size
  have c4_1_0 : w4.cell? ⟨w.heap.size + 1, 0, none⟩ = some (.int .i64 (c)) := (hb4.cell (p := ⟨w.heap.size + 1, 0, none⟩) (by first | (simp; done) | (simp; omega) | omega)).trans (by go_simp)
  have c4_1_1 : w4.cell? ⟨w.heap.size + 1, 1, none⟩ = some (.int .i64 (d)) := (hb4.cell (p := ⟨w.heap.size + 1, 1, none⟩) (by first | (simp; done) | (simp; omega) | omega)).trans (by go_simp)
  have s4_2 : w1.heap.size < w4.heap.size := Nat.lt_of_lt_of_le (by first | (simp; done) | (simp; omega) | omega) hb4.size
  have c4_2_0 : w4.cell? ⟨w1.heap.size, 0, none⟩ = some (.int .i64 (bothF a b c d)) := (hb4.cell (p := ⟨w1.heap.size, 0, none⟩) (by first | (simp; done) | (simp; omega) | omega)).trans (by go_simp)
  have c4_2_1 : w4.cell? ⟨w1.heap.size, 1, none⟩ = some (.int .i64 (bothT a b c d)) := (hb4.cell (p := ⟨w1.heap.size, 1, none⟩) (by first | (simp; done) | (simp; omega) | omega)).trans (by go_simp)
  have s4_3 : w2.heap.size < w4.heap.size := Nat.lt_of_lt_of_le (by first | (simp; done) | (simp; omega) | omega) hb4.size
  have c4_3_0 : w4.cell? ⟨w2.heap.size, 0, none⟩ = some (.int .i64 (bothF a b c d)) := (hb4.cell (p := ⟨w2.heap.size, 0, none⟩) (by first | (simp; done) | (simp; omega) | omega)).trans (by go_simp)
  have c4_3_1 : w4.cell? ⟨w2.heap.size, 1, none⟩ = some (.int .i64 (bothT a b c d)) := (hb4.cell (p := ⟨w2.heap.size, 1, none⟩) (by first | (simp; done) | (simp; omega) | omega)).trans (by go_simp)
  have s4_4 : w3.heap.size < w4.heap.size := Nat.lt_of_lt_of_le (by first | (simp; done) | (simp; omega) | omega) hb4.size
  have c4_4_0 : w4.cell? ⟨w3.heap.size, 0, none⟩ = some (.int .i64 (joinF a b c d)) := (hb4.cell (p := ⟨w3.heap.size, 0, none⟩) (by first | (simp; done) | (simp; omega) | omega)).trans (by go_simp)
  have c4_4_1 : w4.cell? ⟨w3.heap.size, 1, none⟩ = some (.int .i64 (joinT a b c d)) := (hb4.cell (p := ⟨w3.heap.size, 1, none⟩) (by first | (simp; done) | (simp; omega) | omega)).trans (by go_simp)
  clear hb4 B3 s3_0 c3_0_0 c3_0_1 s3_1 c3_1_0 c3_1_1 s3_2 c3_2_0 c3_2_1 s3_3 c3_3_0 c3_3_1
  go_wp2_with fail
  refine (span_Len a b ka kb _).mono ?_
  rintro e w5 ⟨rfl, hb5⟩
  have B5 : Below w.heap.size w w5 := by (focus (repeat' (first | assumption | exact Below.refl _ _ | refine Below.alloc ?_ ?_ _ | refine Below.setCell ?_ ?_ _ | refine Below.drew ?_ | refine below_drewN ?_ _ | refine Below.trans ?_ (Below.mono (by assumption) ?_) | refine Below.trans ?_ (Below.mono (BW.below _) ?_) | (simp; done) | (simp; omega) | omega)))
  have s5_0 : w.heap.size < w5.heap.size := Nat.lt_of_lt_of_le (by first | (simp; done) | (simp; omega) | omega) hb5.size
  have c5_0_0 : w5.cell? ⟨w.heap.size, 0, none⟩ = some (.int .i64 (a)) := (hb5.cell (p := ⟨w.heap.size, 0, none⟩) (by first | (simp; done) | (simp; omega) | omega)).trans (by go_simp)
  have c5_0_1 : w5.cell? ⟨w.heap.size, 1, none⟩ = some (.int .i64 (b)) := (hb5.cell (p := ⟨w.heap.size, 1, none⟩) (by first | (simp; done) | (simp; omega) | omega)).trans (by go_simp)
  have s5_1 : w.heap.size + 1 < w5.heap.size := Nat.lt_of_lt_of_le (by first | (simp; done) | (simp; omega) | omega) hb5.size
  have c5_1_0 : w5.cell? ⟨w.heap.size + 1, 0, none⟩ = some (.int .i64 (c)) := (hb5.cell (p := ⟨w.heap.size + 1, 0, none⟩) (by first | (simp; done) | (simp; omega) | omega)).trans (by go_simp)
  have c5_1_1 : w5.cell? ⟨w.heap.size + 1, 1, none⟩ = some (.int .i64 (d)) := (hb5.cell (p := ⟨w.heap.size + 1, 1, none⟩) (by first | (simp; done) | (simp; omega) | omega)).trans (by go_simp)
  have s5_2 : w1.heap.size < w5.heap.size := Nat.lt_of_lt_of_le (by first | (simp; done) | (simp; omega) | omega) hb5.size
  have c5_2_0 : w5.cell? ⟨w1.heap.size, 0, none⟩ = some (.int .i64 (bothF a b c d)) := (hb5.cell (p := ⟨w1.heap.size, 0, none⟩) (by first | (simp; done) | (simp; omega) | omega)).trans (by go_simp)
  have c5_2_1 : w5.cell? ⟨w1.heap.size, 1, none⟩ = some (.int .i64 (bothT a b c d)) := (hb5.cell (p := ⟨w1.heap.size, 1, none⟩) (by first | (simp; done) | (simp; omega) | omega)).trans (by go_simp)
  have s5_3 : w2.heap.size < w5.heap.size := Nat.lt_of_lt_of_le (by first | (simp; done) | (simp; omega) | omega) hb5.size
  have c5_3_0 : w5.cell? ⟨w2.heap.size, 0, none⟩ = some (.int .i64 (bothF a b c d)) := (hb5.cell (p := ⟨w2.heap.size, 0, none⟩) (by first | (simp; done) | (simp; omega) | omega)).trans (by go_simp)
  have c5_3_1 : w5.cell? ⟨w2.heap.size, 1, none⟩ = some (.int .i64 (bothT a b c d)) := (hb5.cell (p := ⟨w2.heap.size, 1, none⟩) (by first | (simp; done) | (simp; omega) | omega)).trans (by go_simp)
  have s5_4 : w3.heap.size < w5.heap.size := Nat.lt_of_lt_of_le (by first | (simp; done) | (simp; omega) | omega) hb5.size
  have c5_4_0 : w5.cell? ⟨w3.heap.size, 0, none⟩ = some (.int .i64 (joinF a b c d)) := (hb5.cell (p := ⟨w3.heap.size, 0, none⟩) (by first | (simp; done) | (simp; omega) | omega)).trans (by go_simp)
  have c5_4_1 : w5.cell? ⟨w3.heap.size, 1, none⟩ = some (.int .i64 (joinT a b c d)) := (hb5.cell (p := ⟨w3.heap.size, 1, none⟩) (by first | (simp; done) | (simp; omega) | omega)).trans (by go_simp)
  have s5_5 : w4.heap.size < w5.heap.size := Nat.lt_of_lt_of_le (by first | (simp; done) | (simp; omega) | omega) hb5.size
  have c5_5_0 : w5.cell? ⟨w4.heap.size, 0, none⟩ = some (.int .i64 (joinF a b c d)) := (hb5.cell (p := ⟨w4.heap.size, 0, none⟩) (by first | (simp; done) | (simp; omega) | omega)).trans (by go_simp)
  have c5_5_1 : w5.cell? ⟨w4.heap.size, 1, none⟩ = some (.int .i64 (joinT a b c d)) := (hb5.cell (p := ⟨w4.heap.size, 1, none⟩) (by first | (simp; done) | (simp; omega) | omega)).trans (by go_simp)
  clear hb5 B4 s4_0 c4_0_0 c4_0_1 s4_1 c4_1_0 c4_1_1 s4_2 c4_2_0 c4_2_1 s4_3 c4_3_0 c4_3_1 s4_4 c4_4_0 c4_4_1
  go_wp2_with fail
  refine (ref10_Len a b ka kb _).mono ?_
  rintro e w6 ⟨rfl, hb6⟩
  have B6 : Below w.heap.size w w6 := by (focus (repeat' (first | assumption | exact Below.refl _ _ | refine Below.alloc ?_ ?_ _ | refine Below.setCell ?_ ?_ _ | refine Below.drew ?_ | refine below_drewN ?_ _ | refine Below.trans ?_ (Below.mono (by assumption) ?_) | refine Below.trans ?_ (Below.mono (BW.below _) ?_) | (simp; done) | (simp; omega) | omega)))
  have s6_0 : w.heap.size < w6.heap.size := Nat.lt_of_lt_of_le (by first | (simp; done) | (simp; omega) | omega) hb6.size
  have c6_0_0 : w6.cell? ⟨w.heap.size, 0, none⟩ = some (.int .i64 (a)) := (hb6.cell (p := ⟨w.heap.size, 0, none⟩) (by first | (simp; done) | (simp; omega) | omega)).trans (by go_simp)
  have c6_0_1 : w6.cell? ⟨w.heap.size, 1, none⟩ = some (.int .i64 (b)) := (hb6.cell (p := ⟨w.heap.size, 1, none⟩) (by first | (simp; done) | (simp; omega) | omega)).trans (by go_simp)
  have s6_1 : w.heap.size + 1 < w6.heap.size := Nat.lt_of_lt_of_le (by first | (simp; done) | (simp; omega) | omega) hb6.size
  have c6_1_0 : w6.cell? ⟨w.heap.size + 1, 0, none⟩ = some (.int .i64 (c)) := (hb6.cell (p := ⟨w.heap.size + 1, 0, none⟩) (by first | (simp; done) | (simp; omega) | omega)).trans (by go_simp)
  have c6_1_1 : w6.cell? ⟨w.heap.size + 1, 1, none⟩ = some (.int .i64 (d)) := (hb6.cell (p := ⟨w.heap.size + 1, 1, none⟩) (by first | (simp; done) | (simp; omega) | omega)).trans (by go_simp)
  have s6_2 : w1.heap.size < w6.heap.size := Nat.lt_of_lt_of_le (by first | (simp; done) | (simp; omega) | omega) hb6.size
  have c6_2_0 : w6.cell? ⟨w1.heap.size, 0, none⟩ = some (.int .i64 (bothF a b c d)) := (hb6.cell (p := ⟨w1.heap.size, 0, none⟩) (by first | (simp; done) | (simp; omega) | omega)).trans (by go_simp)
  have c6_2_1 : w6.cell? ⟨w1.heap.size, 1, none⟩ = some (.int .i64 (bothT a b c d)) := (hb6.cell (p := ⟨w1.heap.size, 1, none⟩) (by first | (simp; done) | (simp; omega) | omega)).trans (by go_simp)
  have s6_3 : w2.heap.size < w6.heap.size := Nat.lt_of_lt_of_le (by first | (simp; done) | (simp; omega) | omega) hb6.size
  have c6_3_0 : w6.cell? ⟨w2.heap.size, 0, none⟩ = some (.int .i64 (bothF a b c d)) := (hb6.cell (p := ⟨w2.heap.size, 0, none⟩) (by first | (simp; done) | (simp; omega) | omega)).trans (by go_simp)
  have c6_3_1 : w6.cell? ⟨w2.heap.size, 1, none⟩ = some (.int .i64 (bothT a b c d)) := (hb6.cell (p := ⟨w2.heap.size, 1, none⟩) (by first | (simp; done) | (simp; omega) | omega)).trans (by go_simp)
  have s6_4 : w3.heap.size < w6.heap.size := Nat.lt_of_lt_of_le (by first | (simp; done) | (simp; omega) | omega) hb6.size
  have c6_4_0 : w6.cell? ⟨w3.heap.size, 0, none⟩ = some (.int .i64 (joinF a b c d)) := (hb6.cell (p := ⟨w3.heap.size, 0, none⟩) (by first | (simp; done) | (simp; omega) | omega)).trans (by go_simp)
  have c6_4_1 : w6.cell? ⟨w3.heap.size, 1, none⟩ = some (.int .i64 (joinT a b c d)) := (hb6.cell (p := ⟨w3.heap.size, 1, none⟩) (by first | (simp; done) | (simp; omega) | omega)).trans (by go_simp)
  have s6_5 : w4.heap.size < w6.heap.size := Nat.lt_of_lt_of_le (by first | (simp; done) | (simp; omega) | omega) hb6.size
  have c6_5_0 : w6.cell? ⟨w4.heap.size, 0, none⟩ = some (.int .i64 (joinF a b c d)) := (hb6.cell (p := ⟨w4.heap.size, 0, none⟩) (by first | (simp; done) | (simp; omega) | omega)).trans (by go_simp)
  have c6_5_1 : w6.cell? ⟨w4.heap.size, 1, none⟩ = some (.int .i64 (joinT a b c d)) := (hb6.cell (p := ⟨w4.heap.size, 1, none⟩) (by first | (simp; done) | (simp; omega) | omega)).trans (by go_simp)
  clear hb6 B5 s5_0 c5_0_0 c5_0_1 s5_1 c5_1_0 c5_1_1 s5_2 c5_2_0 c5_2_1 s5_3 c5_3_0 c5_3_1 s5_4 c5_4_0 c5_4_1 s5_5 c5_5_0 c5_5_1
  go_wp2_with fail
  refine (span_Move a b t ka kb kt _).mono ?_
  rintro e w7 ⟨rfl, hb7⟩
  have B7 : Below w.heap.size w w7 := by (focus (repeat' (first | assumption | exact Below.refl _ _ | refine Below.alloc ?_ ?_ _ | refine Below.setCell ?_ ?_ _ | refine Below.drew ?_ | refine below_drewN ?_ _ | refine Below.trans ?_ (Below.mono (by assumption) ?_) | refine Below.trans ?_ (Below.mono (BW.below _) ?_) | (simp; done) | (simp; omega) | omega)))
  have s7_0 : w.heap.size < w7.heap.size := Nat.lt_of_lt_of_le (by first | (simp; done) | (simp; omega) | omega) hb7.size
  have c7_0_0 : w7.cell? ⟨w.heap.size, 0, none⟩ = some (.int .i64 (a)) := (hb7.cell (p := ⟨w.heap.size, 0, none⟩) (by first | (simp; done) | (simp; omega) | omega)).trans (by go_simp)
  have c7_0_1 : w7.cell? ⟨w.heap.size, 1, none⟩ = some (.int .i64 (b)) := (hb7.cell (p := ⟨w.heap.size, 1, none⟩) (by first | (simp; done) | (simp; omega) | omega)).trans (by go_simp)
  have s7_1 : w.heap.size + 1 < w7.heap.size := Nat.lt_of_lt_of_le (by first | (simp; done) | (simp; omega) | omega) hb7.size
  have c7_1_0 : w7.cell? ⟨w.heap.size + 1, 0, none⟩ = some (.int .i64 (c)) := (hb7.cell (p := ⟨w.heap.size + 1, 0, none⟩) (by first | (simp; done) | (simp; omega) | omega)).trans (by go_simp)
  have c7_1_1 : w7.cell? ⟨w.heap.size + 1, 1, none⟩ = some (.int .i64 (d)) := (hb7.cell (p := ⟨w.heap.size + 1, 1, none⟩) (by first | (simp; done) | (simp; omega) | omega)).trans (by go_simp)
  have s7_2 : w1.heap.size < w7.heap.size := Nat.lt_of_lt_of_le (by first | (simp; done) | (simp; omega) | omega) hb7.size
  have c7_2_0 : w7.cell? ⟨w1.heap.size, 0, none⟩ = some (.int .i64 (bothF a b c d)) := (hb7.cell (p := ⟨w1.heap.size, 0, none⟩) (by first | (simp; done) | (simp; omega) | omega)).trans (by go_simp)
  have c7_2_1 : w7.cell? ⟨w1.heap.size, 1, none⟩ = some (.int .i64 (bothT a b c d)) := (hb7.cell (p := ⟨w1.heap.size, 1, none⟩) (by first | (simp; done) | (simp; omega) | omega)).trans (by go_simp)
  have s7_3 : w2.heap.size < w7.heap.size := Nat.lt_of_lt_of_le (by first | (simp; done) | (simp; omega) | omega) hb7.size
  have c7_3_0 : w7.cell? ⟨w2.heap.size, 0, none⟩ = some (.int .i64 (bothF a b c d)) := (hb7.cell (p := ⟨w2.heap.size, 0, none⟩) (by first | (simp; done) | (simp; omega) | omega)).trans (by go_simp)
  have c7_3_1 : w7.cell? ⟨w2.heap.size, 1, none⟩ = some (.int .i64 (bothT a b c d)) := (hb7.cell (p := ⟨w2.heap.size, 1, none⟩) (by first | (simp; done) | (simp; omega) | omega)).trans (by go_simp)
  have s7_4 : w3.heap.size < w7.heap.size := Nat.lt_of_lt_of_le (by first | (simp; done) | (simp; omega) | omega) hb7.size
  have c7_4_0 : w7.cell? ⟨w3.heap.size, 0, none⟩ = some (.int .i64 (joinF a b c d)) := (hb7.cell (p := ⟨w3.heap.size, 0, none⟩) (by first | (simp; done) | (simp; omega) | omega)).trans (by go_simp)
  have c7_4_1 : w7.cell? ⟨w3.heap.size, 1, none⟩ = some (.int .i64 (joinT a b c d)) := (hb7.cell (p := ⟨w3.heap.size, 1, none⟩) (by first | (simp; done) | (simp; omega) | omega)).trans (by go_simp)
  have s7_5 : w4.heap.size < w7.heap.size := Nat.lt_of_lt_of_le (by first | (simp; done) | (simp; omega) | omega) hb7.size
  have c7_5_0 : w7.cell? ⟨w4.heap.size, 0, none⟩ = some (.int .i64 (joinF a b c d)) := (hb7.cell (p := ⟨w4.heap.size, 0, none⟩) (by first | (simp; done) | (simp; omega) | omega)).trans (by go_simp)
  have c7_5_1 : w7.cell? ⟨w4.heap.size, 1, none⟩ = some (.int .i64 (joinT a b c d)) := (hb7.cell (p := ⟨w4.heap.size, 1, none⟩) (by first | (simp; done) | (simp; omega) | omega)).trans (by go_simp)
  clear hb7 B6 s6_0 c6_0_0 c6_0_1 s6_1 c6_1_0 c6_1_1 s6_2 c6_2_0 c6_2_1 s6_3 c6_3_0 c6_3_1 s6_4 c6_4_0 c6_4_1 s6_5 c6_5_0 c6_5_1
  go_wp2_with fail
  refine (ref10_Move a b t ka kb kt _).mono ?_
  rintro e w8 ⟨rfl, hb8⟩
  have B8 : Below w.heap.size w w8 := by (focus (repeat' (first | assumption | exact Below.refl _ _ | refine Below.alloc ?_ ?_ _ | refine Below.setCell ?_ ?_ _ | refine Below.drew ?_ | refine below_drewN ?_ _ | refine Below.trans ?_ (Below.mono (by assumption) ?_) | refine Below.trans ?_ (Below.mono (BW.below _) ?_) | (simp; done) | (simp; omega) | omega)))
  have s8_0 : w.heap.size < w8.heap.size := Nat.lt_of_lt_of_le (by first | (simp; done) | (simp; omega) | omega) hb8.size
  have c8_0_0 : w8.cell? ⟨w.heap.size, 0, none⟩ = some (.int .i64 (a)) := (hb8.cell (p := ⟨w.heap.size, 0, none⟩) (by first | (simp; done) | (simp; omega) | omega)).trans (by go_simp)
  have c8_0_1 : w8.cell? ⟨w.heap.size, 1, none⟩ = some (.int .i64 (b)) := (hb8.cell (p := ⟨w.heap.size, 1, none⟩) (by first | (simp; done) | (simp; omega) | omega)).trans (by go_simp)
  have s8_1 : w.heap.size + 1 < w8.heap.size := Nat.lt_of_lt_of_le (by first | (simp; done) | (simp; omega) | omega) hb8.size
  have c8_1_0 : w8.cell? ⟨w.heap.size + 1, 0, none⟩ = some (.int .i64 (c)) := (hb8.cell (p := ⟨w.heap.size + 1, 0, none⟩) (by first | (simp; done) | (simp; omega) | omega)).trans (by go_simp)
  have c8_1_1 : w8.cell? ⟨w.heap.size + 1, 1, none⟩ = some (.int .i64 (d)) := (hb8.cell (p := ⟨w.heap.size + 1, 1, none⟩) (by first | (simp; done) | (simp; omega) | omega)).trans (by go_simp)
  have s8_2 : w1.heap.size < w8.heap.size := Nat.lt_of_lt_of_le (by first | (simp; done) | (simp; omega) | omega) hb8.size
  have c8_2_0 : w8.cell? ⟨w1.heap.size, 0, none⟩ = some (.int .i64 (bothF a b c d)) := (hb8.cell (p := ⟨w1.heap.size, 0, none⟩) (by first | (simp; done) | (simp; omega) | omega)).trans (by go_simp)
  have c8_2_1 : w8.cell? ⟨w1.heap.size, 1, none⟩ = some (.int .i64 (bothT a b c d)) := (hb8.cell (p := ⟨w1.heap.size, 1, none⟩) (by first | (simp; done) | (simp; omega) | omega)).trans (by go_simp)
  have s8_3 : w2.heap.size < w8.heap.size := Nat.lt_of_lt_of_le (by first | (simp; done) | (simp; omega) | omega) hb8.size
  have c8_3_0 : w8.cell? ⟨w2.heap.size, 0, none⟩ = some (.int .i64 (bothF a b c d)) := (hb8.cell (p := ⟨w2.heap.size, 0, none⟩) (by first | (simp; done) | (simp; omega) | omega)).trans (by go_simp)
  have c8_3_1 : w8.cell? ⟨w2.heap.size, 1, none⟩ = some (.int .i64 (bothT a b c d)) := (hb8.cell (p := ⟨w2.heap.size, 1, none⟩) (by first | (simp; done) | (simp; omega) | omega)).trans (by go_simp)
  have s8_4 : w3.heap.size < w8.heap.size := Nat.lt_of_lt_of_le (by first | (simp; done) | (simp; omega) | omega) hb8.size
  have c8_4_0 : w8.cell? ⟨w3.heap.size, 0, none⟩ = some (.int .i64 (joinF a b c d)) := (hb8.cell (p := ⟨w3.heap.size, 0, none⟩) (by first | (simp; done) | (simp; omega) | omega)).trans (by go_simp)
  have c8_4_1 : w8.cell? ⟨w3.heap.size, 1, none⟩ = some (.int .i64 (joinT a b c d)) := (hb8.cell (p := ⟨w3.heap.size, 1, none⟩) (by first | (simp; done) | (simp; omega) | omega)).trans (by go_simp)
  have s8_5 : w4.heap.size < w8.heap.size := Nat.lt_of_lt_of_le (by first | (simp; done) | (simp; omega) | omega) hb8.size
  have c8_5_0 : w8.cell? ⟨w4.heap.size, 0, none⟩ = some (.int .i64 (joinF a b c d)) := (hb8.cell (p := ⟨w4.heap.size, 0, none⟩) (by first | (simp; done) | (simp; omega) | omega)).trans (by go_simp)
  have c8_5_1 : w8.cell? ⟨w4.heap.size, 1, none⟩ = some (.int .i64 (joinT a b c d)) := (hb8.cell (p := ⟨w4.heap.size, 1, none⟩) (by first | (simp; done) | (simp; omega) | omega)).trans (by go_simp)
  have s8_6 : w7.heap.size < w8.heap.size := Nat.lt_of_lt_of_le (by first | (simp; done) | (simp; omega) | omega) hb8.size
  have c8_6_0 : w8.cell? ⟨w7.heap.size, 0, none⟩ = some (.int .i64 (moveV a b t a)) := (hb8.cell (p := ⟨w7.heap.size, 0, none⟩) (by first | (simp; done) | (simp; omega) | omega)).trans (by go_simp)
  have c8_6_1 : w8.cell? ⟨w7.heap.size, 1, none⟩ = some (.int .i64 (moveV a b t b)) := (hb8.cell (p := ⟨w7.heap.size, 1, none⟩) (by first | (simp; done) | (simp; omega) | omega)).trans (by go_simp)
  clear hb8 B7 s7_0 c7_0_0 c7_0_1 s7_1 c7_1_0 c7_1_1 s7_2 c7_2_0 c7_2_1 s7_3 c7_3_0 c7_3_1 s7_4 c7_4_0 c7_4_1 s7_5 c7_5_0 c7_5_1
  go_wp2_with fail
  have Bw9 : Below w.heap.size w (w8.alloc (.cells #[.int .i64 (moveV a b t a), .int .i64 (moveV a b t b)] 23)) := by (focus (repeat' (first | assumption | exact Below.refl _ _ | refine Below.alloc ?_ ?_ _ | refine Below.setCell ?_ ?_ _ | refine Below.drew ?_ | refine below_drewN ?_ _ | refine Below.trans ?_ (Below.mono (by assumption) ?_) | refine Below.trans ?_ (Below.mono (BW.below _) ?_) | (simp; done) | (simp; omega) | omega)))
  have sw9_0 : w.heap.size < (w8.alloc (.cells #[.int .i64 (moveV a b t a), .int .i64 (moveV a b t b)] 23)).heap.size := (by first | (simp; done) | (simp; omega) | omega)
  have cw9_0_0 : (w8.alloc (.cells #[.int .i64 (moveV a b t a), .int .i64 (moveV a b t b)] 23)).cell? ⟨w.heap.size, 0, none⟩ = some (.int .i64 (a)) := by go_simp
  have cw9_0_1 : (w8.alloc (.cells #[.int .i64 (moveV a b t a), .int .i64 (moveV a b t b)] 23)).cell? ⟨w.heap.size, 1, none⟩ = some (.int .i64 (b)) := by go_simp
  have sw9_1 : w.heap.size + 1 < (w8.alloc (.cells #[.int .i64 (moveV a b t a), .int .i64 (moveV a b t b)] 23)).heap.size := (by first | (simp; done) | (simp; omega) | omega)
  have cw9_1_0 : (w8.alloc (.cells #[.int .i64 (moveV a b t a), .int .i64 (moveV a b t b)] 23)).cell? ⟨w.heap.size + 1, 0, none⟩ = some (.int .i64 (c)) := by go_simp
  have cw9_1_1 : (w8.alloc (.cells #[.int .i64 (moveV a b t a), .int .i64 (moveV a b t b)] 23)).cell? ⟨w.heap.size + 1, 1, none⟩ = some (.int .i64 (d)) := by go_simp
  have sw9_2 : w1.heap.size < (w8.alloc (.cells #[.int .i64 (moveV a b t a), .int .i64 (moveV a b t b)] 23)).heap.size := (by first | (simp; done) | (simp; omega) | omega)
  have cw9_2_0 : (w8.alloc (.cells #[.int .i64 (moveV a b t a), .int .i64 (moveV a b t b)] 23)).cell? ⟨w1.heap.size, 0, none⟩ = some (.int .i64 (bothF a b c d)) := by go_simp
  have cw9_2_1 : (w8.alloc (.cells #[.int .i64 (moveV a b t a), .int .i64 (moveV a b t b)] 23)).cell? ⟨w1.heap.size, 1, none⟩ = some (.int .i64 (bothT a b c d)) := by go_simp
  have sw9_3 : w2.heap.size < (w8.alloc (.cells #[.int .i64 (moveV a b t a), .int .i64 (moveV a b t b)] 23)).heap.size := (by first | (simp; done) | (simp; omega) | omega)
  have cw9_3_0 : (w8.alloc (.cells #[.int .i64 (moveV a b t a), .int .i64 (moveV a b t b)] 23)).cell? ⟨w2.heap.size, 0, none⟩ = some (.int .i64 (bothF a b c d)) := by go_simp
  have cw9_3_1 : (w8.alloc (.cells #[.int .i64 (moveV a b t a), .int .i64 (moveV a b t b)] 23)).cell? ⟨w2.heap.size, 1, none⟩ = some (.int .i64 (bothT a b c d)) := by go_simp
  have sw9_4 : w3.heap.size < (w8.alloc (.cells #[.int .i64 (moveV a b t a), .int .i64 (moveV a b t b)] 23)).heap.size := (by first | (simp; done) | (simp; omega) | omega)
  have cw9_4_0 : (w8.alloc (.cells #[.int .i64 (moveV a b t a), .int .i64 (moveV a b t b)] 23)).cell? ⟨w3.heap.size, 0, none⟩ = some (.int .i64 (joinF a b c d)) := by go_simp
  have cw9_4_1 : (w8.alloc (.cells #[.int .i64 (moveV a b t a), .int .i64 (moveV a b t b)] 23)).cell? ⟨w3.heap.size, 1, none⟩ = some (.int .i64 (joinT a b c d)) := by go_simp
  have sw9_5 : w4.heap.size < (w8.alloc (.cells #[.int .i64 (moveV a b t a), .int .i64 (moveV a b t b)] 23)).heap.size := (by first | (simp; done) | (simp; omega) | omega)
  have cw9_5_0 : (w8.alloc (.cells #[.int .i64 (moveV a b t a), .int .i64 (moveV a b t b)] 23)).cell? ⟨w4.heap.size, 0, none⟩ = some (.int .i64 (joinF a b c d)) := by go_simp
  have cw9_5_1 : (w8.alloc (.cells #[.int .i64 (moveV a b t a), .int .i64 (moveV a b t b)] 23)).cell? ⟨w4.heap.size, 1, none⟩ = some (.int .i64 (joinT a b c d)) := by go_simp
  have sw9_6 : w7.heap.size < (w8.alloc (.cells #[.int .i64 (moveV a b t a), .int .i64 (moveV a b t b)] 23)).heap.size := (by first | (simp; done) | (simp; omega) | omega)
  have cw9_6_0 : (w8.alloc (.cells #[.int .i64 (moveV a b t a), .int .i64 (moveV a b t b)] 23)).cell? ⟨w7.heap.size, 0, none⟩ = some (.int .i64 (moveV a b t a)) := by go_simp
  have cw9_6_1 : (w8.alloc (.cells #[.int .i64 (moveV a b t a), .int .i64 (moveV a b t b)] 23)).cell? ⟨w7.heap.size, 1, none⟩ = some (.int .i64 (moveV a b t b)) := by go_simp
  have sw9_7 : w8.heap.size < (w8.alloc (.cells #[.int .i64 (moveV a b t a), .int .i64 (moveV a b t b)] 23)).heap.size := (by first | (simp; done) | (simp; omega) | omega)
  have cw9_7_0 : (w8.alloc (.cells #[.int .i64 (moveV a b t a), .int .i64 (moveV a b t b)] 23)).cell? ⟨w8.heap.size, 0, none⟩ = some (.int .i64 (moveV a b t a)) := by go_simp
  have cw9_7_1 : (w8.alloc (.cells #[.int .i64 (moveV a b t a), .int .i64 (moveV a b t b)] 23)).cell? ⟨w8.heap.size, 1, none⟩ = some (.int .i64 (moveV a b t b)) := by go_simp
  clear B8 s8_0 c8_0_0 c8_0_1 s8_1 c8_1_0 c8_1_1 s8_2 c8_2_0 c8_2_1 s8_3 c8_3_0 c8_3_1 s8_4 c8_4_0 c8_4_1 s8_5 c8_5_0 c8_5_1 s8_6 c8_6_0 c8_6_1
  generalize (w8.alloc (.cells #[.int .i64 (moveV a b t a), .int .i64 (moveV a b t b)] 23)) = w9 at *
  dsimp only [List.append]
  go_region_held3 (fun w' => (∀ b o, b < w9.heap.size → w'.cell? ⟨b, o, none⟩ = w9.cell? ⟨b, o, none⟩) ∧ Below w9.heap.size w9 w') (first | exact held_drew _ | exact held_call (by assumption) (by assumption) | exact held_alloc (by assumption) _)
    (first
      | (go_at_call 23; refine (span_Right a b _).mono ?_; rintro e wr ⟨rfl, hbr⟩; have zr := hbr.size)
      | (go_at_call 24; refine (ref10_Right a b _).mono ?_; rintro e wr ⟨rfl, hbr⟩; have zr := hbr.size)
      | (go_at_call 25; refine (span_Has a b t _).mono ?_; rintro e wr ⟨rfl, hbr⟩; have zr := hbr.size)
      | (go_at_call 26; refine (ref10_Has a b t _).mono ?_; rintro e wr ⟨rfl, hbr⟩; have zr := hbr.size)
      | (go_at_call 27; refine (span_Meet a b c d _).mono ?_; rintro e wr ⟨rfl, hbr⟩; have zr := hbr.size)
      | (go_at_call 28; refine (ref10_Meet a b c d _).mono ?_; rintro e wr ⟨rfl, hbr⟩; have zr := hbr.size)
      | (go_at_call 29; refine (span_Touch a b c d _).mono ?_; rintro e wr ⟨rfl, hbr⟩; have zr := hbr.size)
      | (go_at_call 30; refine (ref10_Touch a b c d _).mono ?_; rintro e wr ⟨rfl, hbr⟩; have zr := hbr.size)
      | (go_at_call 32; refine (span_Less a b c d _).mono ?_; rintro e wr ⟨vr, rfl, ownr, hbr⟩; have zr := hbr.size)
      | (go_at_call 33; refine (ref10_Less a b c d _).mono ?_; rintro e ws ⟨vs, rfl, owns, hbs⟩; have zr := hbs.size)
      | (go_at_call 31; refine (ref10_Same (ownr.below hbs) owns).mono ?_; rintro e wr ⟨rfl, hbr⟩; have zr := hbr.size)
      | (go_at_call 34; refine (span_lives _).mono ?_; rintro e wr ⟨rfl, hbr⟩; have zr := hbr.size))
  go_wp2_with fail
  go_ret
  exact ⟨rfl, Below.trans Bw9 (Below.mono (held_right (by assumption)) (by omega))⟩
end Go.Proofs.Ytblmlglkjmilkaa
