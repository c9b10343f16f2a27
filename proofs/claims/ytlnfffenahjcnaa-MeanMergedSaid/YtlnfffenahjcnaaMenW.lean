/-
  MeanTells: the walk.
-/
import Derived.Test.YtlnfffenahjcnaaMenV
import Derived.Test.YtlnfffenahjcnaaMenO
namespace Go.Proofs.Ytlnfffenahjcnaa
open Go.RowKit Go.Shelf Flo
theorem same_cls {x y : Nat} {X : Option Nat} (h : Hid (x < 18446744073709551616 ∧ nz x = X)) (h' : Hid (y < 18446744073709551616 ∧ nz y = X)) (w : World) : Calls Try.prog 14 #[.float .f64 x, .float .f64 y] w fun e w' => e = .returned (.bool true) ∧ w = w' := by
  have := ref02_Same x y w
  rwa [show (plc x == plc y) = true by rw [plc_nz (h.out.2.trans h'.out.2.symm)]; simp] at this
set_option maxRecDepth 100000 in
set_option maxHeartbeats 4000000 in
theorem MeanTells_walk {w : World} {p : Option Addr} {l : List Pt} (cap : Nat) (a b : Int) (h : PtS w p l) (hI : ∀ k, k < l.length → PtI (pt l k)) : Calls Try.prog 3 #[.slice p l.length cap, spn a b] w fun e w' => e = .returned (.bool true) ∧ Below w.heap.size w w' := by
  have HI := Lib.hid hI
  clear hI
  have P0 : PtS (w.alloc (.cells #[.int .i64 a, .int .i64 b] 24)) p l := h.below ((Below.refl _ _).alloc (Nat.le_refl _) _)
  have B0 : Below w.heap.size w (w.alloc (.cells #[.int .i64 a, .int .i64 b] 24)) := (Below.refl _ _).alloc (Nat.le_refl _) _
  have s0 : (w.alloc (.cells #[.int .i64 a, .int .i64 b] 24)).cell? ⟨w.heap.size, 0, none⟩ = some (.int .i64 a) := by go_simp
  have t0 : (w.alloc (.cells #[.int .i64 a, .int .i64 b] 24)).cell? ⟨w.heap.size, 1, none⟩ = some (.int .i64 b) := by go_simp
  have z0 : w.heap.size < (w.alloc (.cells #[.int .i64 a, .int .i64 b] 24)).heap.size := by simp
  by_cases hlen : 60 < l.length
  · have h60 : (60 : Int) < (l.length : Int) := by omega
    go_enter Try.func3, Try.ntmps3
    go_wp2_with fail
    generalize (w.alloc (.cells #[.int .i64 a, .int .i64 b] 24)) = x0 at *
    refine (mean_lives _).mono ?_
    rintro e x1 ⟨rfl, hb⟩
    go_wp2_with fail
    go_ret
    exact ⟨rfl, B0.trans (hb.mono B0.size)⟩
  have h60 : ¬ (60 : Int) < (l.length : Int) := by omega
  go_enter Try.func3, Try.ntmps3
  go_wp2_with fail
  generalize (w.alloc (.cells #[.int .i64 a, .int .i64 b] 24)) = x0 at *
  refine (mean_Total cap a b P0 (by omega) HI.out).mono ?_
  rintro e x1 ⟨y1, rfl, H1, hb⟩
  have P1 := P0.below hb
  have B1 : Below w.heap.size w x1 := B0.trans (hb.mono B0.size)
  have s1 := (hb.cell (p := ⟨w.heap.size, 0, none⟩) z0).trans s0
  have t1 := (hb.cell (p := ⟨w.heap.size, 1, none⟩) z0).trans t0
  have z1 : w.heap.size < x1.heap.size := Nat.lt_of_lt_of_le z0 hb.size
  clear hb P0 B0 s0 t0 z0
  go_wp2_with fail
  refine (ref12_Total cap a b P1 (by omega) HI.out).mono ?_
  rintro e x2 ⟨y2, rfl, H2, hb⟩
  have P2 := P1.below hb
  have B2 : Below w.heap.size w x2 := B1.trans (hb.mono B1.size)
  have s2 := (hb.cell (p := ⟨w.heap.size, 0, none⟩) z1).trans s1
  have t2 := (hb.cell (p := ⟨w.heap.size, 1, none⟩) z1).trans t1
  have z2 : w.heap.size < x2.heap.size := Nat.lt_of_lt_of_le z1 hb.size
  clear hb P1 B1 s1 t1 z1
  go_wp2_with fail
  refine (mean_Mean cap a b P2 (by omega) HI.out).mono ?_
  rintro e x3 ⟨y3, rfl, H3, hb⟩
  have P3 := P2.below hb
  have B3 : Below w.heap.size w x3 := B2.trans (hb.mono B2.size)
  have s3 := (hb.cell (p := ⟨w.heap.size, 0, none⟩) z2).trans s2
  have t3 := (hb.cell (p := ⟨w.heap.size, 1, none⟩) z2).trans t2
  have z3 : w.heap.size < x3.heap.size := Nat.lt_of_lt_of_le z2 hb.size
  clear hb P2 B2 s2 t2 z2
  go_wp2_with fail
  refine (ref12_Mean cap a b P3 (by omega) HI.out).mono ?_
  rintro e x4 ⟨y4, rfl, H4, hb⟩
  have P4 := P3.below hb
  have B4 : Below w.heap.size w x4 := B3.trans (hb.mono B3.size)
  have s4 := (hb.cell (p := ⟨w.heap.size, 0, none⟩) z3).trans s3
  have t4 := (hb.cell (p := ⟨w.heap.size, 1, none⟩) z3).trans t3
  have z4 : w.heap.size < x4.heap.size := Nat.lt_of_lt_of_le z3 hb.size
  clear hb P3 B3 s3 t3 z3
  go_wp2_with fail
  refine (mean_Ends cap a b P4 (by omega) HI.out).mono ?_
  rintro e x5 ⟨rfl, hb⟩
  have P5 := P4.below hb
  have B5 : Below w.heap.size w x5 := B4.trans (hb.mono B4.size)
  have s5 := (hb.cell (p := ⟨w.heap.size, 0, none⟩) z4).trans s4
  have t5 := (hb.cell (p := ⟨w.heap.size, 1, none⟩) z4).trans t4
  have z5 : w.heap.size < x5.heap.size := Nat.lt_of_lt_of_le z4 hb.size
  clear hb P4 B4 s4 t4 z4
  go_wp2_with fail
  refine (ref12_Ends cap a b P5 (by omega) HI.out).mono ?_
  rintro e x6 ⟨rfl, hb⟩
  have P6 := P5.below hb
  have B6 : Below w.heap.size w x6 := B5.trans (hb.mono B5.size)
  have s6 := (hb.cell (p := ⟨w.heap.size, 0, none⟩) z5).trans s5
  have t6 := (hb.cell (p := ⟨w.heap.size, 1, none⟩) z5).trans t5
  have z6 : w.heap.size < x6.heap.size := Nat.lt_of_lt_of_le z5 hb.size
  clear hb P5 B5 s5 t5 z5
  clear s6 t6 z6
  have S1 := fun w => same_cls H1 H2 w
  have S2 := fun w => same_cls H3 H4 w
  clear H1 H2 H3 H4
  generalize totE l = E at *
  generalize ends l a b = D at *
  obtain ⟨d1, d2, d3⟩ := D
  simp only at *
  go_wp2_with (first | (go_at_call 14; with_reducible refine (S1 _).mono ?_; rintro e w' ⟨rfl, rfl⟩) | (go_at_call 14; with_reducible refine (S2 _).mono ?_; rintro e w' ⟨rfl, rfl⟩))
  refine (mean_Right cap P6 (by omega)).mono ?_
  rintro e x7 ⟨rfl, hb⟩
  have P7 := P6.below hb
  have B7 : Below w.heap.size w x7 := B6.trans (hb.mono B6.size)
  clear hb P6 B6
  go_wp2_with fail
  refine (ref12_Right cap P7 (by omega)).mono ?_
  rintro e x8 ⟨rfl, hb⟩
  have P8 := P7.below hb
  have B8 : Below w.heap.size w x8 := B7.trans (hb.mono B7.size)
  clear hb P7 B7
  generalize rightL l = R at *
  go_wp2_with fail
  refine (mean_Merge cap P8 (by omega)).mono ?_
  rintro e x9 ⟨v9, rfl, O9, hb⟩
  have P9 := P8.below hb
  have B9 : Below w.heap.size w x9 := B8.trans (hb.mono B8.size)
  obtain ⟨p9, c9, rfl, M9⟩ := own_slice O9
  clear O9
  clear hb P8 B8
  go_wp2_with fail
  refine (ref12_Merge cap P9 (by omega)).mono ?_
  rintro e x10 ⟨v10, rfl, O10, hb⟩
  have P10 := P9.below hb
  have B10 : Below w.heap.size w x10 := B9.trans (hb.mono B9.size)
  obtain ⟨p10, c10, rfl, M10⟩ := own_slice O10
  have M9 := M9.below hb
  clear O10
  clear hb P9 B9
  have hml : (mergeX l).length ≤ 60 := by
    unfold mergeX
    split
    · have := (mergeL_len l).1; omega
    · simp
  generalize mergeX l = M at *
  go_wp2_with fail
  refine (ref12_Same c9 c10 M9 M10 (by omega)).mono ?_
  rintro e x11 ⟨rfl, hb⟩
  have P11 := P10.below hb
  have B11 : Below w.heap.size w x11 := B10.trans (hb.mono B10.size)
  clear M9 M10
  clear hb P10 B10
  go_wp2_with fail
  refine (mean_lives _).mono ?_
  rintro e x12 ⟨rfl, hb⟩
  have P12 := P11.below hb
  have B12 : Below w.heap.size w x12 := B11.trans (hb.mono B11.size)
  clear hb P11 B11
  go_wp2_with fail
  go_ret
  exact ⟨rfl, B12⟩
theorem MeanTells_frame (p : Option Addr) (cap : Nat) (l : List Pt) (a b : Int) (hI : ∀ k, k < l.length → PtI (pt l k)) (w : World) (h : PtS w p l) : Calls Try.prog 3 #[.slice p l.length cap, spn a b] w fun e w' => e = .returned (.bool true) ∧ Below w.heap.size w w' := MeanTells_walk cap a b h hI
end Go.Proofs.Ytlnfffenahjcnaa
