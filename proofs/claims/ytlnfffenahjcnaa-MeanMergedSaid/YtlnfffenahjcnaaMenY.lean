/-
  MeanMerged: the walk.
-/
import Derived.Test.YtlnfffenahjcnaaMenX
namespace Go.Proofs.Ytlnfffenahjcnaa
open Go.RowKit Go.Shelf Flo
attribute [local go_sem] BW.cell BW.frozen unary_neg_float
theorem merged_pti {l : List Pt} (hr : rightL l = true) (hI : ∀ k, k < l.length → PtI (pt l k)) : ∀ k, k < (mergeL l).length → PtI (pt (mergeL l) k) := fun k hk => by
  obtain ⟨_, _, _, _, h5⟩ := merge_facts 0 0 _ l rfl (PW.of hr)
  rw [pt_get hk]
  obtain ⟨y, hy, z, hz, e1, e2, e3⟩ := h5 _ (List.getElem_mem hk)
  have g : ∀ x ∈ l, PtI x := fun x hx => by
    obtain ⟨i, hi, rfl⟩ := List.getElem_of_mem hx
    rw [← pt_get hi]
    exact hI i hi
  obtain ⟨y1, _, y3⟩ := g y hy
  obtain ⟨_, z2, _⟩ := g z hz
  exact ⟨by rw [e1]; exact y1, by rw [e2]; exact z2, by rw [e3]; exact y3⟩
theorem merged_ends {l : List Pt} {a b : Int} (hr : rightL l = true) (hI : ∀ k, k < l.length → PtI (pt l k)) : ends (mergeL l) a b = ends l a b := by
  obtain ⟨h1, _, _, h4, _⟩ := merge_facts a b _ l rfl (PW.of hr)
  unfold ends
  rw [hr, h1.right]
  simp only [if_true]
  rw [endsP_is a b _ _ rfl (merged_pti hr hI), endsP_is a b _ _ rfl hI, h4]
/-- The totals are near each other. -/
theorem merged_nums {l : List Pt} {a b : Int} (hlen : l.length ≤ 60) (hr : rightL l = true) (hI : ∀ k, k < l.length → PtI (pt l k)) :
    ∃ t1 t2 d e, totX l a b = some t1 ∧ totX (mergeL l) a b = some t2 ∧ Go.floatBits .sub .f64 t1 t2 = some d ∧ Go.floatBits .mul .f64 t1 4517329193108106637 = some e ∧
      (FloatKind.f64.format.order d e = some .lt ∨ FloatKind.f64.format.order d e = some .eq) ∧ (FloatKind.f64.format.order (Op.negFloat .f64 d) e = some .lt ∨ FloatKind.f64.format.order (Op.negFloat .f64 d) e = some .eq) := by
  obtain ⟨h1, _, h3, _, _⟩ := merge_facts a b _ l rfl (PW.of hr)
  have s1 := cnt_sum a b _ l rfl hI
  have s2 := cnt_sum a b _ (mergeL l) rfl (merged_pti hr hI)
  have l1 := cnt_len l a b l.length
  have l2 := cnt_len (mergeL l) a b (mergeL l).length
  have l3 := (mergeL_len l).1
  have e1 : totX l a b = sumX ((cnt l a b l.length).map tmv) := by unfold totX; rw [hr]; rfl
  have e2 : totX (mergeL l) a b = sumX ((cnt (mergeL l) a b (mergeL l).length).map tmv) := by unfold totX; rw [h1.right]; rfl
  rw [e1, e2]
  rw [h3, ← s1] at s2
  generalize cnt l a b l.length = c1 at *
  generalize cnt (mergeL l) a b (mergeL l).length = c2 at *
  by_cases h0 : c1 = []
  · subst h0
    have : c2 = [] := by
      apply Classical.byContradiction
      intro hn
      have hp := List.length_pos_iff.2 hn
      obtain ⟨_, _, _, _, q, _⟩ := total_sums (c2.length - 1) c2 (by omega) (by omega)
      rw [s2] at q
      simp at q
      omega
    subst this
    refine ⟨0, 0, 0, 0, rfl, rfl, by kernel_rfl, by kernel_rfl, .inr (by kernel_rfl), .inr (by kernel_rfl)⟩
  · have hp := List.length_pos_iff.2 h0
    have hn : c2 ≠ [] := by
      intro hn
      subst hn
      obtain ⟨_, _, _, _, q, _⟩ := total_sums (c1.length - 1) c1 (by omega) (by omega)
      rw [← s2] at q
      simp at q
      omega
    have hp2 := List.length_pos_iff.2 hn
    obtain ⟨t1, q1, lt1, i1, _, u1⟩ := total_sums (c1.length - 1) c1 (by omega) (by omega)
    obtain ⟨t2, q2, lt2, i2, _, _⟩ := total_sums (c2.length - 1) c2 (by omega) (by omega)
    rw [s2] at i2
    obtain ⟨d, e, hd, he, fd, ld, fe, v1, v2⟩ := total_near i1 i2 (by omega) (by omega) (Int.mul_le_mul_of_nonneg_right (by omega) (by omega)) lt2
    refine ⟨t1, t2, d, e, q1, q2, hd, he, order_le fd fe v1, order_le (by rw [fin_neg ld]; exact fd) fe (by rw [val_neg ld]; exact v2)⟩
set_option maxRecDepth 100000 in
set_option maxHeartbeats 4000000 in
theorem MeanMerged_many {w : World} {p : Option Addr} {l : List Pt} (cap : Nat) (a b : Int) (h : PtS w p l) (hI : ∀ k, k < l.length → PtI (pt l k)) (hlen : 60 < l.length) : Calls Try.prog 5 #[.slice p l.length cap, spn a b] w fun e w' => e = .returned (.bool true) ∧ Below w.heap.size w w' := by
  have P0 : PtS (w.alloc (.cells #[.int .i64 a, .int .i64 b] 24)) p l := h.below ((Below.refl _ _).alloc (Nat.le_refl _) _)
  have B0 : Below w.heap.size w (w.alloc (.cells #[.int .i64 a, .int .i64 b] 24)) := (Below.refl _ _).alloc (Nat.le_refl _) _
  have s0 : (w.alloc (.cells #[.int .i64 a, .int .i64 b] 24)).cell? ⟨w.heap.size, 0, none⟩ = some (.int .i64 a) := by go_simp
  have t0 : (w.alloc (.cells #[.int .i64 a, .int .i64 b] 24)).cell? ⟨w.heap.size, 1, none⟩ = some (.int .i64 b) := by go_simp
  have z0 : w.heap.size < (w.alloc (.cells #[.int .i64 a, .int .i64 b] 24)).heap.size := by simp
  have h60 : (60 : Int) < (l.length : Int) := by omega
  go_enter Try.func5, Try.ntmps5
  go_wp2_with fail
  generalize (w.alloc (.cells #[.int .i64 a, .int .i64 b] 24)) = x0 at *
  refine (mean_lives _).mono ?_
  rintro e x1 ⟨rfl, hb⟩
  have P1 := P0.below hb
  have B1 : Below w.heap.size w x1 := B0.trans (hb.mono B0.size)
  have s1 := (hb.cell (p := ⟨w.heap.size, 0, none⟩) z0).trans s0
  have t1 := (hb.cell (p := ⟨w.heap.size, 1, none⟩) z0).trans t0
  have z1 : w.heap.size < x1.heap.size := Nat.lt_of_lt_of_le z0 hb.size
  clear hb P0 B0 s0 t0 z0
  go_wp2_with fail
  go_ret
  exact ⟨rfl, B1⟩
set_option maxRecDepth 100000 in
set_option maxHeartbeats 4000000 in
theorem MeanMerged_wrong {w : World} {p : Option Addr} {l : List Pt} (cap : Nat) (a b : Int) (h : PtS w p l) (hI : ∀ k, k < l.length → PtI (pt l k)) (hlen : l.length ≤ 60) (hr : rightL l = false) : Calls Try.prog 5 #[.slice p l.length cap, spn a b] w fun e w' => e = .returned (.bool true) ∧ Below w.heap.size w w' := by
  have P0 : PtS (w.alloc (.cells #[.int .i64 a, .int .i64 b] 24)) p l := h.below ((Below.refl _ _).alloc (Nat.le_refl _) _)
  have B0 : Below w.heap.size w (w.alloc (.cells #[.int .i64 a, .int .i64 b] 24)) := (Below.refl _ _).alloc (Nat.le_refl _) _
  have s0 : (w.alloc (.cells #[.int .i64 a, .int .i64 b] 24)).cell? ⟨w.heap.size, 0, none⟩ = some (.int .i64 a) := by go_simp
  have t0 : (w.alloc (.cells #[.int .i64 a, .int .i64 b] 24)).cell? ⟨w.heap.size, 1, none⟩ = some (.int .i64 b) := by go_simp
  have z0 : w.heap.size < (w.alloc (.cells #[.int .i64 a, .int .i64 b] 24)).heap.size := by simp
  have h60 : ¬ (60 : Int) < (l.length : Int) := by omega
  go_enter Try.func5, Try.ntmps5
  go_wp2_with fail
  generalize (w.alloc (.cells #[.int .i64 a, .int .i64 b] 24)) = x0 at *
  refine (mean_lives _).mono ?_
  rintro e x1 ⟨rfl, hb⟩
  have P1 := P0.below hb
  have B1 : Below w.heap.size w x1 := B0.trans (hb.mono B0.size)
  have s1 := (hb.cell (p := ⟨w.heap.size, 0, none⟩) z0).trans s0
  have t1 := (hb.cell (p := ⟨w.heap.size, 1, none⟩) z0).trans t0
  have z1 : w.heap.size < x1.heap.size := Nat.lt_of_lt_of_le z0 hb.size
  clear hb P0 B0 s0 t0 z0
  go_wp2_with fail
  refine (mean_Right cap P1 (by omega)).mono ?_
  rintro e x2 ⟨rfl, hb⟩
  have P2 := P1.below hb
  have B2 : Below w.heap.size w x2 := B1.trans (hb.mono B1.size)
  have s2 := (hb.cell (p := ⟨w.heap.size, 0, none⟩) z1).trans s1
  have t2 := (hb.cell (p := ⟨w.heap.size, 1, none⟩) z1).trans t1
  have z2 : w.heap.size < x2.heap.size := Nat.lt_of_lt_of_le z1 hb.size
  clear hb P1 B1 s1 t1 z1
  rw [hr]
  go_wp2_with fail
  go_ret
  exact ⟨rfl, B2⟩
set_option maxRecDepth 100000 in
set_option maxHeartbeats 4000000 in
theorem MeanMerged_right {w : World} {p : Option Addr} {l : List Pt} (cap : Nat) (a b : Int) (h : PtS w p l) (hI : ∀ k, k < l.length → PtI (pt l k)) (hlen : l.length ≤ 60) (hr : rightL l = true) : Calls Try.prog 5 #[.slice p l.length cap, spn a b] w fun e w' => e = .returned (.bool true) ∧ Below w.heap.size w w' := by
  have P0 : PtS (w.alloc (.cells #[.int .i64 a, .int .i64 b] 24)) p l := h.below ((Below.refl _ _).alloc (Nat.le_refl _) _)
  have B0 : Below w.heap.size w (w.alloc (.cells #[.int .i64 a, .int .i64 b] 24)) := (Below.refl _ _).alloc (Nat.le_refl _) _
  have s0 : (w.alloc (.cells #[.int .i64 a, .int .i64 b] 24)).cell? ⟨w.heap.size, 0, none⟩ = some (.int .i64 a) := by go_simp
  have t0 : (w.alloc (.cells #[.int .i64 a, .int .i64 b] 24)).cell? ⟨w.heap.size, 1, none⟩ = some (.int .i64 b) := by go_simp
  have z0 : w.heap.size < (w.alloc (.cells #[.int .i64 a, .int .i64 b] 24)).heap.size := by simp
  have h60 : ¬ (60 : Int) < (l.length : Int) := by omega
  have HI := Lib.hid hI
  have HJ := Lib.hid (merged_pti hr hI)
  have HE := Lib.hid (merged_ends (a := a) (b := b) hr hI)
  obtain ⟨hPW, hNT, _, _, _⟩ := merge_facts a b _ l rfl (PW.of hr)
  have HR := Lib.hid hPW.right
  have HX := Lib.hid (show mergeX l = mergeL l by unfold mergeX; rw [hr]; rfl)
  have HA := Lib.hid (show mergeX (mergeL l) = mergeL l by unfold mergeX; rw [hPW.right]; exact merge_again _ _ rfl hNT)
  have HN := Lib.hid hNT
  have HO := Lib.hid (show totE l = 0 ∧ totE (mergeL l) = 0 from ⟨by unfold totE; rw [hr]; rfl, by unfold totE; rw [hPW.right]; rfl⟩)
  have hml : (mergeL l).length ≤ 60 := Nat.le_trans (mergeL_len l).1 hlen
  obtain ⟨t1, t2, d, e, n1, n2, n3, n4, n5, n6⟩ := merged_nums (a := a) (b := b) hlen hr hI
  have N1 := Lib.hid n1
  have N2 := Lib.hid n2
  clear hI hPW hNT n1 n2
  go_enter Try.func5, Try.ntmps5
  go_wp2_with fail
  generalize (w.alloc (.cells #[.int .i64 a, .int .i64 b] 24)) = x0 at *
  refine (mean_lives _).mono ?_
  rintro e x1 ⟨rfl, hb⟩
  have P1 := P0.below hb
  have B1 : Below w.heap.size w x1 := B0.trans (hb.mono B0.size)
  have s1 := (hb.cell (p := ⟨w.heap.size, 0, none⟩) z0).trans s0
  have t1 := (hb.cell (p := ⟨w.heap.size, 1, none⟩) z0).trans t0
  have z1 : w.heap.size < x1.heap.size := Nat.lt_of_lt_of_le z0 hb.size
  clear hb P0 B0 s0 t0 z0
  go_wp2_with fail
  refine (mean_Right cap P1 (by omega)).mono ?_
  rintro e x2 ⟨rfl, hb⟩
  have P2 := P1.below hb
  have B2 : Below w.heap.size w x2 := B1.trans (hb.mono B1.size)
  have s2 := (hb.cell (p := ⟨w.heap.size, 0, none⟩) z1).trans s1
  have t2 := (hb.cell (p := ⟨w.heap.size, 1, none⟩) z1).trans t1
  have z2 : w.heap.size < x2.heap.size := Nat.lt_of_lt_of_le z1 hb.size
  clear hb P1 B1 s1 t1 z1
  rw [hr]
  go_wp2_with fail
  refine (mean_Merge cap P2 (by omega)).mono ?_
  rintro e x3 ⟨v3, rfl, O3, hb⟩
  have P3 := P2.below hb
  have B3 : Below w.heap.size w x3 := B2.trans (hb.mono B2.size)
  have s3 := (hb.cell (p := ⟨w.heap.size, 0, none⟩) z2).trans s2
  have t3 := (hb.cell (p := ⟨w.heap.size, 1, none⟩) z2).trans t2
  have z3 : w.heap.size < x3.heap.size := Nat.lt_of_lt_of_le z2 hb.size
  rw [HX.out] at O3
  obtain ⟨p3, c3, rfl, M3⟩ := own_slice O3
  clear O3 HX
  clear hb P2 B2 s2 t2 z2
  generalize hm : mergeL l = m at *
  clear hm
  go_wp2_with fail
  refine (mean_Total cap a b P3 (by omega) HI.out).mono ?_
  rintro e4 x4 ⟨y1, rfl, H1, hb⟩
  have P4 := P3.below hb
  have B4 : Below w.heap.size w x4 := B3.trans (hb.mono B3.size)
  have s4 := (hb.cell (p := ⟨w.heap.size, 0, none⟩) z3).trans s3
  have t4 := (hb.cell (p := ⟨w.heap.size, 1, none⟩) z3).trans t3
  have z4 : w.heap.size < x4.heap.size := Nat.lt_of_lt_of_le z3 hb.size
  rw [N1.out, HO.out.1] at *
  obtain rfl := nz_eq H1.out.2
  clear H1
  have M4 := M3.below hb
  clear M3
  clear hb P3 B3 s3 t3 z3
  go_wp2_with fail
  refine (mean_Total c3 a b M4 (by omega) HJ.out).mono ?_
  rintro e5 x5 ⟨y2, rfl, H2, hb⟩
  have P5 := P4.below hb
  have B5 : Below w.heap.size w x5 := B4.trans (hb.mono B4.size)
  have s5 := (hb.cell (p := ⟨w.heap.size, 0, none⟩) z4).trans s4
  have t5 := (hb.cell (p := ⟨w.heap.size, 1, none⟩) z4).trans t4
  have z5 : w.heap.size < x5.heap.size := Nat.lt_of_lt_of_le z4 hb.size
  rw [N2.out, HO.out.2] at *
  obtain rfl := nz_eq H2.out.2
  clear H2
  have M5 := M4.below hb
  clear M4
  clear hb P4 B4 s4 t4 z4
  go_wp2_with fail
  refine (mean_Ends cap a b P5 (by omega) HI.out).mono ?_
  rintro e6 x6 ⟨rfl, hb⟩
  have P6 := P5.below hb
  have B6 : Below w.heap.size w x6 := B5.trans (hb.mono B5.size)
  have s6 := (hb.cell (p := ⟨w.heap.size, 0, none⟩) z5).trans s5
  have t6 := (hb.cell (p := ⟨w.heap.size, 1, none⟩) z5).trans t5
  have z6 : w.heap.size < x6.heap.size := Nat.lt_of_lt_of_le z5 hb.size
  have M6 := M5.below hb
  clear M5
  clear hb P5 B5 s5 t5 z5
  go_wp2_with fail
  refine (mean_Ends c3 a b M6 (by omega) HJ.out).mono ?_
  rintro e7 x7 ⟨rfl, hb⟩
  have P7 := P6.below hb
  have B7 : Below w.heap.size w x7 := B6.trans (hb.mono B6.size)
  have s7 := (hb.cell (p := ⟨w.heap.size, 0, none⟩) z6).trans s6
  have t7 := (hb.cell (p := ⟨w.heap.size, 1, none⟩) z6).trans t6
  have z7 : w.heap.size < x7.heap.size := Nat.lt_of_lt_of_le z6 hb.size
  have M7 := M6.below hb
  clear M6
  clear hb P6 B6 s6 t6 z6
  rw [HE.out]
  clear s7 t7 z7 HE HI HJ HO N1 N2
  generalize ends l a b = D at *
  obtain ⟨d1, d2, d3⟩ := D
  simp only at *
  have r3 := fun w => run_float_arith (P := Try.prog) w .sub 26 .f64 _ _ _ n3
  have r4 := fun w => run_float_arith (P := Try.prog) w .mul 26 .f64 _ _ _ n4
  clear n3 n4
  have z7 := B7.size
  rcases M7 with rfl | ⟨pb, po, rfl, hpb, hpc⟩
  · go_wp2_with fail
    refine wp_loop_rounds 1 ?_
    rw [rounds_succ]
    have BB := B7
    have MM : PtS x7 p3 [] := .inl rfl
    go_wp2_with fail
    refine (mean_Right c3 MM (by omega)).mono ?_
    rintro e8 x8 ⟨rfl, hb⟩
    have BB := BB.trans (hb.mono BB.size)
    have MM := MM.below hb
    clear hb
    rw [HR.out]
    go_wp2_with fail
    refine (mean_Merge c3 MM (by omega)).mono ?_
    rintro e9 x9 ⟨v9, rfl, O9, hb⟩
    rw [HA.out] at O9
    obtain ⟨p9, c9, rfl, M9⟩ := own_slice O9
    have BB := BB.trans (hb.mono BB.size)
    have MM := MM.below hb
    clear hb O9
    go_wp2_with fail
    refine (ref12_Same c9 c3 M9 MM (by omega)).mono ?_
    rintro e10 x10 ⟨rfl, hb⟩
    have BB := BB.trans (hb.mono BB.size)
    clear hb MM M9
    rcases n5 with n5 | n5 <;> rcases n6 with n6 | n6
    all_goals
      go_wp2_with fail
      go_ret
      exact ⟨rfl, BB⟩
  have HC := Lib.hid hpc
  clear hpc
  go_wp2_with fail
  go_loopw [58, 16] (fun i _ wr => ∃ k : Nat, k ≤ m.length ∧ i = .int .i64 k ∧ Below x7.heap.size x7 wr) (fun i _ _ => m.length - (intOf i).toNat)
  case atStart => exact ⟨0, Nat.zero_le _, rfl, Below.refl _ _⟩
  case round =>
    obtain ⟨k, hk, rfl, hB⟩ := hrel
    have hsz := hB.size
    have zb : pb < wr.heap.size := by omega
    by_cases hlt : k < m.length
    · have b0 : (k : Int) < (m.length : Int) := by omega
      have b1 : 0 ≤ (k : Int) := by omega
      match k, hk, hlt with
      | 0, hk, hlt =>
        go_wp2_with fail
        refine wp_region_bw (by kernel_rfl) (by kernel_rfl) ?_; (repeat (go_big_quiet_step (fail))); refine wpQuiet_nil ?_; intro _ hw'; obtain ⟨xq, hw''⟩ := hw'; subst hw''
        have BZ := hB.trans (xq.below.mono hB.size)
        go_wp2_with fail
        go_roundw
        case rel => exact ⟨0 + 1, by omega, by go_num, BZ⟩
        case measure => simp [intOf]; omega
      | j + 1, hk, hlt =>
        obtain ⟨ca0, ca1, ca2⟩ := HC.out j (by omega)
        have da0 := (hB.cell (p := ⟨pb, po + j * 3, none⟩) hpb).trans ca0
        have da1 := (hB.cell (p := ⟨pb, po + j * 3 + 1, none⟩) hpb).trans ca1
        have da2 := (hB.cell (p := ⟨pb, po + j * 3 + 2, none⟩) hpb).trans ca2
        obtain ⟨cb0, cb1, cb2⟩ := HC.out (j + 1) (by omega)
        have db0 := (hB.cell (p := ⟨pb, po + (j + 1) * 3, none⟩) hpb).trans cb0
        have db1 := (hB.cell (p := ⟨pb, po + (j + 1) * 3 + 1, none⟩) hpb).trans cb1
        have db2 := (hB.cell (p := ⟨pb, po + (j + 1) * 3 + 2, none⟩) hpb).trans cb2
        have na := HN.out j (by omega)
        clear ca0 ca1 ca2 cb0 cb1 cb2
        generalize pt m j = A at *
        generalize pt m (j + 1) = C at *
        obtain ⟨f, t, v⟩ := A
        obtain ⟨f', t', v'⟩ := C
        simp only at da0 da1 da2 db0 db1 db2
        unfold alike at na
        simp only at na
        by_cases c1 : t = f'
        · subst c1
          have c2 : (v == v') = false := by simpa using na
          clear na
          go_wp2_with fail
          refine wp_region_bw (by kernel_rfl) (by kernel_rfl) ?_; (repeat (go_big_quiet_step (fail))); refine wpQuiet_nil ?_; intro _ hw'; obtain ⟨xq, hw''⟩ := hw'; subst hw''
          have BZ := hB.trans (xq.below.mono hB.size)
          go_wp2_with fail
          go_roundw
          case rel => exact ⟨(j + 1) + 1, by omega, by go_num, BZ⟩
          case measure => simp [intOf]; omega
        · have c1 : (t == f') = false := by simpa using c1
          clear na
          go_wp2_with fail
          refine wp_region_bw (by kernel_rfl) (by kernel_rfl) ?_; (repeat (go_big_quiet_step (fail))); refine wpQuiet_nil ?_; intro _ hw'; obtain ⟨xq, hw''⟩ := hw'; subst hw''
          have BZ := hB.trans (xq.below.mono hB.size)
          go_wp2_with fail
          go_roundw
          case rel => exact ⟨(j + 1) + 1, by omega, by go_num, BZ⟩
          case measure => simp [intOf]; omega
    · obtain rfl : k = m.length := by omega
      have BB := B7.trans (hB.mono z7)
      have MM : PtS wr (some ⟨pb, po, none⟩) m := PtS.below (w := x7) (.inr ⟨pb, po, rfl, hpb, HC.out⟩) hB
      clear HC
      go_wp2_with fail
      refine (mean_Right c3 MM (by omega)).mono ?_
      rintro e8 x8 ⟨rfl, hb⟩
      have BB := BB.trans (hb.mono BB.size)
      have MM := MM.below hb
      clear hb
      rw [HR.out]
      go_wp2_with fail
      refine (mean_Merge c3 MM (by omega)).mono ?_
      rintro e9 x9 ⟨v9, rfl, O9, hb⟩
      rw [HA.out] at O9
      obtain ⟨p9, c9, rfl, M9⟩ := own_slice O9
      have BB := BB.trans (hb.mono BB.size)
      have MM := MM.below hb
      clear hb O9
      go_wp2_with fail
      refine (ref12_Same c9 c3 M9 MM (by omega)).mono ?_
      rintro e10 x10 ⟨rfl, hb⟩
      have BB := BB.trans (hb.mono BB.size)
      clear hb MM M9
      rcases n5 with n5 | n5 <;> rcases n6 with n6 | n6
      all_goals
        go_wp2_with fail
        go_ret
        exact ⟨rfl, BB⟩
theorem MeanMerged_frame (p : Option Addr) (cap : Nat) (l : List Pt) (a b : Int) (hI : ∀ k, k < l.length → PtI (pt l k)) (w : World) (h : PtS w p l) : Calls Try.prog 5 #[.slice p l.length cap, spn a b] w fun e w' => e = .returned (.bool true) ∧ Below w.heap.size w w' := by
  by_cases hlen : 60 < l.length
  · exact MeanMerged_many cap a b h hI hlen
  · cases hr : rightL l
    · exact MeanMerged_wrong cap a b h hI (by omega) hr
    · exact MeanMerged_right cap a b h hI (by omega) hr
end Go.Proofs.Ytlnfffenahjcnaa
