/-
  TopMeasure: the walk.
-/
import Derived.Test.YtjddmcecllhlhaaSpu
import Derived.Test.YtjddmcecllhlhaaSwpD
import Derived.Test.YtjddmcecllhlhaaPra
namespace Go.Proofs.Ytjddmcecllhlhaa
open Go.RowKit Swp Flo
attribute [local go_sem] BW.cell BW.frozen
theorem two_spans {w : World} {b : Nat} {x y u v : Int} (hb : b < w.heap.size) (h0 : w.cell? ⟨b, 0, none⟩ = some (.int .i64 x)) (h1 : w.cell? ⟨b, 1, none⟩ = some (.int .i64 y)) (h2 : w.cell? ⟨b, 2, none⟩ = some (.int .i64 u)) (h3 : w.cell? ⟨b, 3, none⟩ = some (.int .i64 v)) : SpS w (some ⟨b, 0, none⟩) [(x, y), (u, v)] := by
  refine .inr ⟨b, 0, rfl, hb, fun k hk => ?_⟩
  have : k = 0 ∨ k = 1 := by simp at hk; omega
  rcases this with rfl | rfl
  · exact ⟨h0, h1⟩
  · exact ⟨h2, h3⟩
theorem len_cases (a b : Int) : lenE a b = 1 ∨ (lenE a b = 0 ∧ a < b ∧ lenV a b = b - a) := by
  unfold lenE lenV errI valI
  by_cases h : a < b
  · rw [if_pos h, if_pos h]
    cases hk : okI (b - a)
    · exact .inl rfl
    · exact .inr ⟨rfl, h, rfl⟩
  · rw [if_neg h]
    exact .inl rfl
/-- How long a slice is. -/
def vlen : Value → Nat
  | .slice _ n _ => n
  | _ => 0
set_option maxRecDepth 100000 in
set_option maxHeartbeats 16000000 in
theorem TopMeasure_walk {w : World} {p : Option Addr} {l : List Sp} (cap : Nat) (a b : Int) (ka : I64 a) (kb : I64 b) (h : SpS w p l) : Calls Try.prog 3 #[.slice p l.length cap, spn a b] w fun e w' => e = .returned (.bool true) ∧ Below w.heap.size w w' := by
  have HP := Lib.hid h
  clear h
  go_enter Try.func3, Try.ntmps3
  go_wp2_with fail
  refine (spans_Of (pa := some ⟨w.heap.size + 1, 0, none⟩) (a := [(0, 3), (3, 5)]) 2 (two_spans (by simp) (by go_simp) (by go_simp) (by go_simp) (by go_simp)) (by simp)).mono ?_
  rintro e w1 ⟨v, R, rfl, h1, h2, h3, h4, hb⟩
  have h5 := one_set h2 h3
  obtain ⟨p1, c1, rfl, _⟩ := h1.toS
  rw [h5]
  have B1 : Below w.heap.size w w1 := (by (focus (repeat' (first | exact Below.refl _ _ | refine Below.alloc ?_ ?_ _ | refine Below.setCell ?_ ?_ _ | refine Below.drew ?_ | refine below_drewN ?_ _ | refine Below.trans ?_ (Below.mono (by assumption) ?_) | refine Below.trans ?_ (Below.mono (BW.below _) ?_) | (simp; done) | (simp; omega) | omega))))
  have z1 := hb.size
  simp at z1
  have s0 : w1.cell? ⟨w.heap.size, 0, none⟩ = some (.int .i64 a) := (hb.cell (p := ⟨w.heap.size, 0, none⟩) (by simp; omega)).trans (by go_simp)
  have s1 : w1.cell? ⟨w.heap.size, 1, none⟩ = some (.int .i64 b) := (hb.cell (p := ⟨w.heap.size, 1, none⟩) (by simp; omega)).trans (by go_simp)
  clear h1 h2 h3 h4 h5 hb
  have z1 : w.heap.size < w1.heap.size := by omega
  go_wp2_with fail
  refine (span_Len a b ka kb _).mono ?_
  rintro e w2 ⟨rfl, hb⟩
  have B2 : Below w.heap.size w w2 := B1.trans (hb.mono B1.size)
  have s0 := (hb.cell (p := ⟨w.heap.size, 0, none⟩) z1).trans s0
  have s1 := (hb.cell (p := ⟨w.heap.size, 1, none⟩) z1).trans s1
  have z2 : w.heap.size < w2.heap.size := Nat.lt_of_lt_of_le z1 hb.size
  clear hb B1 z1
  by_cases h40 : 40 < l.length
  · have h40' : (40 : Int) < (l.length : Int) := by omega
    generalize lenE a b = E at *
    generalize lenV a b = V at *
    go_wp2_with fail
    go_ret
    exact ⟨rfl, B2⟩
  have h40' : ¬ (40 : Int) < (l.length : Int) := by omega
  rcases len_cases a b with hE | ⟨hE, hab, hV⟩
  · rw [hE]
    generalize lenV a b = V at *
    go_wp2_with fail
    go_ret
    exact ⟨rfl, B2⟩
  rw [hE, hV]
  clear hE hV
  by_cases hn : 1125899906842624 < b - a
  · go_wp2_with fail
    go_ret
    exact ⟨rfl, B2⟩
  have P2 := Lib.hid (HP.out.below B2)
  clear HP
  have ll : l.length ≤ 100000 := by omega
  go_wp2_with fail
  go_region_held3 (fun w' => (∀ b o, b < w2.heap.size → w'.cell? ⟨b, o, none⟩ = w2.cell? ⟨b, o, none⟩) ∧ Below w2.heap.size w2 w') (first | exact held_drew _ | exact held_call (by assumption) (by assumption) | exact held_call (held_alloc (held_drew _) _) (by assumption) | exact held_alloc (held_drew _) _ | exact held_alloc (by assumption) _) (first
    | (go_at_call 6; refine (spans_And (pb := some ⟨w2.heap.size, 0, none⟩) (b := [(a, b)]) cap 1 (P2.out.below (by (focus (repeat' (first | exact Below.refl _ _ | refine Below.alloc ?_ ?_ _ | refine Below.setCell ?_ ?_ _ | refine Below.drew ?_ | refine below_drewN ?_ _ | refine Below.trans ?_ (Below.mono (by assumption) ?_) | refine Below.trans ?_ (Below.mono (BW.below _) ?_) | (simp; done) | (simp; omega) | omega))))) (one_span (by simp) (by go_simp) (by go_simp)) ll (by simp)).mono ?_; rintro e w3 ⟨v3, R3, rfl, h31, h32, h33, h34, hb3⟩)
    | (go_at_call 7; refine (spans_Gaps cap a b (P2.out.below (by (focus (repeat' (first | exact Below.refl _ _ | refine Below.alloc ?_ ?_ _ | refine Below.setCell ?_ ?_ _ | refine Below.drew ?_ | refine below_drewN ?_ _ | refine Below.trans ?_ (Below.mono (by assumption) ?_) | refine Below.trans ?_ (Below.mono (BW.below _) ?_) | (simp; done) | (simp; omega) | omega))))) ll).mono ?_; rintro e w4 ⟨v4, R4, rfl, h41, h42, h43, h44, hb4⟩))
  rename_i hHeld
  have hW4 : Below w2.heap.size w2 w4 := hHeld.2
  clear hHeld
  have B4 : Below w.heap.size w w4 := B2.trans (hW4.mono B2.size)
  have s0 := (hW4.cell (p := ⟨w.heap.size, 0, none⟩) z2).trans s0
  have s1 := (hW4.cell (p := ⟨w.heap.size, 1, none⟩) z2).trans s1
  have z4 : w.heap.size < w4.heap.size := Nat.lt_of_lt_of_le z2 hW4.size
  have P4 := Lib.hid (P2.out.below hW4)
  have V3 := Lib.hid (h31.toV.below hb4)
  have V4 := Lib.hid h41.toV
  have LA := Lib.hid (lens_add hab h32 h33 h42 h43)
  have H32 := Lib.hid h32
  have H33 := Lib.hid h33
  have H42 := Lib.hid h42
  simp only [List.length_singleton] at h34 h44
  clear h31 h32 h33 h41 h42 h43 hb3 hb4 hW4 P2 B2 z2
  go_wp2_with fail
  go_loopw [8, 9, 10] (fun x y v wr => ∃ (X Y : List Sp) (D : List Pt), Hid (SpV w4 x X) ∧ Hid (SpV w4 y Y) ∧ Hid (PrtAt wr w4.heap.size v D) ∧ Hid (D ++ mrg X Y = mrg R3 R4) ∧ D.length + X.length + Y.length ≤ 400 ∧ Below w4.heap.size w4 wr) (fun x y _ _ => vlen x + vlen y)
  case atStart => exact ⟨R3, R4, [], V3, V4, Lib.hid (PrtAt.nil _ _), Lib.hid rfl, by simp; omega, Below.refl _ _⟩
  case round =>
    obtain ⟨X, Y, D, HX, HY, HD, HM, hL, hB⟩ := hrel
    have hsz := hB.size
    cases X with
    | nil =>
      obtain ⟨px, cx, rfl⟩ := HX.out.nil
      cases Y with
      | nil =>
        obtain ⟨py, cy, rfl⟩ := HY.out.nil
        have hD : D = mrg R3 R4 := by have := HM.out; rw [mrg, List.append_nil] at this; exact this
        subst hD
        have s0 := (hB.cell (p := ⟨w.heap.size, 0, none⟩) z4).trans s0
        have s1 := (hB.cell (p := ⟨w.heap.size, 1, none⟩) z4).trans s1
        have z5 : w.heap.size < wr.heap.size := by omega
        have PW := Lib.hid (P4.out.below hB)
        have B5 : Below w.heap.size w wr := B4.trans (hB.mono B4.size)
        obtain ⟨pd, cd, rfl, SD⟩ := HD.out.toS
        have SD := Lib.hid SD
        clear HX HY HD HM P4 V3 V4
        go_wp2_with fail
        refine (spans_And (pb := some ⟨wr.heap.size, 0, none⟩) (b := [(a, b)]) cap 1 (PW.out.below (by (focus (repeat' (first | exact Below.refl _ _ | refine Below.alloc ?_ ?_ _ | refine Below.setCell ?_ ?_ _ | refine Below.drew ?_ | refine below_drewN ?_ _ | refine Below.trans ?_ (Below.mono (by assumption) ?_) | refine Below.trans ?_ (Below.mono (BW.below _) ?_) | (simp; done) | (simp; omega) | omega))))) (one_span (by simp) (by go_simp) (by go_simp)) ll (by simp)).mono ?_
        rintro e w5 ⟨v5, R5, rfl, h51, h52, h53, h54, hb5⟩
        obtain ⟨p5, c5, rfl, S5⟩ := h51.toS
        have q5 : Below wr.heap.size wr w5 := (by (focus (repeat' (first | exact Below.refl _ _ | refine Below.alloc ?_ ?_ _ | refine Below.setCell ?_ ?_ _ | refine Below.drew ?_ | refine below_drewN ?_ _ | refine Below.trans ?_ (Below.mono (by assumption) ?_) | refine Below.trans ?_ (Below.mono (BW.below _) ?_) | (simp; done) | (simp; omega) | omega))))
        simp only [List.length_singleton] at h54
        clear hb5 h51
        go_wp2_with fail
        refine (spans_Total c5 (lo := a) (hi := b) S5 (by omega) ka kb (by omega) (by omega) (fun t ht => by rw [h53, wnt, inL_cons, inL_nil] at ht; simp at ht; exact ht.2)).mono ?_
        rintro e w6 ⟨R6, rfl, h62, h63, hb6⟩
        have q6 : Below wr.heap.size wr w6 := q5.trans (hb6.mono q5.size)
        have hT : lenL R6 = lenL R3 := (lens_of (by omega) H32.out LA.out.1 h62 (fun t => by rw [h63, h53, H33.out])).1
        rw [hT]
        clear hT h62 h63 h52 h53 h54 S5 hb6 q5
        have s0 := (q6.cell (p := ⟨w.heap.size, 0, none⟩) z5).trans s0
        have s1 := (q6.cell (p := ⟨w.heap.size, 1, none⟩) z5).trans s1
        have B6 : Below w.heap.size w w6 := B5.trans (q6.mono B5.size)
        have SD6 := SD.out.below q6
        obtain ⟨bR, bG, hA, hsum⟩ := LA.out
        have hpp := mrg_parts _ R3 R4 a b rfl H32.out H42.out hA bR bG
        obtain ⟨m1, m2, m3, m4⟩ := mrg_sums _ R3 R4 rfl
        obtain ⟨mx, mx0, mx1⟩ := mean_parts ka kb hab (by omega) hpp m4 (by rw [m1]; exact hsum)
        have hPI : ∀ k, k < (mrg R3 R4).length → PtI (pt (mrg R3 R4) k) := fun k hk => by
          have hm : pt (mrg R3 R4) k ∈ mrg R3 R4 := by rw [pt_get hk]; exact List.getElem_mem hk
          have g1 := hpp.ok _ hm
          have g2 := m4 _ hm
          unfold PtI I64 at *
          omega
        have hme := fun w hw => mean_Mean (w := w) (p := pd) (l := mrg R3 R4) cd a b hw (by rw [m3]; omega) hPI
        rw [mx, show totE (mrg R3 R4) = 0 by unfold totE; rw [if_pos (parts_right hpp)], m2] at hme
        rw [m2] at mx0 mx1
        obtain ⟨m, hm, hlt, hnan, hsub, heq⟩ := share mx0 mx1 (by omega) (by omega)
        rw [hm] at hme
        clear mx mx0 mx1 hPI hpp m1 m2 m3 m4 hsum hA bR bG LA H32 H33 H42 SD PW
        generalize lenL R3 = T at *
        generalize mrg R3 R4 = PP at *
        go_wp2_with fail
        refine (hme _ SD6).mono ?_
        rintro e w7 ⟨y, rfl, hy, hb7⟩
        obtain rfl : y = m := (nz_eq_some hy.out.2).1
        have B7 : Below w.heap.size w w7 := B6.trans (hb7.mono B6.size)
        have hq := fun w => run_float_arith (P := Try.prog) w .quo 35 .f64 _ _ _ hm
        have hs := fun w => run_float_arith (P := Try.prog) w .sub 35 .f64 _ _ _ hsub
        have o1 : FloatKind.f64.format.order 0 4517329193108106637 = some .lt := by kernel_rfl
        have o2 : FloatKind.f64.format.order 0 13740701229962882445 = some .gt := by kernel_rfl
        have o3 : (FloatKind.f64.format.order y 0 == some Ordering.eq) = decide (T = 0) := heq
        clear hme hy hb7 B6 B5 B4 s0 s1 hm hsub heq
        go_wp2_with fail
        go_ret
        refine ⟨?_, B7⟩
        show Ending.returned (.bool ((T == 0) == decide (T = 0))) = _
        rw [show ((T == 0) == decide (T = 0)) = true by by_cases h : T = 0 <;> simp [h]]

      | cons y Y =>
        obtain ⟨by_, oy, cy, rfl, ky1, ky2, ky3, y0, y1, ky⟩ := HY.out.cons
        have y0 := (hB.cell (p := ⟨by_, oy, none⟩) ky1).trans y0
        have y1 := (hB.cell (p := ⟨by_, oy + 1, none⟩) ky1).trans y1
        have ky4 := Nat.lt_of_lt_of_le ky1 hsz
        have ey1 : ((Y.length : Int) + 1 == 0) = false := by simp; omega
        have ey2 : (0 : Int) < (Y.length : Int) + 1 := by omega
        have HM2 : Hid ((D ++ [(y.1, y.2, 0)]) ++ mrg [] Y = mrg R3 R4) := Lib.hid (by rw [← HM.out, mrg_right (fun x hx => by cases hx), List.append_assoc]; rfl)
        obtain ⟨f, t⟩ := y
        simp only [List.length_cons, List.length_nil] at *
        go_wp2_with fail
        refine wp_region_bw (by kernel_rfl) (by kernel_rfl) ?_; (repeat (go_big_quiet_step (fail))); refine wpQuiet_nil ?_; intro _ hw'; obtain ⟨xq, hw''⟩ := hw'; subst hw''
        have zq := xq.below.size
        go_wp2_with (at_builtin; go_loud (refine app_prt rfl _ _ rfl w4.heap.size _ D rfl (HD.out.below ?_) _ f t 0 rfl ?_ ?_ ?_ (by omega) ?_ ?_; (focus (repeat' (first | exact Below.refl _ _ | refine Below.alloc ?_ ?_ _ | refine Below.setCell ?_ ?_ _ | refine Below.drew ?_ | refine below_drewN ?_ _ | refine Below.trans ?_ (Below.mono (by assumption) ?_) | refine Below.trans ?_ (Below.mono (BW.below _) ?_) | (simp; done) | (simp; omega) | omega))); (simp [Addr.add]); (simp [Addr.add]); (simp [Addr.add]); (simp; omega); intro v9 w9 own9 hb9; have z9 := hb9.size; (try simp at z9)))
        have BX : Below w4.heap.size w4 w9 := hB.trans (((xq.below.mono hsz).alloc (Nat.le_trans hsz zq) _).trans hb9)
        have OW := Lib.hid own9
        clear own9
        go_roundw
        case rel => exact ⟨[], Y, D ++ [(f, t, 0)], HX, Lib.hid (SpV.rest ky1 ky2 ky3 ky), OW, HM2, by simp; omega, BX⟩
        case measure => simp [vlen]

    | cons x X =>
      obtain ⟨bx, ox, cx, rfl, kx1, kx2, kx3, x0, x1, kx⟩ := HX.out.cons
      have x0 := (hB.cell (p := ⟨bx, ox, none⟩) kx1).trans x0
      have x1 := (hB.cell (p := ⟨bx, ox + 1, none⟩) kx1).trans x1
      have kx4 := Nat.lt_of_lt_of_le kx1 hsz
      have ex1 : ((X.length : Int) + 1 == 0) = false := by simp; omega
      have ex2 : (0 : Int) < (X.length : Int) + 1 := by omega
      cases Y with
      | nil =>
        obtain ⟨py, cy, rfl⟩ := HY.out.nil
        have HM2 : Hid ((D ++ [(x.1, x.2, 1)]) ++ mrg X [] = mrg R3 R4) := Lib.hid (by rw [← HM.out, mrg_left (fun y hy => by cases hy), List.append_assoc]; rfl)
        obtain ⟨f, t⟩ := x
        simp only [List.length_cons, List.length_nil] at *
        go_wp2_with fail
        refine wp_region_bw (by kernel_rfl) (by kernel_rfl) ?_; (repeat (go_big_quiet_step (fail))); refine wpQuiet_nil ?_; intro _ hw'; obtain ⟨xq, hw''⟩ := hw'; subst hw''
        have zq := xq.below.size
        go_wp2_with (at_builtin; go_loud (refine app_prt rfl _ _ rfl w4.heap.size _ D rfl (HD.out.below ?_) _ f t 1 rfl ?_ ?_ ?_ (by omega) ?_ ?_; (focus (repeat' (first | exact Below.refl _ _ | refine Below.alloc ?_ ?_ _ | refine Below.setCell ?_ ?_ _ | refine Below.drew ?_ | refine below_drewN ?_ _ | refine Below.trans ?_ (Below.mono (by assumption) ?_) | refine Below.trans ?_ (Below.mono (BW.below _) ?_) | (simp; done) | (simp; omega) | omega))); (simp [Addr.add]); (simp [Addr.add]); (simp [Addr.add]); (simp; omega); intro v9 w9 own9 hb9; have z9 := hb9.size; (try simp at z9)))
        have BX : Below w4.heap.size w4 w9 := hB.trans (((xq.below.mono hsz).alloc (Nat.le_trans hsz zq) _).trans hb9)
        have OW := Lib.hid own9
        clear own9
        go_roundw
        case rel => exact ⟨X, [], D ++ [(f, t, 1)], Lib.hid (SpV.rest kx1 kx2 kx3 kx), HY, OW, HM2, by simp; omega, BX⟩
        case measure => simp [vlen]

      | cons y Y =>
        obtain ⟨by_, oy, cy, rfl, ky1, ky2, ky3, y0, y1, ky⟩ := HY.out.cons
        have y0 := (hB.cell (p := ⟨by_, oy, none⟩) ky1).trans y0
        have y1 := (hB.cell (p := ⟨by_, oy + 1, none⟩) ky1).trans y1
        have ky4 := Nat.lt_of_lt_of_le ky1 hsz
        have ey1 : ((Y.length : Int) + 1 == 0) = false := by simp; omega
        have ey2 : (0 : Int) < (Y.length : Int) + 1 := by omega
        by_cases hxy : x.1 < y.1
        · have hd : decide (x.1 < y.1) = true := decide_eq_true hxy
          have HM2 : Hid ((D ++ [(x.1, x.2, 1)]) ++ mrg X (y :: Y) = mrg R3 R4) := Lib.hid (by rw [← HM.out, mrg_left (fun y' hy => by simp at hy; subst hy; exact hxy), List.append_assoc]; rfl)
          obtain ⟨f, t⟩ := x
          simp only [List.length_cons, List.length_nil] at *
          go_wp2_with fail
          refine wp_region_bw (by kernel_rfl) (by kernel_rfl) ?_; (repeat (go_big_quiet_step (fail))); refine wpQuiet_nil ?_; intro _ hw'; obtain ⟨xq, hw''⟩ := hw'; subst hw''
          have zq := xq.below.size
          go_wp2_with (at_builtin; go_loud (refine app_prt rfl _ _ rfl w4.heap.size _ D rfl (HD.out.below ?_) _ f t 1 rfl ?_ ?_ ?_ (by omega) ?_ ?_; (focus (repeat' (first | exact Below.refl _ _ | refine Below.alloc ?_ ?_ _ | refine Below.setCell ?_ ?_ _ | refine Below.drew ?_ | refine below_drewN ?_ _ | refine Below.trans ?_ (Below.mono (by assumption) ?_) | refine Below.trans ?_ (Below.mono (BW.below _) ?_) | (simp; done) | (simp; omega) | omega))); (simp [Addr.add]); (simp [Addr.add]); (simp [Addr.add]); (simp; omega); intro v9 w9 own9 hb9; have z9 := hb9.size; (try simp at z9)))
          have BX : Below w4.heap.size w4 w9 := hB.trans (((xq.below.mono hsz).alloc (Nat.le_trans hsz zq) _).trans hb9)
          have OW := Lib.hid own9
          clear own9
          go_roundw
          case rel => exact ⟨X, (y :: Y), D ++ [(f, t, 1)], Lib.hid (SpV.rest kx1 kx2 kx3 kx), HY, OW, HM2, by simp; omega, BX⟩
          case measure => simp [vlen]

        · have hd : decide (x.1 < y.1) = false := decide_eq_false hxy
          have HM2 : Hid ((D ++ [(y.1, y.2, 0)]) ++ mrg (x :: X) Y = mrg R3 R4) := Lib.hid (by rw [← HM.out, mrg_right (fun x' hx => by simp at hx; subst hx; exact hxy), List.append_assoc]; rfl)
          obtain ⟨f, t⟩ := y
          simp only [List.length_cons, List.length_nil] at *
          go_wp2_with fail
          refine wp_region_bw (by kernel_rfl) (by kernel_rfl) ?_; (repeat (go_big_quiet_step (fail))); refine wpQuiet_nil ?_; intro _ hw'; obtain ⟨xq, hw''⟩ := hw'; subst hw''
          have zq := xq.below.size
          go_wp2_with (at_builtin; go_loud (refine app_prt rfl _ _ rfl w4.heap.size _ D rfl (HD.out.below ?_) _ f t 0 rfl ?_ ?_ ?_ (by omega) ?_ ?_; (focus (repeat' (first | exact Below.refl _ _ | refine Below.alloc ?_ ?_ _ | refine Below.setCell ?_ ?_ _ | refine Below.drew ?_ | refine below_drewN ?_ _ | refine Below.trans ?_ (Below.mono (by assumption) ?_) | refine Below.trans ?_ (Below.mono (BW.below _) ?_) | (simp; done) | (simp; omega) | omega))); (simp [Addr.add]); (simp [Addr.add]); (simp [Addr.add]); (simp; omega); intro v9 w9 own9 hb9; have z9 := hb9.size; (try simp at z9)))
          have BX : Below w4.heap.size w4 w9 := hB.trans (((xq.below.mono hsz).alloc (Nat.le_trans hsz zq) _).trans hb9)
          have OW := Lib.hid own9
          clear own9
          go_roundw
          case rel => exact ⟨(x :: X), Y, D ++ [(f, t, 0)], HX, Lib.hid (SpV.rest ky1 ky2 ky3 ky), OW, HM2, by simp; omega, BX⟩
          case measure => simp [vlen]

theorem TopMeasure_frame (p : Option Addr) (cap : Nat) (l : List Sp) (a b : Int) (_ : ∀ k, k < l.length → SpI (spa l k)) (ka : I64 a) (kb : I64 b) (w : World) (h : SpS w p l) : Calls Try.prog 3 #[.slice p l.length cap, spn a b] w fun e w' => e = .returned (.bool true) ∧ Below w.heap.size w w' := TopMeasure_walk cap a b ka kb h
end Go.Proofs.Ytjddmcecllhlhaa
