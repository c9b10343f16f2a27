/-
  TopEachYear: alone a rule occurs as often as it has years.
-/
import Derived.Test.YtjddmcecllhlhaaDoorEyK
namespace Go.Proofs.YtjddmcecllhlhaaDoor
open Go.RowKit Cal
attribute [local go_sem] BW.cell BW.frozen
theorem law21_Eu (w : World) : Calls Tryd.prog 14 #[] w fun e w' => e = .returned (ruV euR) ∧ Below w.heap.size w w' := by
  go_enter Tryd.func14, Tryd.ntmps14
  go_wp2
  refine bodyPost_ret (v := ruV euR) (by simp [results, Tryd.results14, go_sem, euR]) rfl ⟨rfl, ?_⟩
  (focus (repeat' (first | exact Below.refl _ _ | refine Below.alloc ?_ ?_ _ | refine Below.setCell ?_ ?_ _ | refine Below.drew ?_ | refine below_drewN ?_ _ | refine Below.trans ?_ (Below.mono (by assumption) ?_) | refine Below.trans ?_ (Below.mono (BW.below _) ?_) | (simp; done) | (simp; omega) | omega)))
theorem eu_nom (w : World) : Calls Tryd.prog 13 #[ruV euR, .int .i64 2024] w fun e w' => e = .returned (.tuple #[.int .i64 1711846800, .int .i64 0]) ∧ Below w.heap.size w w' := by
  have h := occur_Nom euR eu_right.1 eu_right.2 2024 (by decide) (by decide) w
  rw [show nomV euR 2024 = 1711846800 by decide] at h
  exact h
set_option maxRecDepth 100000 in
set_option maxHeartbeats 4000000 in
theorem TopEachYear_no (r : Ru) (hR : RightIs r false) (off year : Int) (w : World) : Calls Tryd.prog 5 #[ruV r, .int .i64 off, .int .i64 year] w fun e w' => e = .returned (.bool true) ∧ Below w.heap.size w w' := by
  unfold RightIs at hR
  obtain ⟨nm, f, t, m, k, wk, d, s, b, sv, lt⟩ := r
  go_enter Tryd.func5, Tryd.ntmps5
  go_wp2_with (first | (go_at_call 14; refine (law21_Eu _).mono ?_; rintro e w1 ⟨rfl, hb⟩; obtain ⟨hc, hf⟩ := bcell hb; have z := hb.size; (try simp at z); have z0 : w.heap.size < w1.heap.size := (by omega)) | (go_at_call 13; refine (eu_nom _).mono ?_; rintro e w2 ⟨rfl, hb⟩; obtain ⟨hc, hf⟩ := bcell hb; have z := hb.size; (try simp at z); have z0 : w.heap.size < w2.heap.size := (by omega)) | (go_at_call 15; refine (hR _).mono ?_; rintro e w3 ⟨rfl, hb⟩; obtain ⟨hc, hf⟩ := bcell hb; have z := hb.size; (try simp at z); have z0 : w.heap.size < w3.heap.size := (by omega)))
  go_ret
  exact ⟨rfl, by (focus (repeat' (first | exact Below.refl _ _ | refine Below.alloc ?_ ?_ _ | refine Below.setCell ?_ ?_ _ | refine Below.drew ?_ | refine below_drewN ?_ _ | refine Below.trans ?_ (Below.mono (by assumption) ?_) | refine Below.trans ?_ (Below.mono (BW.below _) ?_) | (simp; done) | (simp; omega) | omega)))⟩
theorem TopEachYear_out (r : Ru) (hR : RightIs r true) (off year : Int) (h : 100 < r.nm.size ∨ off < -54000 ∨ 54000 < off) (w : World) : Calls Tryd.prog 5 #[ruV r, .int .i64 off, .int .i64 year] w fun e w' => e = .returned (.bool true) ∧ Below w.heap.size w w' := by
  unfold RightIs at hR
  obtain ⟨nm, f, t, m, k, wk, d, s, b, sv, lt⟩ := r
  dsimp only at h hR
  by_cases h1 : 100 < nm.size
  · have h1' : (100 : Int) < (nm.size : Int) := by omega
    clear h
    go_enter Tryd.func5, Tryd.ntmps5
    go_wp2_with (first | (go_at_call 14; refine (law21_Eu _).mono ?_; rintro e w1 ⟨rfl, hb⟩; obtain ⟨hc, hf⟩ := bcell hb; have z := hb.size; (try simp at z); have z0 : w.heap.size < w1.heap.size := (by omega)) | (go_at_call 13; refine (eu_nom _).mono ?_; rintro e w2 ⟨rfl, hb⟩; obtain ⟨hc, hf⟩ := bcell hb; have z := hb.size; (try simp at z); have z0 : w.heap.size < w2.heap.size := (by omega)) | (go_at_call 15; refine (hR _).mono ?_; rintro e w3 ⟨rfl, hb⟩; obtain ⟨hc, hf⟩ := bcell hb; have z := hb.size; (try simp at z); have z0 : w.heap.size < w3.heap.size := (by omega)))
    go_ret
    exact ⟨rfl, by (focus (repeat' (first | exact Below.refl _ _ | refine Below.alloc ?_ ?_ _ | refine Below.setCell ?_ ?_ _ | refine Below.drew ?_ | refine below_drewN ?_ _ | refine Below.trans ?_ (Below.mono (by assumption) ?_) | refine Below.trans ?_ (Below.mono (BW.below _) ?_) | (simp; done) | (simp; omega) | omega)))⟩
  · have h1' : ¬ (100 : Int) < (nm.size : Int) := by omega
    by_cases h2 : off < -54000
    · clear h
      go_enter Tryd.func5, Tryd.ntmps5
      go_wp2_with (first | (go_at_call 14; refine (law21_Eu _).mono ?_; rintro e w1 ⟨rfl, hb⟩; obtain ⟨hc, hf⟩ := bcell hb; have z := hb.size; (try simp at z); have z0 : w.heap.size < w1.heap.size := (by omega)) | (go_at_call 13; refine (eu_nom _).mono ?_; rintro e w2 ⟨rfl, hb⟩; obtain ⟨hc, hf⟩ := bcell hb; have z := hb.size; (try simp at z); have z0 : w.heap.size < w2.heap.size := (by omega)) | (go_at_call 15; refine (hR _).mono ?_; rintro e w3 ⟨rfl, hb⟩; obtain ⟨hc, hf⟩ := bcell hb; have z := hb.size; (try simp at z); have z0 : w.heap.size < w3.heap.size := (by omega)))
      go_ret
      exact ⟨rfl, by (focus (repeat' (first | exact Below.refl _ _ | refine Below.alloc ?_ ?_ _ | refine Below.setCell ?_ ?_ _ | refine Below.drew ?_ | refine below_drewN ?_ _ | refine Below.trans ?_ (Below.mono (by assumption) ?_) | refine Below.trans ?_ (Below.mono (BW.below _) ?_) | (simp; done) | (simp; omega) | omega)))⟩
    · have h3 : 54000 < off := by omega
      clear h
      go_enter Tryd.func5, Tryd.ntmps5
      go_wp2_with (first | (go_at_call 14; refine (law21_Eu _).mono ?_; rintro e w1 ⟨rfl, hb⟩; obtain ⟨hc, hf⟩ := bcell hb; have z := hb.size; (try simp at z); have z0 : w.heap.size < w1.heap.size := (by omega)) | (go_at_call 13; refine (eu_nom _).mono ?_; rintro e w2 ⟨rfl, hb⟩; obtain ⟨hc, hf⟩ := bcell hb; have z := hb.size; (try simp at z); have z0 : w.heap.size < w2.heap.size := (by omega)) | (go_at_call 15; refine (hR _).mono ?_; rintro e w3 ⟨rfl, hb⟩; obtain ⟨hc, hf⟩ := bcell hb; have z := hb.size; (try simp at z); have z0 : w.heap.size < w3.heap.size := (by omega)))
      go_ret
      exact ⟨rfl, by (focus (repeat' (first | exact Below.refl _ _ | refine Below.alloc ?_ ?_ _ | refine Below.setCell ?_ ?_ _ | refine Below.drew ?_ | refine below_drewN ?_ _ | refine Below.trans ?_ (Below.mono (by assumption) ?_) | refine Below.trans ?_ (Below.mono (BW.below _) ?_) | (simp; done) | (simp; omega) | omega)))⟩
set_option maxRecDepth 100000 in
set_option maxHeartbeats 3000000 in
theorem TopEachYear_in (r : Ru) (hR : RightIs r true) (hr : RuFine r) (off year : Int) (k0 : -54000 ≤ off) (k1 : off ≤ 54000) (hn : r.nm.size ≤ 100) (w : World) : Calls Tryd.prog 5 #[ruV r, .int .i64 off, .int .i64 year] w fun e w' => e = .returned (.bool true) ∧ Below w.heap.size w w' := by
  have HIN := Lib.hid (fun bl w h => occur_In r hR hr bl w h)
  have i0 := hr.1
  have i1 := hr.2.1
  have i2 := hr.2.2.1
  have hR' := hR
  unfold RightIs at hR'
  have h1' : ¬ (100 : Int) < (r.nm.size : Int) := by omega
  have h2' : ¬ off < -54000 := by omega
  have h3' : ¬ 54000 < off := by omega
  have HRR := Lib.hid (And.intro hR hr)
  clear hR hr
  have hR := hR'
  clear hR'
  go_enter Tryd.func5, Tryd.ntmps5
  go_wp2_with (first | (go_at_call 14; refine (law21_Eu _).mono ?_; rintro e w1 ⟨rfl, hb⟩; obtain ⟨hc, hf⟩ := bcell hb; have z := hb.size; (try simp at z); have z0 : w.heap.size < w1.heap.size := (by omega)) | (go_at_call 13; refine (eu_nom _).mono ?_; rintro e w2 ⟨rfl, hb⟩; obtain ⟨hc, hf⟩ := bcell hb; have z := hb.size; (try simp at z); have z0 : w.heap.size < w2.heap.size := (by omega)) | (go_at_call 15; refine (hR _).mono ?_; rintro e w3 ⟨rfl, hb⟩; obtain ⟨hc, hf⟩ := bcell hb; have z := hb.size; (try simp at z); have z0 : w.heap.size < w3.heap.size := (by omega)))
  have B3 : Below w.heap.size w (w3.alloc (.cells #[.string r.nm, .int .i64 r.f, .int .i64 r.t, .int .i64 r.m, .int .i64 r.k, .int .i64 r.wk, .int .i64 r.d, .int .i64 r.s, .int .i64 r.b, .int .i64 r.sv, .string r.lt] 43)) := by (focus (repeat' (first | exact Below.refl _ _ | refine Below.alloc ?_ ?_ _ | refine Below.setCell ?_ ?_ _ | refine Below.drew ?_ | refine below_drewN ?_ _ | refine Below.trans ?_ (Below.mono (by assumption) ?_) | refine Below.trans ?_ (Below.mono (BW.below _) ?_) | (simp; done) | (simp; omega) | omega)))
  have TT : TabAt (w3.alloc (.cells #[.string r.nm, .int .i64 r.f, .int .i64 r.t, .int .i64 r.m, .int .i64 r.k, .int .i64 r.wk, .int .i64 r.d, .int .i64 r.s, .int .i64 r.b, .int .i64 r.sv, .string r.lt] 43)) w3.heap.size r := ⟨by simp, by go_simp, by go_simp, by go_simp, by go_simp, by go_simp, by go_simp, by go_simp, by go_simp, by go_simp, by go_simp, by go_simp⟩
  have c0 : (w3.alloc (.cells #[.string r.nm, .int .i64 r.f, .int .i64 r.t, .int .i64 r.m, .int .i64 r.k, .int .i64 r.wk, .int .i64 r.d, .int .i64 r.s, .int .i64 r.b, .int .i64 r.sv, .string r.lt] 43)).cell? ⟨w.heap.size, 0, none⟩ = some (.string r.nm) := by go_simp
  have c1 : (w3.alloc (.cells #[.string r.nm, .int .i64 r.f, .int .i64 r.t, .int .i64 r.m, .int .i64 r.k, .int .i64 r.wk, .int .i64 r.d, .int .i64 r.s, .int .i64 r.b, .int .i64 r.sv, .string r.lt] 43)).cell? ⟨w.heap.size, 1, none⟩ = some (.int .i64 r.f) := by go_simp
  have c2 : (w3.alloc (.cells #[.string r.nm, .int .i64 r.f, .int .i64 r.t, .int .i64 r.m, .int .i64 r.k, .int .i64 r.wk, .int .i64 r.d, .int .i64 r.s, .int .i64 r.b, .int .i64 r.sv, .string r.lt] 43)).cell? ⟨w.heap.size, 2, none⟩ = some (.int .i64 r.t) := by go_simp
  have c3 : (w3.alloc (.cells #[.string r.nm, .int .i64 r.f, .int .i64 r.t, .int .i64 r.m, .int .i64 r.k, .int .i64 r.wk, .int .i64 r.d, .int .i64 r.s, .int .i64 r.b, .int .i64 r.sv, .string r.lt] 43)).cell? ⟨w.heap.size, 3, none⟩ = some (.int .i64 r.m) := by go_simp
  have c4 : (w3.alloc (.cells #[.string r.nm, .int .i64 r.f, .int .i64 r.t, .int .i64 r.m, .int .i64 r.k, .int .i64 r.wk, .int .i64 r.d, .int .i64 r.s, .int .i64 r.b, .int .i64 r.sv, .string r.lt] 43)).cell? ⟨w.heap.size, 4, none⟩ = some (.int .i64 r.k) := by go_simp
  have c5 : (w3.alloc (.cells #[.string r.nm, .int .i64 r.f, .int .i64 r.t, .int .i64 r.m, .int .i64 r.k, .int .i64 r.wk, .int .i64 r.d, .int .i64 r.s, .int .i64 r.b, .int .i64 r.sv, .string r.lt] 43)).cell? ⟨w.heap.size, 5, none⟩ = some (.int .i64 r.wk) := by go_simp
  have c6 : (w3.alloc (.cells #[.string r.nm, .int .i64 r.f, .int .i64 r.t, .int .i64 r.m, .int .i64 r.k, .int .i64 r.wk, .int .i64 r.d, .int .i64 r.s, .int .i64 r.b, .int .i64 r.sv, .string r.lt] 43)).cell? ⟨w.heap.size, 6, none⟩ = some (.int .i64 r.d) := by go_simp
  have c7 : (w3.alloc (.cells #[.string r.nm, .int .i64 r.f, .int .i64 r.t, .int .i64 r.m, .int .i64 r.k, .int .i64 r.wk, .int .i64 r.d, .int .i64 r.s, .int .i64 r.b, .int .i64 r.sv, .string r.lt] 43)).cell? ⟨w.heap.size, 7, none⟩ = some (.int .i64 r.s) := by go_simp
  have c8 : (w3.alloc (.cells #[.string r.nm, .int .i64 r.f, .int .i64 r.t, .int .i64 r.m, .int .i64 r.k, .int .i64 r.wk, .int .i64 r.d, .int .i64 r.s, .int .i64 r.b, .int .i64 r.sv, .string r.lt] 43)).cell? ⟨w.heap.size, 8, none⟩ = some (.int .i64 r.b) := by go_simp
  have c9 : (w3.alloc (.cells #[.string r.nm, .int .i64 r.f, .int .i64 r.t, .int .i64 r.m, .int .i64 r.k, .int .i64 r.wk, .int .i64 r.d, .int .i64 r.s, .int .i64 r.b, .int .i64 r.sv, .string r.lt] 43)).cell? ⟨w.heap.size, 9, none⟩ = some (.int .i64 r.sv) := by go_simp
  have c10 : (w3.alloc (.cells #[.string r.nm, .int .i64 r.f, .int .i64 r.t, .int .i64 r.m, .int .i64 r.k, .int .i64 r.wk, .int .i64 r.d, .int .i64 r.s, .int .i64 r.b, .int .i64 r.sv, .string r.lt] 43)).cell? ⟨w.heap.size, 10, none⟩ = some (.string r.lt) := by go_simp
  have zt : w.heap.size < (w3.alloc (.cells #[.string r.nm, .int .i64 r.f, .int .i64 r.t, .int .i64 r.m, .int .i64 r.k, .int .i64 r.wk, .int .i64 r.d, .int .i64 r.s, .int .i64 r.b, .int .i64 r.sv, .string r.lt] 43)).heap.size := by simp; omega
  have hl3 : w3.heap.size < (w3.alloc (.cells #[.string r.nm, .int .i64 r.f, .int .i64 r.t, .int .i64 r.m, .int .i64 r.k, .int .i64 r.wk, .int .i64 r.d, .int .i64 r.s, .int .i64 r.b, .int .i64 r.sv, .string r.lt] 43)).heap.size := by simp
  generalize (w3.alloc (.cells #[.string r.nm, .int .i64 r.f, .int .i64 r.t, .int .i64 r.m, .int .i64 r.k, .int .i64 r.wk, .int .i64 r.d, .int .i64 r.s, .int .i64 r.b, .int .i64 r.sv, .string r.lt] 43)) = W at *
  generalize w3.heap.size = bl at *
  clear hb hc hf z z0 hR h1' h2' h3'
  refine (HIN.out _ _ TT).mono ?_
  rintro e w4 ⟨g, cap, rfl, hg1, hgl, hb4⟩
  have T4 := TT.below hb4 hl3 (Nat.le_refl _)
  have x0 := (hb4.cell (p := ⟨w.heap.size, 0, none⟩) zt).trans c0
  have x1 := (hb4.cell (p := ⟨w.heap.size, 1, none⟩) zt).trans c1
  have x2 := (hb4.cell (p := ⟨w.heap.size, 2, none⟩) zt).trans c2
  have x3 := (hb4.cell (p := ⟨w.heap.size, 3, none⟩) zt).trans c3
  have x4 := (hb4.cell (p := ⟨w.heap.size, 4, none⟩) zt).trans c4
  have x5 := (hb4.cell (p := ⟨w.heap.size, 5, none⟩) zt).trans c5
  have x6 := (hb4.cell (p := ⟨w.heap.size, 6, none⟩) zt).trans c6
  have x7 := (hb4.cell (p := ⟨w.heap.size, 7, none⟩) zt).trans c7
  have x8 := (hb4.cell (p := ⟨w.heap.size, 8, none⟩) zt).trans c8
  have x9 := (hb4.cell (p := ⟨w.heap.size, 9, none⟩) zt).trans c9
  have x10 := (hb4.cell (p := ⟨w.heap.size, 10, none⟩) zt).trans c10
  have B4 := B3.trans (hb4.mono B3.size)
  have zt4 : w.heap.size < w4.heap.size := Nat.lt_of_lt_of_le zt hb4.size
  obtain ⟨mm, hm⟩ : ∃ mm, mm = min (yrsN r) 50 := ⟨_, rfl⟩
  rw [← hm]
  have hm1 : (mm : Int) = min (r.t - r.f + 1) 50 := by rw [hm]; unfold yrsN; omega
  have hm0 : (0 : Int) < (mm : Int) := by omega
  have ez : min (r.t - r.f + 1) 50 = (mm : Int) := hm1.symm
  clear hm hm1 hb4 TT c0 c1 c2 c3 c4 c5 c6 c7 c8 c9 c10 HIN
  go_wp2_with fail
  refine wp_region_bw (by kernel_rfl) (by kernel_rfl) ?_; (repeat (go_big_quiet_step (fail))); refine wpQuiet_nil ?_; intro _ hw'; obtain ⟨xq, hw''⟩ := hw'; subst hw''
  have B54 := BW.below xq
  have T5 := T4.below B54 T4.lt (Nat.le_refl _)
  have y0 := (B54.cell (p := ⟨w.heap.size, 0, none⟩) zt4).trans x0
  have y1 := (B54.cell (p := ⟨w.heap.size, 1, none⟩) zt4).trans x1
  have y2 := (B54.cell (p := ⟨w.heap.size, 2, none⟩) zt4).trans x2
  have y3 := (B54.cell (p := ⟨w.heap.size, 3, none⟩) zt4).trans x3
  have y4 := (B54.cell (p := ⟨w.heap.size, 4, none⟩) zt4).trans x4
  have y5 := (B54.cell (p := ⟨w.heap.size, 5, none⟩) zt4).trans x5
  have y6 := (B54.cell (p := ⟨w.heap.size, 6, none⟩) zt4).trans x6
  have y7 := (B54.cell (p := ⟨w.heap.size, 7, none⟩) zt4).trans x7
  have y8 := (B54.cell (p := ⟨w.heap.size, 8, none⟩) zt4).trans x8
  have y9 := (B54.cell (p := ⟨w.heap.size, 9, none⟩) zt4).trans x9
  have y10 := (B54.cell (p := ⟨w.heap.size, 10, none⟩) zt4).trans x10
  have B5 := B4.trans (B54.mono B4.size)
  have zt5 : w.heap.size < xq.val.heap.size := Nat.lt_of_lt_of_le zt4 B54.size
  generalize xq.val = W5 at *
  clear B54 T4 B4 zt4 hg1 hgl x0 x1 x2 x3 x4 x5 x6 x7 x8 x9 x10
  by_cases hyr : r.f ≤ year ∧ year ≤ r.t
  · obtain ⟨h0, h1⟩ := hyr
    have hN := fun w => occur_Nom r HRR.out.1 HRR.out.2 year h0 h1 w
    have HI := Lib.hid (fun w h => chain_Instant r HRR.out.1 HRR.out.2 bl off year k0 k1 h0 h1 w h)
    have HS := Lib.hid (fun w h => chain_Saved r HRR.out.1 HRR.out.2 bl year h0 h1 w h)
    have hnb := nom_bd HRR.out.2 year (by omega) (by omega)
    have hsv := HRR.out.2.2.2.2.2.2
    have hbb := (hour_bd HRR.out.2.2.2.2.2.1).2.2
    generalize nomV r year = N at *
    have hsd : savedV r year = if r.f < year then r.sv else 0 := rfl
    have hsh : shiftV r off year = if r.b = 0 then off + savedV r year else if r.b = 1 then off else 0 := rfl
    clear HRR
    generalize shiftV r off year = SH at *
    generalize savedV r year = SV at *
    have HT5 := Lib.hid T5
    clear T5
    by_cases hf : year = r.f
    · subst hf
      rw [if_neg (by omega)] at hsd
      subst hsd
      have a1 : wrap64 (off + 0) = off := by unfold wrap64; omega
      have a2 : wrap64 (N - off) = N - off := by unfold wrap64; omega
      rcases hbb with hb0 | hb0 | hb0
      · rw [if_pos hb0] at hsh
        have hsh2 : SH = off := by omega
        subst hsh2
        clear hsh
        have HB0 := Lib.hid hb0
        clear hb0
        go_wp2_with (first | (go_at_call 13; refine (hN _).mono ?_; rintro e w6 ⟨rfl, hb⟩; have T6 := HT5.out.below hb HT5.out.lt (Nat.le_refl _); have HT6 := Lib.hid T6; clear T6; have d0 := (hb.cell (p := ⟨w.heap.size, 0, none⟩) zt5).trans y0; have d1 := (hb.cell (p := ⟨w.heap.size, 1, none⟩) zt5).trans y1; have d8 := (hb.cell (p := ⟨w.heap.size, 8, none⟩) zt5).trans y8; have d9 := (hb.cell (p := ⟨w.heap.size, 9, none⟩) zt5).trans y9; have z6 := hb.size; have z60 : w.heap.size < w6.heap.size := (by omega); have B6 := B5.trans (hb.mono B5.size); clear hb z6 y0 y1 y2 y3 y4 y5 y6 y7 y8 y9 y10 hN HT5) | (go_at_call 17; refine (HI.out _ (HT6.out.below ((Below.refl _ _).alloc (Nat.le_refl _) _) HT6.out.lt (Nat.le_refl _))).mono ?_; rintro e w7 ⟨rfl, hb7⟩; have B67 : Below w6.heap.size w6 w7 := ((Below.refl _ _).alloc (Nat.le_refl _) _).trans (hb7.mono (by simp)); have HT7 := Lib.hid (HT6.out.below B67 HT6.out.lt (Nat.le_refl _)); have e0 := (B67.cell (p := ⟨w.heap.size, 0, none⟩) z60).trans d0; have e8 := (B67.cell (p := ⟨w.heap.size, 8, none⟩) z60).trans d8; rw [HB0.out] at e8; have q0 : w7.cell? ⟨w6.heap.size, 0, none⟩ = some (.int .i64 0) := (hb7.cell (p := ⟨w6.heap.size, 0, none⟩) (by simp)).trans (by go_simp); have q1 : w7.cell? ⟨w6.heap.size, 1, none⟩ = some (.int .i64 r.f) := (hb7.cell (p := ⟨w6.heap.size, 1, none⟩) (by simp)).trans (by go_simp); have q2 : w7.cell? ⟨w6.heap.size, 2, none⟩ = some (.int .i64 N) := (hb7.cell (p := ⟨w6.heap.size, 2, none⟩) (by simp)).trans (by go_simp); have B7 := B6.trans (B67.mono B6.size); clear hb7 B67 d0 d1 d8 d9 HI HT6) | (go_at_call 18; refine (HS.out _ HT7.out).mono ?_; rintro e w8 ⟨rfl, hb8⟩))
        go_ret
        exact ⟨rfl, B7.trans (hb8.mono B7.size)⟩
      · rw [if_neg (by omega), if_pos hb0] at hsh
        subst hsh
        have HB0 := Lib.hid hb0
        clear hb0
        go_wp2_with (first | (go_at_call 13; refine (hN _).mono ?_; rintro e w6 ⟨rfl, hb⟩; have T6 := HT5.out.below hb HT5.out.lt (Nat.le_refl _); have HT6 := Lib.hid T6; clear T6; have d0 := (hb.cell (p := ⟨w.heap.size, 0, none⟩) zt5).trans y0; have d1 := (hb.cell (p := ⟨w.heap.size, 1, none⟩) zt5).trans y1; have d8 := (hb.cell (p := ⟨w.heap.size, 8, none⟩) zt5).trans y8; have d9 := (hb.cell (p := ⟨w.heap.size, 9, none⟩) zt5).trans y9; have z6 := hb.size; have z60 : w.heap.size < w6.heap.size := (by omega); have B6 := B5.trans (hb.mono B5.size); clear hb z6 y0 y1 y2 y3 y4 y5 y6 y7 y8 y9 y10 hN HT5) | (go_at_call 17; refine (HI.out _ (HT6.out.below ((Below.refl _ _).alloc (Nat.le_refl _) _) HT6.out.lt (Nat.le_refl _))).mono ?_; rintro e w7 ⟨rfl, hb7⟩; have B67 : Below w6.heap.size w6 w7 := ((Below.refl _ _).alloc (Nat.le_refl _) _).trans (hb7.mono (by simp)); have HT7 := Lib.hid (HT6.out.below B67 HT6.out.lt (Nat.le_refl _)); have e0 := (B67.cell (p := ⟨w.heap.size, 0, none⟩) z60).trans d0; have e8 := (B67.cell (p := ⟨w.heap.size, 8, none⟩) z60).trans d8; rw [HB0.out] at e8; have q0 : w7.cell? ⟨w6.heap.size, 0, none⟩ = some (.int .i64 0) := (hb7.cell (p := ⟨w6.heap.size, 0, none⟩) (by simp)).trans (by go_simp); have q1 : w7.cell? ⟨w6.heap.size, 1, none⟩ = some (.int .i64 r.f) := (hb7.cell (p := ⟨w6.heap.size, 1, none⟩) (by simp)).trans (by go_simp); have q2 : w7.cell? ⟨w6.heap.size, 2, none⟩ = some (.int .i64 N) := (hb7.cell (p := ⟨w6.heap.size, 2, none⟩) (by simp)).trans (by go_simp); have B7 := B6.trans (B67.mono B6.size); clear hb7 B67 d0 d1 d8 d9 HI HT6) | (go_at_call 18; refine (HS.out _ HT7.out).mono ?_; rintro e w8 ⟨rfl, hb8⟩))
        go_ret
        exact ⟨rfl, B7.trans (hb8.mono B7.size)⟩
      · rw [if_neg (by omega), if_neg (by omega)] at hsh
        subst hsh
        have HB0 := Lib.hid hb0
        clear hb0
        go_wp2_with (first | (go_at_call 13; refine (hN _).mono ?_; rintro e w6 ⟨rfl, hb⟩; have T6 := HT5.out.below hb HT5.out.lt (Nat.le_refl _); have HT6 := Lib.hid T6; clear T6; have d0 := (hb.cell (p := ⟨w.heap.size, 0, none⟩) zt5).trans y0; have d1 := (hb.cell (p := ⟨w.heap.size, 1, none⟩) zt5).trans y1; have d8 := (hb.cell (p := ⟨w.heap.size, 8, none⟩) zt5).trans y8; have d9 := (hb.cell (p := ⟨w.heap.size, 9, none⟩) zt5).trans y9; have z6 := hb.size; have z60 : w.heap.size < w6.heap.size := (by omega); have B6 := B5.trans (hb.mono B5.size); clear hb z6 y0 y1 y2 y3 y4 y5 y6 y7 y8 y9 y10 hN HT5) | (go_at_call 17; refine (HI.out _ (HT6.out.below ((Below.refl _ _).alloc (Nat.le_refl _) _) HT6.out.lt (Nat.le_refl _))).mono ?_; rintro e w7 ⟨rfl, hb7⟩; have B67 : Below w6.heap.size w6 w7 := ((Below.refl _ _).alloc (Nat.le_refl _) _).trans (hb7.mono (by simp)); have HT7 := Lib.hid (HT6.out.below B67 HT6.out.lt (Nat.le_refl _)); have e0 := (B67.cell (p := ⟨w.heap.size, 0, none⟩) z60).trans d0; have e8 := (B67.cell (p := ⟨w.heap.size, 8, none⟩) z60).trans d8; rw [HB0.out] at e8; have q0 : w7.cell? ⟨w6.heap.size, 0, none⟩ = some (.int .i64 0) := (hb7.cell (p := ⟨w6.heap.size, 0, none⟩) (by simp)).trans (by go_simp); have q1 : w7.cell? ⟨w6.heap.size, 1, none⟩ = some (.int .i64 r.f) := (hb7.cell (p := ⟨w6.heap.size, 1, none⟩) (by simp)).trans (by go_simp); have q2 : w7.cell? ⟨w6.heap.size, 2, none⟩ = some (.int .i64 N) := (hb7.cell (p := ⟨w6.heap.size, 2, none⟩) (by simp)).trans (by go_simp); have B7 := B6.trans (B67.mono B6.size); clear hb7 B67 d0 d1 d8 d9 HI HT6) | (go_at_call 18; refine (HS.out _ HT7.out).mono ?_; rintro e w8 ⟨rfl, hb8⟩))
        go_ret
        exact ⟨rfl, B7.trans (hb8.mono B7.size)⟩
    · rw [if_pos (by omega)] at hsd
      subst hsd
      have hf' : (year == r.f) = false := by simpa using hf
      have a1 : wrap64 (off + r.sv) = off + r.sv := by unfold wrap64; omega
      have a2 : wrap64 (N - (off + r.sv)) = N - (off + r.sv) := by unfold wrap64; omega
      have a3 : wrap64 (N - off) = N - off := by unfold wrap64; omega
      rcases hbb with hb0 | hb0 | hb0
      · rw [if_pos hb0] at hsh
        subst hsh
        have HB0 := Lib.hid hb0
        clear hb0
        go_wp2_with (first | (go_at_call 13; refine (hN _).mono ?_; rintro e w6 ⟨rfl, hb⟩; have T6 := HT5.out.below hb HT5.out.lt (Nat.le_refl _); have HT6 := Lib.hid T6; clear T6; have d0 := (hb.cell (p := ⟨w.heap.size, 0, none⟩) zt5).trans y0; have d1 := (hb.cell (p := ⟨w.heap.size, 1, none⟩) zt5).trans y1; have d8 := (hb.cell (p := ⟨w.heap.size, 8, none⟩) zt5).trans y8; have d9 := (hb.cell (p := ⟨w.heap.size, 9, none⟩) zt5).trans y9; have z6 := hb.size; have z60 : w.heap.size < w6.heap.size := (by omega); have B6 := B5.trans (hb.mono B5.size); clear hb z6 y0 y1 y2 y3 y4 y5 y6 y7 y8 y9 y10 hN HT5) | (go_at_call 17; refine (HI.out _ (HT6.out.below ((Below.refl _ _).alloc (Nat.le_refl _) _) HT6.out.lt (Nat.le_refl _))).mono ?_; rintro e w7 ⟨rfl, hb7⟩; have B67 : Below w6.heap.size w6 w7 := ((Below.refl _ _).alloc (Nat.le_refl _) _).trans (hb7.mono (by simp)); have HT7 := Lib.hid (HT6.out.below B67 HT6.out.lt (Nat.le_refl _)); have e0 := (B67.cell (p := ⟨w.heap.size, 0, none⟩) z60).trans d0; have e8 := (B67.cell (p := ⟨w.heap.size, 8, none⟩) z60).trans d8; rw [HB0.out] at e8; have q0 : w7.cell? ⟨w6.heap.size, 0, none⟩ = some (.int .i64 0) := (hb7.cell (p := ⟨w6.heap.size, 0, none⟩) (by simp)).trans (by go_simp); have q1 : w7.cell? ⟨w6.heap.size, 1, none⟩ = some (.int .i64 year) := (hb7.cell (p := ⟨w6.heap.size, 1, none⟩) (by simp)).trans (by go_simp); have q2 : w7.cell? ⟨w6.heap.size, 2, none⟩ = some (.int .i64 N) := (hb7.cell (p := ⟨w6.heap.size, 2, none⟩) (by simp)).trans (by go_simp); have B7 := B6.trans (B67.mono B6.size); clear hb7 B67 d0 d1 d8 d9 HI HT6) | (go_at_call 18; refine (HS.out _ HT7.out).mono ?_; rintro e w8 ⟨rfl, hb8⟩))
        go_ret
        exact ⟨rfl, B7.trans (hb8.mono B7.size)⟩
      · rw [if_neg (by omega), if_pos hb0] at hsh
        subst hsh
        have HB0 := Lib.hid hb0
        clear hb0
        go_wp2_with (first | (go_at_call 13; refine (hN _).mono ?_; rintro e w6 ⟨rfl, hb⟩; have T6 := HT5.out.below hb HT5.out.lt (Nat.le_refl _); have HT6 := Lib.hid T6; clear T6; have d0 := (hb.cell (p := ⟨w.heap.size, 0, none⟩) zt5).trans y0; have d1 := (hb.cell (p := ⟨w.heap.size, 1, none⟩) zt5).trans y1; have d8 := (hb.cell (p := ⟨w.heap.size, 8, none⟩) zt5).trans y8; have d9 := (hb.cell (p := ⟨w.heap.size, 9, none⟩) zt5).trans y9; have z6 := hb.size; have z60 : w.heap.size < w6.heap.size := (by omega); have B6 := B5.trans (hb.mono B5.size); clear hb z6 y0 y1 y2 y3 y4 y5 y6 y7 y8 y9 y10 hN HT5) | (go_at_call 17; refine (HI.out _ (HT6.out.below ((Below.refl _ _).alloc (Nat.le_refl _) _) HT6.out.lt (Nat.le_refl _))).mono ?_; rintro e w7 ⟨rfl, hb7⟩; have B67 : Below w6.heap.size w6 w7 := ((Below.refl _ _).alloc (Nat.le_refl _) _).trans (hb7.mono (by simp)); have HT7 := Lib.hid (HT6.out.below B67 HT6.out.lt (Nat.le_refl _)); have e0 := (B67.cell (p := ⟨w.heap.size, 0, none⟩) z60).trans d0; have e8 := (B67.cell (p := ⟨w.heap.size, 8, none⟩) z60).trans d8; rw [HB0.out] at e8; have q0 : w7.cell? ⟨w6.heap.size, 0, none⟩ = some (.int .i64 0) := (hb7.cell (p := ⟨w6.heap.size, 0, none⟩) (by simp)).trans (by go_simp); have q1 : w7.cell? ⟨w6.heap.size, 1, none⟩ = some (.int .i64 year) := (hb7.cell (p := ⟨w6.heap.size, 1, none⟩) (by simp)).trans (by go_simp); have q2 : w7.cell? ⟨w6.heap.size, 2, none⟩ = some (.int .i64 N) := (hb7.cell (p := ⟨w6.heap.size, 2, none⟩) (by simp)).trans (by go_simp); have B7 := B6.trans (B67.mono B6.size); clear hb7 B67 d0 d1 d8 d9 HI HT6) | (go_at_call 18; refine (HS.out _ HT7.out).mono ?_; rintro e w8 ⟨rfl, hb8⟩))
        go_ret
        exact ⟨rfl, B7.trans (hb8.mono B7.size)⟩
      · rw [if_neg (by omega), if_neg (by omega)] at hsh
        subst hsh
        have HB0 := Lib.hid hb0
        clear hb0
        go_wp2_with (first | (go_at_call 13; refine (hN _).mono ?_; rintro e w6 ⟨rfl, hb⟩; have T6 := HT5.out.below hb HT5.out.lt (Nat.le_refl _); have HT6 := Lib.hid T6; clear T6; have d0 := (hb.cell (p := ⟨w.heap.size, 0, none⟩) zt5).trans y0; have d1 := (hb.cell (p := ⟨w.heap.size, 1, none⟩) zt5).trans y1; have d8 := (hb.cell (p := ⟨w.heap.size, 8, none⟩) zt5).trans y8; have d9 := (hb.cell (p := ⟨w.heap.size, 9, none⟩) zt5).trans y9; have z6 := hb.size; have z60 : w.heap.size < w6.heap.size := (by omega); have B6 := B5.trans (hb.mono B5.size); clear hb z6 y0 y1 y2 y3 y4 y5 y6 y7 y8 y9 y10 hN HT5) | (go_at_call 17; refine (HI.out _ (HT6.out.below ((Below.refl _ _).alloc (Nat.le_refl _) _) HT6.out.lt (Nat.le_refl _))).mono ?_; rintro e w7 ⟨rfl, hb7⟩; have B67 : Below w6.heap.size w6 w7 := ((Below.refl _ _).alloc (Nat.le_refl _) _).trans (hb7.mono (by simp)); have HT7 := Lib.hid (HT6.out.below B67 HT6.out.lt (Nat.le_refl _)); have e0 := (B67.cell (p := ⟨w.heap.size, 0, none⟩) z60).trans d0; have e8 := (B67.cell (p := ⟨w.heap.size, 8, none⟩) z60).trans d8; rw [HB0.out] at e8; have q0 : w7.cell? ⟨w6.heap.size, 0, none⟩ = some (.int .i64 0) := (hb7.cell (p := ⟨w6.heap.size, 0, none⟩) (by simp)).trans (by go_simp); have q1 : w7.cell? ⟨w6.heap.size, 1, none⟩ = some (.int .i64 year) := (hb7.cell (p := ⟨w6.heap.size, 1, none⟩) (by simp)).trans (by go_simp); have q2 : w7.cell? ⟨w6.heap.size, 2, none⟩ = some (.int .i64 N) := (hb7.cell (p := ⟨w6.heap.size, 2, none⟩) (by simp)).trans (by go_simp); have B7 := B6.trans (B67.mono B6.size); clear hb7 B67 d0 d1 d8 d9 HI HT6) | (go_at_call 18; refine (HS.out _ HT7.out).mono ?_; rintro e w8 ⟨rfl, hb8⟩))
        go_ret
        exact ⟨rfl, B7.trans (hb8.mono B7.size)⟩
  · have hN := fun w => occur_Nom_no r HRR.out.1 year (by omega) w
    go_wp2_with (go_at_call 13; refine (hN _).mono ?_; rintro e w6 ⟨rfl, hb⟩; obtain ⟨hc, hf⟩ := bcell hb; have z := hb.size; (try simp at z); have z0 : w.heap.size < w6.heap.size := (by omega))
    all_goals go_ret
    all_goals exact ⟨(by first | rfl | exact ret_bool (by simp; omega)), by (focus (repeat' (first | exact Below.refl _ _ | refine Below.alloc ?_ ?_ _ | refine Below.setCell ?_ ?_ _ | refine Below.drew ?_ | refine below_drewN ?_ _ | refine Below.trans ?_ (Below.mono (by assumption) ?_) | refine Below.trans ?_ (Below.mono (BW.below _) ?_) | (simp; done) | (simp; omega) | omega)))⟩
theorem TopEachYear_walk (r : Ru) (kr : RuI r) (off year : Int) (w : World) : Calls Tryd.prog 5 #[ruV r, .int .i64 off, .int .i64 year] w fun e w' => e = .returned (.bool true) ∧ Below w.heap.size w w' := by
  obtain ⟨b, hR, hf⟩ := rule_Right r kr
  cases b
  · exact TopEachYear_no r hR off year w
  · by_cases h : 100 < r.nm.size ∨ off < -54000 ∨ 54000 < off
    · exact TopEachYear_out r hR off year h w
    · exact TopEachYear_in r hR (hf rfl) off year (by omega) (by omega) (by omega) w
end Go.Proofs.YtjddmcecllhlhaaDoor
