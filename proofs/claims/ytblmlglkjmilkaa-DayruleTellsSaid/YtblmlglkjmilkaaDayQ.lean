/-
  Contracts of Days (rules), of the reference.
-/
import Derived.Test.YtblmlglkjmilkaaDayR
namespace Go.Proofs.Ytblmlglkjmilkaa
open Go.RowKit Cal
attribute [local go_sem] BW.cell BW.frozen

theorem ref05_Days_n (k wk d y m : Int) (h : onFits k wk d m = false) (w : World) : Calls Try.prog 36 #[dat k wk d, .int .i64 y, .int .i64 m] w fun e w' => e = .returned (.tuple #[.int .i64 (ruleV k wk d y m), .int .i64 (ruleE k wk d y m)]) ∧ Below w.heap.size w w' := by
  have hF := fun w => ref05_Fits k wk d m w
  rw [h] at hF
  obtain ⟨e1, e2⟩ := rule_n (y := y) h
  rw [e1, e2]
  clear e1 e2 h
  go_enter Try.func36, Try.ntmps36
  go_wp2_with (go_at_call 42; refine (hF _).mono ?_; rintro e w1 ⟨rfl, hb⟩; obtain ⟨hc, hf⟩ := bcell hb; have z := hb.size; (try simp at z); have z0 : w.heap.size < w1.heap.size := (by omega))
  go_ret2
  exact ⟨rfl, by (focus (repeat' (first | exact Below.refl _ _ | refine Below.alloc ?_ ?_ _ | refine Below.setCell ?_ ?_ _ | refine Below.drew ?_ | refine below_drewN ?_ _ | refine Below.trans ?_ (Below.mono (by assumption) ?_) | refine Below.trans ?_ (Below.mono (BW.below _) ?_) | (simp; done) | (simp; omega) | omega)))⟩
theorem ref05_Days_r (k wk d y m : Int) (h : onFits k wk d m = true) (hy : inB y (-39999) 39999 = false) (w : World) : Calls Try.prog 36 #[dat k wk d, .int .i64 y, .int .i64 m] w fun e w' => e = .returned (.tuple #[.int .i64 (ruleV k wk d y m), .int .i64 (ruleE k wk d y m)]) ∧ Below w.heap.size w w' := by
  have hF := fun w => ref05_Fits k wk d m w
  rw [h] at hF
  obtain ⟨e1, e2⟩ := rule_r h hy
  rw [e1, e2]
  have hy := inB_no.1 hy
  clear e1 e2 h
  by_cases h1 : -39999 ≤ y
  · have h2 : 39999 < y := by omega
    clear hy
    go_enter Try.func36, Try.ntmps36
    go_wp2_with (go_at_call 42; refine (hF _).mono ?_; rintro e w1 ⟨rfl, hb⟩; obtain ⟨hc, hf⟩ := bcell hb; have z := hb.size; (try simp at z); have z0 : w.heap.size < w1.heap.size := (by omega))
    go_ret2
    exact ⟨rfl, by (focus (repeat' (first | exact Below.refl _ _ | refine Below.alloc ?_ ?_ _ | refine Below.setCell ?_ ?_ _ | refine Below.drew ?_ | refine below_drewN ?_ _ | refine Below.trans ?_ (Below.mono (by assumption) ?_) | refine Below.trans ?_ (Below.mono (BW.below _) ?_) | (simp; done) | (simp; omega) | omega)))⟩
  · have h2 : y < -39999 := by omega
    clear hy h1
    go_enter Try.func36, Try.ntmps36
    go_wp2_with (go_at_call 42; refine (hF _).mono ?_; rintro e w1 ⟨rfl, hb⟩; obtain ⟨hc, hf⟩ := bcell hb; have z := hb.size; (try simp at z); have z0 : w.heap.size < w1.heap.size := (by omega))
    go_ret2
    exact ⟨rfl, by (focus (repeat' (first | exact Below.refl _ _ | refine Below.alloc ?_ ?_ _ | refine Below.setCell ?_ ?_ _ | refine Below.drew ?_ | refine below_drewN ?_ _ | refine Below.trans ?_ (Below.mono (by assumption) ?_) | refine Below.trans ?_ (Below.mono (BW.below _) ?_) | (simp; done) | (simp; omega) | omega)))⟩
set_option maxRecDepth 100000 in
set_option maxHeartbeats 4000000 in
theorem ref05_Days_0 (wk d y m : Int) (ky : I64 y) (h : onFits 0 wk d m = true) (hy : inB y (-39999) 39999 = true) (w : World) : Calls Try.prog 36 #[dat 0 wk d, .int .i64 y, .int .i64 m] w fun e w' => e = .returned (.tuple #[.int .i64 (ruleV 0 wk d y m), .int .i64 (ruleE 0 wk d y m)]) ∧ Below w.heap.size w w' := by
  have hF := fun w => ref05_Fits 0 wk d m w
  have hD := fun w => ref03_Days y m 1 ky w
  have hL := fun w => ref03_Len y m ky w
  obtain ⟨hr, v1, v2, n0, n1, l0, l1⟩ := rule_base h hy
  obtain ⟨m0, m1, d0, d1, k0, k1, _, _⟩ := fit_kinds h
  obtain ⟨e1, e2⟩ := rule_y h hy
  have hy := inB_iff.1 hy
  obtain ⟨y0, y1⟩ := hy
  rw [h] at hF
  rw [v1, v2] at hD
  rw [e1, e2]
  clear e1 e2 h hr v1 v2
  have eN : ruleN 0 wk d y m = numb y m 1 + d - 1 := rfl
  rw [eN]
  clear eN
  generalize numb y m 1 = f at *
  generalize mlen y m = L at *
  go_enter Try.func36, Try.ntmps36
  go_wp2_with (first | (go_at_call 42; refine (hF _).mono ?_; rintro e w1 ⟨rfl, hb⟩; obtain ⟨hc, hf⟩ := bcell hb; have z := hb.size; (try simp at z); have z0 : w.heap.size < w1.heap.size := (by omega)) | (go_at_call 45; refine (hD _).mono ?_; rintro e w2 ⟨rfl, hb⟩; obtain ⟨hc, hf⟩ := bcell hb; have z := hb.size; (try simp at z); have z0 : w.heap.size < w2.heap.size := (by omega)) | (go_at_call 53; refine (hL _).mono ?_; rintro e w3 ⟨rfl, hb⟩; obtain ⟨hc, hf⟩ := bcell hb; have z := hb.size; (try simp at z); have z0 : w.heap.size < w3.heap.size := (by omega)))
  go_ret2
  exact ⟨rfl, by (focus (repeat' (first | exact Below.refl _ _ | refine Below.alloc ?_ ?_ _ | refine Below.setCell ?_ ?_ _ | refine Below.drew ?_ | refine below_drewN ?_ _ | refine Below.trans ?_ (Below.mono (by assumption) ?_) | refine Below.trans ?_ (Below.mono (BW.below _) ?_) | (simp; done) | (simp; omega) | omega)))⟩
set_option maxRecDepth 100000 in
set_option maxHeartbeats 4000000 in
theorem ref05_Days_1 (wk d y m : Int) (ky : I64 y) (h : onFits 1 wk d m = true) (hy : inB y (-39999) 39999 = true) (w : World) : Calls Try.prog 36 #[dat 1 wk d, .int .i64 y, .int .i64 m] w fun e w' => e = .returned (.tuple #[.int .i64 (ruleV 1 wk d y m), .int .i64 (ruleE 1 wk d y m)]) ∧ Below w.heap.size w w' := by
  have hF := fun w => ref05_Fits 1 wk d m w
  have hD := fun w => ref03_Days y m 1 ky w
  have hL := fun w => ref03_Len y m ky w
  obtain ⟨hr, v1, v2, n0, n1, l0, l1⟩ := rule_base h hy
  obtain ⟨m0, m1, d0, d1, k0, k1, _, _⟩ := fit_kinds h
  obtain ⟨e1, e2⟩ := rule_y h hy
  have hy := inB_iff.1 hy
  obtain ⟨y0, y1⟩ := hy
  rw [h] at hF
  rw [v1, v2] at hD
  rw [e1, e2]
  clear e1 e2 h hr v1 v2
  have eN : ruleN 1 wk d y m = numb y m 1 + mlen y m - 1 - backI (numb y m 1 + mlen y m - 1) wk := rfl
  rw [eN]
  clear eN
  generalize numb y m 1 = f at *
  generalize mlen y m = L at *
  have bd := backI_bd (f + L - 1) wk
  have bd6 := backI_bd (f + L - 1 + 6) wk
  have b0 : -200000000 ≤ f + L - 1 := by omega
  have b1 : f + L - 1 ≤ 200000000 := by omega
  obtain ⟨N, hN⟩ : ∃ N, f + L - 1 = N := ⟨_, rfl⟩
  rw [hN] at bd bd6 b0 b1
  rw [hN]
  have HN := Lib.hid hN
  clear hN
  go_enter Try.func36, Try.ntmps36
  go_wp2_with (first | (go_at_call 42; refine (hF _).mono ?_; rintro e w1 ⟨rfl, hb⟩; obtain ⟨hc, hf⟩ := bcell hb; have z := hb.size; (try simp at z); have z0 : w.heap.size < w1.heap.size := (by omega)) | (go_at_call 45; refine (hD _).mono ?_; rintro e w2 ⟨rfl, hb⟩; obtain ⟨hc, hf⟩ := bcell hb; have z := hb.size; (try simp at z); have z0 : w.heap.size < w2.heap.size := (by omega)) | (go_at_call 53; refine (hL _).mono ?_; rintro e w3 ⟨rfl, hb⟩; obtain ⟨hc, hf⟩ := bcell hb; have z := hb.size; (try simp at z); have z0 : w.heap.size < w3.heap.size := (by omega)))
  have c1 : w3.cell? ⟨w.heap.size, 1, none⟩ = some (.int .i64 wk) := by go_simp
  have B1 : Below w.heap.size w w3 := by (focus (repeat' (first | exact Below.refl _ _ | refine Below.alloc ?_ ?_ _ | refine Below.setCell ?_ ?_ _ | refine Below.drew ?_ | refine below_drewN ?_ _ | refine Below.trans ?_ (Below.mono (by assumption) ?_) | refine Below.trans ?_ (Below.mono (BW.below _) ?_) | (simp; done) | (simp; omega) | omega)))
  have z1 : w.heap.size < w3.heap.size := by omega
  clear hb hc hf z hF hD hL n0 n1 l0 l1 d0 d1
  go_loopw [10] (fun n wr => ∃ j : Int, 0 ≤ j ∧ j ≤ backI N wk ∧ n = .int .i64 (N - j) ∧ wr.cell? ⟨w.heap.size, 1, none⟩ = some (.int .i64 wk) ∧ w.heap.size < wr.heap.size ∧ Below w.heap.size w wr) (fun n _ => (intOf n - N + 7).toNat)
  case atStart => exact ⟨0, by omega, by omega, by rw [Int.sub_zero, ← HN.out], c1, z1, B1⟩
  case round =>
    clear c1 z1 B1
    obtain ⟨j, hj0, hj1, rfl, c1, z1, B1⟩ := hrel
    have kn : I64 (N - j) := I64.sm (by omega)
    have hW := fun w => ref03_Weekday (N - j) kn w
    rcases back_at N wk j ⟨k0, k1⟩ hj0 hj1 with ⟨hlt, ha⟩ | ⟨hlt, ha⟩
    · have ha' : (wday (N - j) != wk) = true := by rw [bne_iff_ne]; exact ha
      clear ha
      generalize wday (N - j) = x at *
      have e : N - j + (-1) = N - (j + 1) := by omega
      go_wp2_with fail
      refine wp_region_bw (by kernel_rfl) (by kernel_rfl) ?_; (repeat (go_big_quiet_step ((go_at_call 57; exact bw_same (hW _))))); refine wpQuiet_nil ?_; intro _ hw'; obtain ⟨xq, hw''⟩ := hw'; subst hw''
      go_wp2_with fail
      go_roundw
      case rel => exact ⟨j + 1, by omega, by omega, by first | rfl | rw [e], (xq.cell _ _ z1).trans c1, Nat.lt_of_lt_of_le z1 xq.below.size, B1.trans (xq.below.mono (Nat.le_of_lt z1))⟩
      case measure => simp [intOf]; omega
    · have ha' : (wday (N - j) != wk) = false := by rw [ha]; simp
      have HL := Lib.hid hlt
      clear ha hlt
      generalize wday (N - j) = x at *
      go_wp2_with fail
      refine wp_region_bw (by kernel_rfl) (by kernel_rfl) ?_; (repeat (go_big_quiet_step ((go_at_call 57; exact bw_same (hW _))))); refine wpQuiet_nil ?_; intro _ hw'; obtain ⟨xq, hw''⟩ := hw'; subst hw''
      go_wp2_with fail
      go_ret2
      exact ⟨ret2 (by rw [HL.out]) rfl, B1.trans (xq.below.mono (Nat.le_of_lt z1))⟩
set_option maxRecDepth 100000 in
set_option maxHeartbeats 4000000 in
theorem ref05_Days_3 (wk d y m : Int) (ky : I64 y) (h : onFits 3 wk d m = true) (hy : inB y (-39999) 39999 = true) (w : World) : Calls Try.prog 36 #[dat 3 wk d, .int .i64 y, .int .i64 m] w fun e w' => e = .returned (.tuple #[.int .i64 (ruleV 3 wk d y m), .int .i64 (ruleE 3 wk d y m)]) ∧ Below w.heap.size w w' := by
  have hF := fun w => ref05_Fits 3 wk d m w
  have hD := fun w => ref03_Days y m 1 ky w
  have hL := fun w => ref03_Len y m ky w
  obtain ⟨hr, v1, v2, n0, n1, l0, l1⟩ := rule_base h hy
  obtain ⟨m0, m1, d0, d1, k0, k1, _, _⟩ := fit_kinds h
  obtain ⟨e1, e2⟩ := rule_y h hy
  have hy := inB_iff.1 hy
  obtain ⟨y0, y1⟩ := hy
  rw [h] at hF
  rw [v1, v2] at hD
  rw [e1, e2]
  clear e1 e2 h hr v1 v2
  have eN : ruleN 3 wk d y m = numb y m 1 + d - 1 - backI (numb y m 1 + d - 1) wk := rfl
  rw [eN]
  clear eN
  generalize numb y m 1 = f at *
  generalize mlen y m = L at *
  have bd := backI_bd (f + d - 1) wk
  have bd6 := backI_bd (f + d - 1 + 6) wk
  have b0 : -200000000 ≤ f + d - 1 := by omega
  have b1 : f + d - 1 ≤ 200000000 := by omega
  obtain ⟨N, hN⟩ : ∃ N, f + d - 1 = N := ⟨_, rfl⟩
  rw [hN] at bd bd6 b0 b1
  rw [hN]
  have HN := Lib.hid hN
  clear hN
  go_enter Try.func36, Try.ntmps36
  go_wp2_with (first | (go_at_call 42; refine (hF _).mono ?_; rintro e w1 ⟨rfl, hb⟩; obtain ⟨hc, hf⟩ := bcell hb; have z := hb.size; (try simp at z); have z0 : w.heap.size < w1.heap.size := (by omega)) | (go_at_call 45; refine (hD _).mono ?_; rintro e w2 ⟨rfl, hb⟩; obtain ⟨hc, hf⟩ := bcell hb; have z := hb.size; (try simp at z); have z0 : w.heap.size < w2.heap.size := (by omega)) | (go_at_call 53; refine (hL _).mono ?_; rintro e w3 ⟨rfl, hb⟩; obtain ⟨hc, hf⟩ := bcell hb; have z := hb.size; (try simp at z); have z0 : w.heap.size < w3.heap.size := (by omega)))
  have c1 : w2.cell? ⟨w.heap.size, 1, none⟩ = some (.int .i64 wk) := by go_simp
  have B1 : Below w.heap.size w w2 := by (focus (repeat' (first | exact Below.refl _ _ | refine Below.alloc ?_ ?_ _ | refine Below.setCell ?_ ?_ _ | refine Below.drew ?_ | refine below_drewN ?_ _ | refine Below.trans ?_ (Below.mono (by assumption) ?_) | refine Below.trans ?_ (Below.mono (BW.below _) ?_) | (simp; done) | (simp; omega) | omega)))
  have z1 : w.heap.size < w2.heap.size := by omega
  clear hb hc hf z hF hD hL n0 n1 l0 l1 d0 d1
  go_loopw [10] (fun n wr => ∃ j : Int, 0 ≤ j ∧ j ≤ backI N wk ∧ n = .int .i64 (N - j) ∧ wr.cell? ⟨w.heap.size, 1, none⟩ = some (.int .i64 wk) ∧ w.heap.size < wr.heap.size ∧ Below w.heap.size w wr) (fun n _ => (intOf n - N + 7).toNat)
  case atStart => exact ⟨0, by omega, by omega, by rw [Int.sub_zero, ← HN.out], c1, z1, B1⟩
  case round =>
    clear c1 z1 B1
    obtain ⟨j, hj0, hj1, rfl, c1, z1, B1⟩ := hrel
    have kn : I64 (N - j) := I64.sm (by omega)
    have hW := fun w => ref03_Weekday (N - j) kn w
    rcases back_at N wk j ⟨k0, k1⟩ hj0 hj1 with ⟨hlt, ha⟩ | ⟨hlt, ha⟩
    · have ha' : (wday (N - j) != wk) = true := by rw [bne_iff_ne]; exact ha
      clear ha
      generalize wday (N - j) = x at *
      have e : N - j + (-1) = N - (j + 1) := by omega
      go_wp2_with fail
      refine wp_region_bw (by kernel_rfl) (by kernel_rfl) ?_; (repeat (go_big_quiet_step ((go_at_call 57; exact bw_same (hW _))))); refine wpQuiet_nil ?_; intro _ hw'; obtain ⟨xq, hw''⟩ := hw'; subst hw''
      go_wp2_with fail
      go_roundw
      case rel => exact ⟨j + 1, by omega, by omega, by first | rfl | rw [e], (xq.cell _ _ z1).trans c1, Nat.lt_of_lt_of_le z1 xq.below.size, B1.trans (xq.below.mono (Nat.le_of_lt z1))⟩
      case measure => simp [intOf]; omega
    · have ha' : (wday (N - j) != wk) = false := by rw [ha]; simp
      have HL := Lib.hid hlt
      clear ha hlt
      generalize wday (N - j) = x at *
      go_wp2_with fail
      refine wp_region_bw (by kernel_rfl) (by kernel_rfl) ?_; (repeat (go_big_quiet_step ((go_at_call 57; exact bw_same (hW _))))); refine wpQuiet_nil ?_; intro _ hw'; obtain ⟨xq, hw''⟩ := hw'; subst hw''
      go_wp2_with fail
      go_ret2
      exact ⟨ret2 (by rw [HL.out]) rfl, B1.trans (xq.below.mono (Nat.le_of_lt z1))⟩
set_option maxRecDepth 100000 in
set_option maxHeartbeats 4000000 in
theorem ref05_Days_2 (wk d y m : Int) (ky : I64 y) (h : onFits 2 wk d m = true) (hy : inB y (-39999) 39999 = true) (w : World) : Calls Try.prog 36 #[dat 2 wk d, .int .i64 y, .int .i64 m] w fun e w' => e = .returned (.tuple #[.int .i64 (ruleV 2 wk d y m), .int .i64 (ruleE 2 wk d y m)]) ∧ Below w.heap.size w w' := by
  have hF := fun w => ref05_Fits 2 wk d m w
  have hD := fun w => ref03_Days y m 1 ky w
  have hL := fun w => ref03_Len y m ky w
  obtain ⟨hr, v1, v2, n0, n1, l0, l1⟩ := rule_base h hy
  obtain ⟨m0, m1, d0, d1, k0, k1, _, _⟩ := fit_kinds h
  obtain ⟨e1, e2⟩ := rule_y h hy
  have hy := inB_iff.1 hy
  obtain ⟨y0, y1⟩ := hy
  rw [h] at hF
  rw [v1, v2] at hD
  rw [e1, e2]
  clear e1 e2 h hr v1 v2
  have eN : ruleN 2 wk d y m = numb y m 1 + d - 1 + (6 - backI (numb y m 1 + d - 1 + 6) wk) := rfl
  rw [eN]
  clear eN
  generalize numb y m 1 = f at *
  generalize mlen y m = L at *
  have bd := backI_bd (f + d - 1) wk
  have bd6 := backI_bd (f + d - 1 + 6) wk
  have b0 : -200000000 ≤ f + d - 1 := by omega
  have b1 : f + d - 1 ≤ 200000000 := by omega
  obtain ⟨N, hN⟩ : ∃ N, f + d - 1 = N := ⟨_, rfl⟩
  rw [hN] at bd bd6 b0 b1
  rw [hN]
  have HN := Lib.hid hN
  clear hN
  go_enter Try.func36, Try.ntmps36
  go_wp2_with (first | (go_at_call 42; refine (hF _).mono ?_; rintro e w1 ⟨rfl, hb⟩; obtain ⟨hc, hf⟩ := bcell hb; have z := hb.size; (try simp at z); have z0 : w.heap.size < w1.heap.size := (by omega)) | (go_at_call 45; refine (hD _).mono ?_; rintro e w2 ⟨rfl, hb⟩; obtain ⟨hc, hf⟩ := bcell hb; have z := hb.size; (try simp at z); have z0 : w.heap.size < w2.heap.size := (by omega)) | (go_at_call 53; refine (hL _).mono ?_; rintro e w3 ⟨rfl, hb⟩; obtain ⟨hc, hf⟩ := bcell hb; have z := hb.size; (try simp at z); have z0 : w.heap.size < w3.heap.size := (by omega)))
  have c1 : w2.cell? ⟨w.heap.size, 1, none⟩ = some (.int .i64 wk) := by go_simp
  have B1 : Below w.heap.size w w2 := by (focus (repeat' (first | exact Below.refl _ _ | refine Below.alloc ?_ ?_ _ | refine Below.setCell ?_ ?_ _ | refine Below.drew ?_ | refine below_drewN ?_ _ | refine Below.trans ?_ (Below.mono (by assumption) ?_) | refine Below.trans ?_ (Below.mono (BW.below _) ?_) | (simp; done) | (simp; omega) | omega)))
  have z1 : w.heap.size < w2.heap.size := by omega
  clear hb hc hf z hF hD hL n0 n1 l0 l1 d0 d1
  go_loopw [10] (fun n wr => ∃ j : Int, 0 ≤ j ∧ j ≤ 6 - backI (N + 6) wk ∧ n = .int .i64 (N + j) ∧ wr.cell? ⟨w.heap.size, 1, none⟩ = some (.int .i64 wk) ∧ w.heap.size < wr.heap.size ∧ Below w.heap.size w wr) (fun n _ => (N + 7 - intOf n).toNat)
  case atStart => exact ⟨0, by omega, by omega, by rw [Int.add_zero, ← HN.out], c1, z1, B1⟩
  case round =>
    clear c1 z1 B1
    obtain ⟨j, hj0, hj1, rfl, c1, z1, B1⟩ := hrel
    have kn : I64 (N + j) := I64.sm (by omega)
    have hW := fun w => ref03_Weekday (N + j) kn w
    rcases fore_at N wk j ⟨k0, k1⟩ hj0 hj1 with ⟨hlt, ha⟩ | ⟨hlt, ha⟩
    · have ha' : (wday (N + j) != wk) = true := by rw [bne_iff_ne]; exact ha
      clear ha
      generalize wday (N + j) = x at *
      have e : N + j + 1 = N + (j + 1) := by omega
      go_wp2_with fail
      refine wp_region_bw (by kernel_rfl) (by kernel_rfl) ?_; (repeat (go_big_quiet_step ((go_at_call 57; exact bw_same (hW _))))); refine wpQuiet_nil ?_; intro _ hw'; obtain ⟨xq, hw''⟩ := hw'; subst hw''
      go_wp2_with fail
      go_roundw
      case rel => exact ⟨j + 1, by omega, by omega, by first | rfl | rw [e], (xq.cell _ _ z1).trans c1, Nat.lt_of_lt_of_le z1 xq.below.size, B1.trans (xq.below.mono (Nat.le_of_lt z1))⟩
      case measure => simp [intOf]; omega
    · have ha' : (wday (N + j) != wk) = false := by rw [ha]; simp
      have HL := Lib.hid hlt
      clear ha hlt
      generalize wday (N + j) = x at *
      go_wp2_with fail
      refine wp_region_bw (by kernel_rfl) (by kernel_rfl) ?_; (repeat (go_big_quiet_step ((go_at_call 57; exact bw_same (hW _))))); refine wpQuiet_nil ?_; intro _ hw'; obtain ⟨xq, hw''⟩ := hw'; subst hw''
      go_wp2_with fail
      go_ret2
      exact ⟨ret2 (by rw [HL.out]) rfl, B1.trans (xq.below.mono (Nat.le_of_lt z1))⟩
theorem ref05_Days (k wk d y m : Int) (ky : I64 y) (w : World) : Calls Try.prog 36 #[dat k wk d, .int .i64 y, .int .i64 m] w fun e w' => e = .returned (.tuple #[.int .i64 (ruleV k wk d y m), .int .i64 (ruleE k wk d y m)]) ∧ Below w.heap.size w w' := by
  cases h : onFits k wk d m
  · exact ref05_Days_n k wk d y m h w
  · cases hy : inB y (-39999) 39999
    · exact ref05_Days_r k wk d y m h hy w
    · obtain ⟨_, _, _, _, _, _, _, hk⟩ := fit_kinds h
      rcases hk with rfl | rfl | rfl | rfl
      · exact ref05_Days_1 wk d y m ky h hy w
      · exact ref05_Days_0 wk d y m ky h hy w
      · exact ref05_Days_2 wk d y m ky h hy w
      · exact ref05_Days_3 wk d y m ky h hy w
end Go.Proofs.Ytblmlglkjmilkaa
