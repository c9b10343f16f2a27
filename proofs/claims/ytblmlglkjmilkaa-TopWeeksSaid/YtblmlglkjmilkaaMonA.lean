/-
  Contracts of monthly.Add.
-/
import Derived.Test.YtblmlglkjmilkaaMonP
import Derived.Test.YtblmlglkjmilkaaTail
namespace Go.Proofs.Ytblmlglkjmilkaa
open Go.RowKit Cal
attribute [local go_sem] BW.cell BW.frozen

theorem I64.wr (x : Int) : I64 (IntKind.i64.wrap x) := by
  rw [IntKind.wrap_i64]; unfold I64; omega
theorem I64.wr64 (x : Int) : I64 (wrap64 x) := by unfold I64 wrap64; omega
theorem monthly_Add_a (y m d n : Int) (ky : I64 y) (km : I64 m) (kn : I64 n) (h : rightB y m d = false) (w : World) : Calls Try.prog 62 #[dat y m d, .int .i64 n] w fun e w' => e = .returned (.tuple #[dat (addY y m d n) (addM y m d n) (addD y m d n), .int .i64 (addE y m d n)]) ∧ Below w.heap.size w w' := by
  have hR := fun w => civil_Right y m d ky w
  rw [h] at hR
  obtain ⟨e1, e2, e3, e4⟩ := add_n (addB_no (n := n) h)
  rw [e1, e2, e3, e4]
  clear e1 e2 e3 e4 h
  go_enter Try.func62, Try.ntmps62
  go_wp2_with (first
    | (go_at_call 80; refine (num_Add _ _ (by with_reducible first | exact I64.wr64 _ | exact I64.wr _) kn _).mono ?_; rintro e w' ⟨rfl, rfl⟩)
    | (go_at_call 54; refine (hR _).mono ?_; rintro e w1 ⟨rfl, hb⟩; obtain ⟨hc, hf⟩ := bcell hb; have z := hb.size; (try simp at z); have z0 : w.heap.size < w1.heap.size := (by omega); have z1 : w.heap.size + 1 < w1.heap.size := (by omega); have d0 : w1.cell? ⟨w.heap.size + 1, 0, none⟩ = some (.int .i64 0) := (hb.cell (p := ⟨w.heap.size + 1, 0, none⟩) (by first | (simp; done) | (simp; omega) | omega)).trans (by go_simp); have g0 : w1.frozen? ⟨w.heap.size + 1, 0, none⟩ = false := (hb.frozen (p := ⟨w.heap.size + 1, 0, none⟩) (by first | (simp; done) | (simp; omega) | omega)).trans (by go_simp); have d1 : w1.cell? ⟨w.heap.size + 1, 1, none⟩ = some (.int .i64 0) := (hb.cell (p := ⟨w.heap.size + 1, 1, none⟩) (by first | (simp; done) | (simp; omega) | omega)).trans (by go_simp); have g1 : w1.frozen? ⟨w.heap.size + 1, 1, none⟩ = false := (hb.frozen (p := ⟨w.heap.size + 1, 1, none⟩) (by first | (simp; done) | (simp; omega) | omega)).trans (by go_simp); have d2 : w1.cell? ⟨w.heap.size + 1, 2, none⟩ = some (.int .i64 0) := (hb.cell (p := ⟨w.heap.size + 1, 2, none⟩) (by first | (simp; done) | (simp; omega) | omega)).trans (by go_simp); have g2 : w1.frozen? ⟨w.heap.size + 1, 2, none⟩ = false := (hb.frozen (p := ⟨w.heap.size + 1, 2, none⟩) (by first | (simp; done) | (simp; omega) | omega)).trans (by go_simp)))
  refine bodyPost_ret (v := .tuple #[dat _ _ _, .int .i64 _]) (by simp [results, Try.results62, go_sem, *]) rfl ⟨rfl, ?_⟩
  (focus (repeat' (first | exact Below.refl _ _ | refine Below.alloc ?_ ?_ _ | refine Below.setCell ?_ ?_ _ | refine Below.drew ?_ | refine below_drewN ?_ _ | refine Below.trans ?_ (Below.mono (by assumption) ?_) | refine Below.trans ?_ (Below.mono (BW.below _) ?_) | (simp; done) | (simp; omega) | omega)))
theorem monthly_Add_b (y m d n : Int) (ky : I64 y) (kn : I64 n) (h : rightB y m d = true) (hs : okI (moN y m n) = false) (w : World) : Calls Try.prog 62 #[dat y m d, .int .i64 n] w fun e w' => e = .returned (.tuple #[dat (addY y m d n) (addM y m d n) (addD y m d n), .int .i64 (addE y m d n)]) ∧ Below w.heap.size w w' := by
  have hR := fun w => civil_Right y m d ky w
  rw [h] at hR
  obtain ⟨y0, y1, m0, m1, d0, d1⟩ := (right_iff y m d).1 h
  have hb : addB y m d n = false := by
    cases hc : addB y m d n
    · rfl
    · have := (addB_iff y m d n).1 hc
      rw [okI_y (by omega)] at hs
      exact Bool.noConfusion hs
  obtain ⟨e1, e2, e3, e4⟩ := add_n hb
  rw [e1, e2, e3, e4]
  have hA := fun w => num_Add (y * 12 + m - 1) n (I64.sm (by omega)) kn w
  rw [show y * 12 + m - 1 + n = moN y m n from rfl, (valI_n hs).1, (valI_n hs).2] at hA
  clear e1 e2 e3 e4 h hs hb d1
  go_enter Try.func62, Try.ntmps62
  go_wp2_with (first
    | (go_at_call 80; refine (hA _).mono ?_; rintro e w' ⟨rfl, rfl⟩)
    | (go_at_call 54; refine (hR _).mono ?_; rintro e w1 ⟨rfl, hb⟩; obtain ⟨hc, hf⟩ := bcell hb; have z := hb.size; (try simp at z); have z0 : w.heap.size < w1.heap.size := (by omega); have z1 : w.heap.size + 1 < w1.heap.size := (by omega); have d0 : w1.cell? ⟨w.heap.size + 1, 0, none⟩ = some (.int .i64 0) := (hb.cell (p := ⟨w.heap.size + 1, 0, none⟩) (by first | (simp; done) | (simp; omega) | omega)).trans (by go_simp); have g0 : w1.frozen? ⟨w.heap.size + 1, 0, none⟩ = false := (hb.frozen (p := ⟨w.heap.size + 1, 0, none⟩) (by first | (simp; done) | (simp; omega) | omega)).trans (by go_simp); have d1 : w1.cell? ⟨w.heap.size + 1, 1, none⟩ = some (.int .i64 0) := (hb.cell (p := ⟨w.heap.size + 1, 1, none⟩) (by first | (simp; done) | (simp; omega) | omega)).trans (by go_simp); have g1 : w1.frozen? ⟨w.heap.size + 1, 1, none⟩ = false := (hb.frozen (p := ⟨w.heap.size + 1, 1, none⟩) (by first | (simp; done) | (simp; omega) | omega)).trans (by go_simp); have d2 : w1.cell? ⟨w.heap.size + 1, 2, none⟩ = some (.int .i64 0) := (hb.cell (p := ⟨w.heap.size + 1, 2, none⟩) (by first | (simp; done) | (simp; omega) | omega)).trans (by go_simp); have g2 : w1.frozen? ⟨w.heap.size + 1, 2, none⟩ = false := (hb.frozen (p := ⟨w.heap.size + 1, 2, none⟩) (by first | (simp; done) | (simp; omega) | omega)).trans (by go_simp)))
  refine bodyPost_ret (v := .tuple #[dat _ _ _, .int .i64 _]) (by simp [results, Try.results62, go_sem, *]) rfl ⟨rfl, ?_⟩
  (focus (repeat' (first | exact Below.refl _ _ | refine Below.alloc ?_ ?_ _ | refine Below.setCell ?_ ?_ _ | refine Below.drew ?_ | refine below_drewN ?_ _ | refine Below.trans ?_ (Below.mono (by assumption) ?_) | refine Below.trans ?_ (Below.mono (BW.below _) ?_) | (simp; done) | (simp; omega) | omega)))
set_option maxHeartbeats 1000000 in
theorem monthly_Add_c (y m d n : Int) (ky : I64 y) (kn : I64 n) (h : rightB y m d = true) (hs : okI (moN y m n) = true) (hq : moN y m n / 12 < -2147483648 ∨ 2147483647 < moN y m n / 12) (w : World) : Calls Try.prog 62 #[dat y m d, .int .i64 n] w fun e w' => e = .returned (.tuple #[dat (addY y m d n) (addM y m d n) (addD y m d n), .int .i64 (addE y m d n)]) ∧ Below w.heap.size w w' := by
  have hR := fun w => civil_Right y m d ky w
  rw [h] at hR
  obtain ⟨y0, y1, m0, m1, d0, d1⟩ := (right_iff y m d).1 h
  have hb : addB y m d n = false := by
    cases hc : addB y m d n
    · rfl
    · have := (addB_iff y m d n).1 hc
      omega
  obtain ⟨e1, e2, e3, e4⟩ := add_n hb
  rw [e1, e2, e3, e4]
  have hA := fun w => num_Add (y * 12 + m - 1) n (I64.sm (by omega)) kn w
  rw [show y * 12 + m - 1 + n = moN y m n from rfl, (valI_y hs).1, (valI_y hs).2] at hA
  have ks : I64 (moN y m n) := by simpa [okI, I64] using hs
  have hD := fun w => num_Div (moN y m n) 12 ks (by omega) (by omega) w
  clear e1 e2 e3 e4 h hs hb d1
  have r0 : 0 ≤ moN y m n % 12 := by omega
  have r1 : moN y m n % 12 ≤ 11 := by omega
  have hqt : (moN y m n / 12 != wrap64 (wrap32 (moN y m n / 12))) = true := by
    rw [bne_iff_ne]; unfold wrap64 wrap32; omega
  clear hq
  generalize moN y m n / 12 = q at *
  generalize moN y m n % 12 = r at *
  go_enter Try.func62, Try.ntmps62
  go_wp2_with (first
    | (go_at_call 80; refine (hA _).mono ?_; rintro e w' ⟨rfl, rfl⟩)
    | (go_at_call 54; refine (hR _).mono ?_; rintro e w1 ⟨rfl, hb⟩; obtain ⟨hc, hf⟩ := bcell hb; have z := hb.size; (try simp at z); have z0 : w.heap.size < w1.heap.size := (by omega); have z1 : w.heap.size + 1 < w1.heap.size := (by omega); have d0 : w1.cell? ⟨w.heap.size + 1, 0, none⟩ = some (.int .i64 0) := (hb.cell (p := ⟨w.heap.size + 1, 0, none⟩) (by first | (simp; done) | (simp; omega) | omega)).trans (by go_simp); have g0 : w1.frozen? ⟨w.heap.size + 1, 0, none⟩ = false := (hb.frozen (p := ⟨w.heap.size + 1, 0, none⟩) (by first | (simp; done) | (simp; omega) | omega)).trans (by go_simp); have d1 : w1.cell? ⟨w.heap.size + 1, 1, none⟩ = some (.int .i64 0) := (hb.cell (p := ⟨w.heap.size + 1, 1, none⟩) (by first | (simp; done) | (simp; omega) | omega)).trans (by go_simp); have g1 : w1.frozen? ⟨w.heap.size + 1, 1, none⟩ = false := (hb.frozen (p := ⟨w.heap.size + 1, 1, none⟩) (by first | (simp; done) | (simp; omega) | omega)).trans (by go_simp); have d2 : w1.cell? ⟨w.heap.size + 1, 2, none⟩ = some (.int .i64 0) := (hb.cell (p := ⟨w.heap.size + 1, 2, none⟩) (by first | (simp; done) | (simp; omega) | omega)).trans (by go_simp); have g2 : w1.frozen? ⟨w.heap.size + 1, 2, none⟩ = false := (hb.frozen (p := ⟨w.heap.size + 1, 2, none⟩) (by first | (simp; done) | (simp; omega) | omega)).trans (by go_simp))
    | (go_at_call 88; refine (hD _).mono ?_; rintro e w2 ⟨rfl, hb⟩; obtain ⟨hc, hf⟩ := bcell hb; have z := hb.size; (try simp at z); have z0 : w.heap.size < w2.heap.size := (by omega); have z1 : w.heap.size + 1 < w2.heap.size := (by omega); have d0 : w2.cell? ⟨w.heap.size + 1, 0, none⟩ = some (.int .i64 0) := (hb.cell (p := ⟨w.heap.size + 1, 0, none⟩) (by first | (simp; done) | (simp; omega) | omega)).trans (by go_simp); have g0 : w2.frozen? ⟨w.heap.size + 1, 0, none⟩ = false := (hb.frozen (p := ⟨w.heap.size + 1, 0, none⟩) (by first | (simp; done) | (simp; omega) | omega)).trans (by go_simp); have d1 : w2.cell? ⟨w.heap.size + 1, 1, none⟩ = some (.int .i64 0) := (hb.cell (p := ⟨w.heap.size + 1, 1, none⟩) (by first | (simp; done) | (simp; omega) | omega)).trans (by go_simp); have g1 : w2.frozen? ⟨w.heap.size + 1, 1, none⟩ = false := (hb.frozen (p := ⟨w.heap.size + 1, 1, none⟩) (by first | (simp; done) | (simp; omega) | omega)).trans (by go_simp); have d2 : w2.cell? ⟨w.heap.size + 1, 2, none⟩ = some (.int .i64 0) := (hb.cell (p := ⟨w.heap.size + 1, 2, none⟩) (by first | (simp; done) | (simp; omega) | omega)).trans (by go_simp); have g2 : w2.frozen? ⟨w.heap.size + 1, 2, none⟩ = false := (hb.frozen (p := ⟨w.heap.size + 1, 2, none⟩) (by first | (simp; done) | (simp; omega) | omega)).trans (by go_simp)))
  refine bodyPost_ret (v := .tuple #[dat _ _ _, .int .i64 _]) (by simp [results, Try.results62, go_sem, *]) rfl ⟨rfl, ?_⟩
  (focus (repeat' (first | exact Below.refl _ _ | refine Below.alloc ?_ ?_ _ | refine Below.setCell ?_ ?_ _ | refine Below.drew ?_ | refine below_drewN ?_ _ | refine Below.trans ?_ (Below.mono (by assumption) ?_) | refine Below.trans ?_ (Below.mono (BW.below _) ?_) | (simp; done) | (simp; omega) | omega)))
set_option maxHeartbeats 2000000 in
theorem monthly_Add_d (y m d n : Int) (ky : I64 y) (kn : I64 n) (h : rightB y m d = true) (hq : (-2147483648 ≤ moN y m n / 12 ∧ moN y m n / 12 < -40000) ∨ (40000 < moN y m n / 12 ∧ moN y m n / 12 ≤ 2147483647)) (w : World) : Calls Try.prog 62 #[dat y m d, .int .i64 n] w fun e w' => e = .returned (.tuple #[dat (addY y m d n) (addM y m d n) (addD y m d n), .int .i64 (addE y m d n)]) ∧ Below w.heap.size w w' := by
  have hR := fun w => civil_Right y m d ky w
  rw [h] at hR
  obtain ⟨y0, y1, m0, m1, d0, d1⟩ := (right_iff y m d).1 h
  have hb : addB y m d n = false := by
    cases hc : addB y m d n
    · rfl
    · have := (addB_iff y m d n).1 hc
      omega
  obtain ⟨e1, e2, e3, e4⟩ := add_n hb
  rw [e1, e2, e3, e4]
  have ks : I64 (moN y m n) := I64.sm (by omega)
  have hA := fun w => num_Add (y * 12 + m - 1) n (I64.sm (by omega)) kn w
  rw [show y * 12 + m - 1 + n = moN y m n from rfl, (valI_y (okI_y (by unfold I64 at ks; omega))).1, (valI_y (okI_y (by unfold I64 at ks; omega))).2] at hA
  have hD := fun w => num_Div (moN y m n) 12 ks (by omega) (by omega) w
  have hr := reach_right (moN y m n / 12) (moN y m n) d d0
  have hq0 : -2147483648 ≤ moN y m n / 12 := by omega
  have hq1 : moN y m n / 12 ≤ 2147483647 := by omega
  rw [decide_eq_false (by omega)] at hr
  have kq : I64 (moN y m n / 12) := I64.sm (by omega)
  have hL := fun w => civil_Len (moN y m n / 12) (moN y m n % 12 + 1) kq w
  have hR2 := fun w => civil_Right (moN y m n / 12) (moN y m n % 12 + 1) (minI d (mlen (moN y m n / 12) (moN y m n % 12 + 1))) kq w
  rw [hr] at hR2
  clear e1 e2 e3 e4 h hr hb d1 hq
  have r0 : 0 ≤ moN y m n % 12 := by omega
  have r1 : moN y m n % 12 ≤ 11 := by omega
  generalize moN y m n / 12 = q at *
  generalize moN y m n % 12 = r at *
  have em := minI_cases d (mlen q (r + 1))
  generalize mlen q (r + 1) = L at *
  rcases em with ⟨hc1, em⟩ | ⟨hc1, em⟩
  all_goals
    rw [em] at hR2
    try rw [em]
    clear em
    go_enter Try.func62, Try.ntmps62
    go_wp2_with (first
      | (go_at_call 80; refine (hA _).mono ?_; rintro e w' ⟨rfl, rfl⟩)
      | (go_at_call 54; refine (hR _).mono ?_; rintro e w1 ⟨rfl, hb⟩; obtain ⟨hc, hf⟩ := bcell hb; have z := hb.size; (try simp at z); have z0 : w.heap.size < w1.heap.size := (by omega); have z1 : w.heap.size + 1 < w1.heap.size := (by omega); have d0 : w1.cell? ⟨w.heap.size + 1, 0, none⟩ = some (.int .i64 0) := (hb.cell (p := ⟨w.heap.size + 1, 0, none⟩) (by first | (simp; done) | (simp; omega) | omega)).trans (by go_simp); have g0 : w1.frozen? ⟨w.heap.size + 1, 0, none⟩ = false := (hb.frozen (p := ⟨w.heap.size + 1, 0, none⟩) (by first | (simp; done) | (simp; omega) | omega)).trans (by go_simp); have d1 : w1.cell? ⟨w.heap.size + 1, 1, none⟩ = some (.int .i64 0) := (hb.cell (p := ⟨w.heap.size + 1, 1, none⟩) (by first | (simp; done) | (simp; omega) | omega)).trans (by go_simp); have g1 : w1.frozen? ⟨w.heap.size + 1, 1, none⟩ = false := (hb.frozen (p := ⟨w.heap.size + 1, 1, none⟩) (by first | (simp; done) | (simp; omega) | omega)).trans (by go_simp); have d2 : w1.cell? ⟨w.heap.size + 1, 2, none⟩ = some (.int .i64 0) := (hb.cell (p := ⟨w.heap.size + 1, 2, none⟩) (by first | (simp; done) | (simp; omega) | omega)).trans (by go_simp); have g2 : w1.frozen? ⟨w.heap.size + 1, 2, none⟩ = false := (hb.frozen (p := ⟨w.heap.size + 1, 2, none⟩) (by first | (simp; done) | (simp; omega) | omega)).trans (by go_simp))
      | (go_at_call 88; refine (hD _).mono ?_; rintro e w2 ⟨rfl, hb⟩; obtain ⟨hc, hf⟩ := bcell hb; have z := hb.size; (try simp at z); have z0 : w.heap.size < w2.heap.size := (by omega); have z1 : w.heap.size + 1 < w2.heap.size := (by omega); have d0 : w2.cell? ⟨w.heap.size + 1, 0, none⟩ = some (.int .i64 0) := (hb.cell (p := ⟨w.heap.size + 1, 0, none⟩) (by first | (simp; done) | (simp; omega) | omega)).trans (by go_simp); have g0 : w2.frozen? ⟨w.heap.size + 1, 0, none⟩ = false := (hb.frozen (p := ⟨w.heap.size + 1, 0, none⟩) (by first | (simp; done) | (simp; omega) | omega)).trans (by go_simp); have d1 : w2.cell? ⟨w.heap.size + 1, 1, none⟩ = some (.int .i64 0) := (hb.cell (p := ⟨w.heap.size + 1, 1, none⟩) (by first | (simp; done) | (simp; omega) | omega)).trans (by go_simp); have g1 : w2.frozen? ⟨w.heap.size + 1, 1, none⟩ = false := (hb.frozen (p := ⟨w.heap.size + 1, 1, none⟩) (by first | (simp; done) | (simp; omega) | omega)).trans (by go_simp); have d2 : w2.cell? ⟨w.heap.size + 1, 2, none⟩ = some (.int .i64 0) := (hb.cell (p := ⟨w.heap.size + 1, 2, none⟩) (by first | (simp; done) | (simp; omega) | omega)).trans (by go_simp); have g2 : w2.frozen? ⟨w.heap.size + 1, 2, none⟩ = false := (hb.frozen (p := ⟨w.heap.size + 1, 2, none⟩) (by first | (simp; done) | (simp; omega) | omega)).trans (by go_simp)))
    refine wp_region_bw_tail 9 (by kernel_rfl) (by kernel_rfl) ?_; simp only [List.take_succ_cons, List.take_zero, List.drop_succ_cons, List.drop_zero]; (repeat (go_big_quiet_step ((go_at_call 52; exact bw_same (hL _))))); refine wpQuiet_nil ?_; intro _ hw'; obtain ⟨xq, hw''⟩ := hw'; subst hw''
    have sz : w2.heap.size < xq.val.heap.size := Nat.lt_of_lt_of_le (by simp) xq.below.size
    have s1 : w.heap.size + 1 < xq.val.heap.size := by omega
    go_wp2_with (go_at_call 54; refine (hR2 _).mono ?_; rintro e w3 ⟨rfl, hb⟩; obtain ⟨hc, hf⟩ := bcell hb; have z := hb.size; (try simp at z); have z0 : w.heap.size < w3.heap.size := (by omega); have z1 : w.heap.size + 1 < w3.heap.size := (by omega); have z2 : w2.heap.size < w3.heap.size := (by omega); have d0 : w3.cell? ⟨w.heap.size + 1, 0, none⟩ = some (.int .i64 0) := (hb.cell (p := ⟨w.heap.size + 1, 0, none⟩) (by first | (simp; done) | (simp; omega) | omega)).trans (by go_simp); have g0 : w3.frozen? ⟨w.heap.size + 1, 0, none⟩ = false := (hb.frozen (p := ⟨w.heap.size + 1, 0, none⟩) (by first | (simp; done) | (simp; omega) | omega)).trans (by go_simp); have d1 : w3.cell? ⟨w.heap.size + 1, 1, none⟩ = some (.int .i64 0) := (hb.cell (p := ⟨w.heap.size + 1, 1, none⟩) (by first | (simp; done) | (simp; omega) | omega)).trans (by go_simp); have g1 : w3.frozen? ⟨w.heap.size + 1, 1, none⟩ = false := (hb.frozen (p := ⟨w.heap.size + 1, 1, none⟩) (by first | (simp; done) | (simp; omega) | omega)).trans (by go_simp); have d2 : w3.cell? ⟨w.heap.size + 1, 2, none⟩ = some (.int .i64 0) := (hb.cell (p := ⟨w.heap.size + 1, 2, none⟩) (by first | (simp; done) | (simp; omega) | omega)).trans (by go_simp); have g2 : w3.frozen? ⟨w.heap.size + 1, 2, none⟩ = false := (hb.frozen (p := ⟨w.heap.size + 1, 2, none⟩) (by first | (simp; done) | (simp; omega) | omega)).trans (by go_simp))
    refine bodyPost_ret (v := .tuple #[dat _ _ _, .int .i64 _]) (by simp [results, Try.results62, go_sem, *]) rfl ⟨rfl, ?_⟩
    (focus (repeat' (first | exact Below.refl _ _ | refine Below.alloc ?_ ?_ _ | refine Below.setCell ?_ ?_ _ | refine Below.drew ?_ | refine below_drewN ?_ _ | refine Below.trans ?_ (Below.mono (by assumption) ?_) | refine Below.trans ?_ (Below.mono (BW.below _) ?_) | (simp; done) | (simp; omega) | omega)))
set_option maxHeartbeats 2000000 in
theorem monthly_Add_e (y m d n : Int) (ky : I64 y) (kn : I64 n) (h : rightB y m d = true) (hq : -40000 ≤ moN y m n / 12 ∧ moN y m n / 12 ≤ 40000) (w : World) : Calls Try.prog 62 #[dat y m d, .int .i64 n] w fun e w' => e = .returned (.tuple #[dat (addY y m d n) (addM y m d n) (addD y m d n), .int .i64 (addE y m d n)]) ∧ Below w.heap.size w w' := by
  have hR := fun w => civil_Right y m d ky w
  rw [h] at hR
  obtain ⟨y0, y1, m0, m1, d0, d1⟩ := (right_iff y m d).1 h
  have hb : addB y m d n = true := (addB_iff y m d n).2 ⟨h, hq.1, hq.2⟩
  obtain ⟨e1, e2, e3, e4⟩ := add_y hb
  rw [e1, e2, e3, e4]
  have ks : I64 (moN y m n) := I64.sm (by omega)
  have hA := fun w => num_Add (y * 12 + m - 1) n (I64.sm (by omega)) kn w
  rw [show y * 12 + m - 1 + n = moN y m n from rfl, (valI_y (okI_y (by unfold I64 at ks; omega))).1, (valI_y (okI_y (by unfold I64 at ks; omega))).2] at hA
  have hD := fun w => num_Div (moN y m n) 12 ks (by omega) (by omega) w
  have hr := reach_right (moN y m n / 12) (moN y m n) d d0
  have hq0 : -2147483648 ≤ moN y m n / 12 := by omega
  have hq1 : moN y m n / 12 ≤ 2147483647 := by omega
  rw [decide_eq_true (by omega)] at hr
  have kq : I64 (moN y m n / 12) := I64.sm (by omega)
  have hL := fun w => civil_Len (moN y m n / 12) (moN y m n % 12 + 1) kq w
  have hR2 := fun w => civil_Right (moN y m n / 12) (moN y m n % 12 + 1) (minI d (mlen (moN y m n / 12) (moN y m n % 12 + 1))) kq w
  rw [hr] at hR2
  clear e1 e2 e3 e4 h hr hb d1 hq
  have r0 : 0 ≤ moN y m n % 12 := by omega
  have r1 : moN y m n % 12 ≤ 11 := by omega
  generalize moN y m n / 12 = q at *
  generalize moN y m n % 12 = r at *
  have em := minI_cases d (mlen q (r + 1))
  generalize mlen q (r + 1) = L at *
  rcases em with ⟨hc1, em⟩ | ⟨hc1, em⟩
  all_goals
    rw [em] at hR2
    try rw [em]
    clear em
    go_enter Try.func62, Try.ntmps62
    go_wp2_with (first
      | (go_at_call 80; refine (hA _).mono ?_; rintro e w' ⟨rfl, rfl⟩)
      | (go_at_call 54; refine (hR _).mono ?_; rintro e w1 ⟨rfl, hb⟩; obtain ⟨hc, hf⟩ := bcell hb; have z := hb.size; (try simp at z); have z0 : w.heap.size < w1.heap.size := (by omega); have z1 : w.heap.size + 1 < w1.heap.size := (by omega); have d0 : w1.cell? ⟨w.heap.size + 1, 0, none⟩ = some (.int .i64 0) := (hb.cell (p := ⟨w.heap.size + 1, 0, none⟩) (by first | (simp; done) | (simp; omega) | omega)).trans (by go_simp); have g0 : w1.frozen? ⟨w.heap.size + 1, 0, none⟩ = false := (hb.frozen (p := ⟨w.heap.size + 1, 0, none⟩) (by first | (simp; done) | (simp; omega) | omega)).trans (by go_simp); have d1 : w1.cell? ⟨w.heap.size + 1, 1, none⟩ = some (.int .i64 0) := (hb.cell (p := ⟨w.heap.size + 1, 1, none⟩) (by first | (simp; done) | (simp; omega) | omega)).trans (by go_simp); have g1 : w1.frozen? ⟨w.heap.size + 1, 1, none⟩ = false := (hb.frozen (p := ⟨w.heap.size + 1, 1, none⟩) (by first | (simp; done) | (simp; omega) | omega)).trans (by go_simp); have d2 : w1.cell? ⟨w.heap.size + 1, 2, none⟩ = some (.int .i64 0) := (hb.cell (p := ⟨w.heap.size + 1, 2, none⟩) (by first | (simp; done) | (simp; omega) | omega)).trans (by go_simp); have g2 : w1.frozen? ⟨w.heap.size + 1, 2, none⟩ = false := (hb.frozen (p := ⟨w.heap.size + 1, 2, none⟩) (by first | (simp; done) | (simp; omega) | omega)).trans (by go_simp))
      | (go_at_call 88; refine (hD _).mono ?_; rintro e w2 ⟨rfl, hb⟩; obtain ⟨hc, hf⟩ := bcell hb; have z := hb.size; (try simp at z); have z0 : w.heap.size < w2.heap.size := (by omega); have z1 : w.heap.size + 1 < w2.heap.size := (by omega); have d0 : w2.cell? ⟨w.heap.size + 1, 0, none⟩ = some (.int .i64 0) := (hb.cell (p := ⟨w.heap.size + 1, 0, none⟩) (by first | (simp; done) | (simp; omega) | omega)).trans (by go_simp); have g0 : w2.frozen? ⟨w.heap.size + 1, 0, none⟩ = false := (hb.frozen (p := ⟨w.heap.size + 1, 0, none⟩) (by first | (simp; done) | (simp; omega) | omega)).trans (by go_simp); have d1 : w2.cell? ⟨w.heap.size + 1, 1, none⟩ = some (.int .i64 0) := (hb.cell (p := ⟨w.heap.size + 1, 1, none⟩) (by first | (simp; done) | (simp; omega) | omega)).trans (by go_simp); have g1 : w2.frozen? ⟨w.heap.size + 1, 1, none⟩ = false := (hb.frozen (p := ⟨w.heap.size + 1, 1, none⟩) (by first | (simp; done) | (simp; omega) | omega)).trans (by go_simp); have d2 : w2.cell? ⟨w.heap.size + 1, 2, none⟩ = some (.int .i64 0) := (hb.cell (p := ⟨w.heap.size + 1, 2, none⟩) (by first | (simp; done) | (simp; omega) | omega)).trans (by go_simp); have g2 : w2.frozen? ⟨w.heap.size + 1, 2, none⟩ = false := (hb.frozen (p := ⟨w.heap.size + 1, 2, none⟩) (by first | (simp; done) | (simp; omega) | omega)).trans (by go_simp)))
    refine wp_region_bw_tail 9 (by kernel_rfl) (by kernel_rfl) ?_; simp only [List.take_succ_cons, List.take_zero, List.drop_succ_cons, List.drop_zero]; (repeat (go_big_quiet_step ((go_at_call 52; exact bw_same (hL _))))); refine wpQuiet_nil ?_; intro _ hw'; obtain ⟨xq, hw''⟩ := hw'; subst hw''
    have sz : w2.heap.size < xq.val.heap.size := Nat.lt_of_lt_of_le (by simp) xq.below.size
    have s1 : w.heap.size + 1 < xq.val.heap.size := by omega
    go_wp2_with (go_at_call 54; refine (hR2 _).mono ?_; rintro e w3 ⟨rfl, hb⟩; obtain ⟨hc, hf⟩ := bcell hb; have z := hb.size; (try simp at z); have z0 : w.heap.size < w3.heap.size := (by omega); have z1 : w.heap.size + 1 < w3.heap.size := (by omega); have z2 : w2.heap.size < w3.heap.size := (by omega); have d0 : w3.cell? ⟨w.heap.size + 1, 0, none⟩ = some (.int .i64 0) := (hb.cell (p := ⟨w.heap.size + 1, 0, none⟩) (by first | (simp; done) | (simp; omega) | omega)).trans (by go_simp); have g0 : w3.frozen? ⟨w.heap.size + 1, 0, none⟩ = false := (hb.frozen (p := ⟨w.heap.size + 1, 0, none⟩) (by first | (simp; done) | (simp; omega) | omega)).trans (by go_simp); have d1 : w3.cell? ⟨w.heap.size + 1, 1, none⟩ = some (.int .i64 0) := (hb.cell (p := ⟨w.heap.size + 1, 1, none⟩) (by first | (simp; done) | (simp; omega) | omega)).trans (by go_simp); have g1 : w3.frozen? ⟨w.heap.size + 1, 1, none⟩ = false := (hb.frozen (p := ⟨w.heap.size + 1, 1, none⟩) (by first | (simp; done) | (simp; omega) | omega)).trans (by go_simp); have d2 : w3.cell? ⟨w.heap.size + 1, 2, none⟩ = some (.int .i64 0) := (hb.cell (p := ⟨w.heap.size + 1, 2, none⟩) (by first | (simp; done) | (simp; omega) | omega)).trans (by go_simp); have g2 : w3.frozen? ⟨w.heap.size + 1, 2, none⟩ = false := (hb.frozen (p := ⟨w.heap.size + 1, 2, none⟩) (by first | (simp; done) | (simp; omega) | omega)).trans (by go_simp))
    refine bodyPost_ret (v := .tuple #[dat _ _ _, .int .i64 _]) (by simp [results, Try.results62, go_sem, *]) rfl ⟨rfl, ?_⟩
    (focus (repeat' (first | exact Below.refl _ _ | refine Below.alloc ?_ ?_ _ | refine Below.setCell ?_ ?_ _ | refine Below.drew ?_ | refine below_drewN ?_ _ | refine Below.trans ?_ (Below.mono (by assumption) ?_) | refine Below.trans ?_ (Below.mono (BW.below _) ?_) | (simp; done) | (simp; omega) | omega)))
theorem monthly_Add (y m d n : Int) (ky : I64 y) (km : I64 m) (kn : I64 n) (w : World) : Calls Try.prog 62 #[dat y m d, .int .i64 n] w fun e w' => e = .returned (.tuple #[dat (addY y m d n) (addM y m d n) (addD y m d n), .int .i64 (addE y m d n)]) ∧ Below w.heap.size w w' := by
  cases h : rightB y m d
  · exact monthly_Add_a y m d n ky km kn h w
  · cases hs : okI (moN y m n)
    · exact monthly_Add_b y m d n ky kn h hs w
    · by_cases h1 : -40000 ≤ moN y m n / 12 ∧ moN y m n / 12 ≤ 40000
      · exact monthly_Add_e y m d n ky kn h h1 w
      · by_cases h2 : -2147483648 ≤ moN y m n / 12 ∧ moN y m n / 12 ≤ 2147483647
        · exact monthly_Add_d y m d n ky kn h (by omega) w
        · exact monthly_Add_c y m d n ky kn h hs (by omega) w
end Go.Proofs.Ytblmlglkjmilkaa
