/-
  Contracts of the months between two dates.
-/
import Derived.Test.YtblmlglkjmilkabMonB
namespace Go.Proofs.Ytblmlglkjmilkab
open Go.RowKit Cal
attribute [local go_sem] BW.cell BW.frozen

theorem bt_n {y m d y' m' d' : Int} (h : btB y m d y' m' d' = false) : btV y m d y' m' d' = 0 ∧ btE y m d y' m' d' = 1 := by simp [btV, btE, h]
theorem bt_y {y m d y' m' d' : Int} (h : btB y m d y' m' d' = true) : btV y m d y' m' d' = btN y m d y' m' d' ∧ btE y m d y' m' d' = 0 := by simp [btV, btE, h]
/-- What is known of two dates that may be. -/
theorem bt_base {y m d y' m' d' : Int} (h : rightB y m d = true) (h' : rightB y' m' d' = true) (s : Int) (hs : (d' < d ∧ d' < mlen y' m' ∧ s = 1) ∨ (¬ (d' < d ∧ d' < mlen y' m') ∧ s = 0)) :
    btN y m d y' m' d' = (y' - y) * 12 + (m' - m) - s ∧ (∀ E1 E2 : Bool, addB y m d ((y' - y) * 12 + (m' - m) - s) = E1 → addB y m d ((y' - y) * 12 + (m' - m) - s + 1) = E2 → btB y m d y' m' d' = (E1 && E2)) := by
  have e : btN y m d y' m' d' = (y' - y) * 12 + (m' - m) - s := by
    unfold btN
    rcases hs with ⟨a, b, c⟩ | ⟨a, c⟩
    · rw [if_pos ⟨a, b⟩, c]
    · rw [if_neg a, c]
  refine ⟨e, ?_⟩
  rintro E1 E2 rfl rfl
  simp [btB, h, h', e]
theorem cmp3_last (y m a b : Int) : cmp3 y m a y m b = cmpI a b := by
  have e : ∀ x : Int, cmpI x x = 0 := fun x => by rcases cmpI_cases x x with ⟨h, g⟩ | ⟨h, g⟩ | ⟨h, g⟩ <;> omega
  unfold cmp3
  rw [e y, e m]
  simp [or3]
theorem addE_v (y m d n : Int) : addE y m d n = if addB y m d n = true then 0 else 1 := rfl

set_option maxHeartbeats 2000000 in
theorem monthly_Between_n (y m d y' m' d' : Int) (ky : I64 y) (ky' : I64 y') (h : rightB y m d = false ∨ (rightB y m d = true ∧ rightB y' m' d' = false)) (w : World) : Calls Try.prog 26 #[dat y m d, dat y' m' d'] w fun e w' => e = .returned (.tuple #[.int .i64 (btV y m d y' m' d'), .int .i64 (btE y m d y' m' d')]) ∧ Below w.heap.size w w' := by
  have hR := fun w => civil_Right y m d ky w
  have hR2 := fun w => civil_Right y' m' d' ky' w
  rcases h with h | ⟨h, h'⟩
  · obtain ⟨e1, e2⟩ := bt_n (y := y) (m := m) (d := d) (y' := y') (m' := m') (d' := d') (by simp [btB, h])
    rw [e1, e2]
    rw [h] at hR
    clear e1 e2 h
    go_enter Try.func26, Try.ntmps26
    go_wp2_with (go_at_call 71; refine (hR _).mono ?_; rintro e w1 ⟨rfl, hb⟩; obtain ⟨hc, hf⟩ := bcell hb; have z := hb.size; (try simp at z); have z0 : w.heap.size < w1.heap.size := (by omega); have z1 : w.heap.size + 1 < w1.heap.size := (by omega))
    go_ret2
    exact ⟨rfl, by (focus (repeat' (first | exact Below.refl _ _ | refine Below.alloc ?_ ?_ _ | refine Below.setCell ?_ ?_ _ | refine Below.drew ?_ | refine below_drewN ?_ _ | refine Below.trans ?_ (Below.mono (by assumption) ?_) | refine Below.trans ?_ (Below.mono (BW.below _) ?_) | (simp; done) | (simp; omega) | omega)))⟩
  · obtain ⟨e1, e2⟩ := bt_n (y := y) (m := m) (d := d) (y' := y') (m' := m') (d' := d') (by simp [btB, h'])
    rw [e1, e2]
    rw [h] at hR
    rw [h'] at hR2
    clear e1 e2 h h'
    go_enter Try.func26, Try.ntmps26
    go_wp2_with fail
    refine (hR _).mono ?_
    rintro e w1 ⟨rfl, hb⟩
    obtain ⟨hc, hf⟩ := bcell hb
    have z := hb.size
    simp at z
    have z0 : w.heap.size < w1.heap.size := by omega
    have z1 : w.heap.size + 1 < w1.heap.size := by omega
    go_wp2_with fail
    refine (hR2 _).mono ?_
    rintro e w2 ⟨rfl, hb2⟩
    have z2 := hb2.size
    go_wp2_with fail
    go_ret2
    exact ⟨rfl, by (focus (repeat' (first | exact Below.refl _ _ | refine Below.alloc ?_ ?_ _ | refine Below.setCell ?_ ?_ _ | refine Below.drew ?_ | refine below_drewN ?_ _ | refine Below.trans ?_ (Below.mono (by assumption) ?_) | refine Below.trans ?_ (Below.mono (BW.below _) ?_) | (simp; done) | (simp; omega) | omega)))⟩
set_option maxRecDepth 100000 in
set_option maxHeartbeats 4000000 in
theorem monthly_Between_00 (y m d y' m' d' : Int) (ky : I64 y) (ky' : I64 y') (h : rightB y m d = true) (h' : rightB y' m' d' = true) (hd : d ≤ d') (h1 : addB y m d ((y' - y) * 12 + (m' - m)) = false) (w : World) : Calls Try.prog 26 #[dat y m d, dat y' m' d'] w fun e w' => e = .returned (.tuple #[.int .i64 (btV y m d y' m' d'), .int .i64 (btE y m d y' m' d')]) ∧ Below w.heap.size w w' := by
  obtain ⟨b1, b2⟩ := bt_base h h' 0 (by omega)
  have hb : btB y m d y' m' d' = false := by
    rw [b2 false _ (by first | exact h1 | (rw [Int.sub_zero]; exact h1)) rfl]
    rfl
  obtain ⟨e1, e2⟩ := bt_n hb
  rw [e1, e2]
  obtain ⟨ry0, ry1, rm0, rm1, rd0, rd1⟩ := (right_iff y m d).1 h
  obtain ⟨qy0, qy1, qm0, qm1, qd0, qd1⟩ := (right_iff y' m' d').1 h'
  have hR := fun w => civil_Right y m d ky w
  have hR2 := fun w => civil_Right y' m' d' ky' w
  have hL := fun w => civil_Len y' m' ky' w
  have hA1 := fun w => monthly_Add y m d ((y' - y) * 12 + (m' - m)) ky (I64.sm (by omega)) (I64.sm (by omega)) w
  have hA2 := fun w => monthly_Add y m d ((y' - y) * 12 + (m' - m) + 1) ky (I64.sm (by omega)) (I64.sm (by omega)) w
  rw [addE_v, h1] at hA1
  rw [h] at hR
  rw [h'] at hR2
  clear h h' h1 e1 e2 b1 b2 hb rd1 qd1
  generalize mlen y' m' = L at *
  have hd' : decide (d' < d) = false := by simpa using hd
  clear hd
  have i0 : ∀ w : World, (Instr.index 88 (.agg #[.int .i64 ((y' - y) * 12 + (m' - m)), .int .i64 ((y' - y) * 12 + (m' - m) + 1)]) (.int .i64 0)).run Try.prog w = .ok (.int .i64 ((y' - y) * 12 + (m' - m))) w := fun _ => by kernel_rfl
  have i1 : ∀ w : World, (Instr.index 88 (.agg #[.int .i64 ((y' - y) * 12 + (m' - m)), .int .i64 ((y' - y) * 12 + (m' - m) + 1)]) (.int .i64 1)).run Try.prog w = .ok (.int .i64 ((y' - y) * 12 + (m' - m) + 1)) w := fun _ => by kernel_rfl
  generalize addY y m d ((y' - y) * 12 + (m' - m)) = Y1 at *
  generalize addM y m d ((y' - y) * 12 + (m' - m)) = M1 at *
  generalize addD y m d ((y' - y) * 12 + (m' - m)) = D1 at *
  clear hA2
  go_enter Try.func26, Try.ntmps26
  go_wp2_with fail
  refine (hR _).mono ?_
  rintro e w1 ⟨rfl, hb1⟩
  have B1 : Below w.heap.size w w1 := by (focus (repeat' (first | assumption | exact Below.refl _ _ | refine Below.alloc ?_ ?_ _ | refine Below.setCell ?_ ?_ _ | refine Below.drew ?_ | refine below_drewN ?_ _ | refine Below.trans ?_ (Below.mono (by assumption) ?_) | refine Below.trans ?_ (Below.mono (BW.below _) ?_) | (simp; done) | (simp; omega) | omega)))
  have n1 : w.heap.size ≤ w1.heap.size := B1.size
  have s1_0 : w.heap.size < w1.heap.size := Nat.lt_of_lt_of_le (by first | (simp; done) | (simp; omega) | omega) hb1.size
  have c1_0_0 : w1.cell? ⟨w.heap.size, 0, none⟩ = some (.int .i64 (y)) := (hb1.cell (p := ⟨w.heap.size, 0, none⟩) (by first | (simp; done) | (simp; omega) | omega)).trans (by go_simp)
  have c1_0_1 : w1.cell? ⟨w.heap.size, 1, none⟩ = some (.int .i64 (m)) := (hb1.cell (p := ⟨w.heap.size, 1, none⟩) (by first | (simp; done) | (simp; omega) | omega)).trans (by go_simp)
  have c1_0_2 : w1.cell? ⟨w.heap.size, 2, none⟩ = some (.int .i64 (d)) := (hb1.cell (p := ⟨w.heap.size, 2, none⟩) (by first | (simp; done) | (simp; omega) | omega)).trans (by go_simp)
  have s1_1 : w.heap.size + 1 < w1.heap.size := Nat.lt_of_lt_of_le (by first | (simp; done) | (simp; omega) | omega) hb1.size
  have c1_1_0 : w1.cell? ⟨w.heap.size + 1, 0, none⟩ = some (.int .i64 (y')) := (hb1.cell (p := ⟨w.heap.size + 1, 0, none⟩) (by first | (simp; done) | (simp; omega) | omega)).trans (by go_simp)
  have c1_1_1 : w1.cell? ⟨w.heap.size + 1, 1, none⟩ = some (.int .i64 (m')) := (hb1.cell (p := ⟨w.heap.size + 1, 1, none⟩) (by first | (simp; done) | (simp; omega) | omega)).trans (by go_simp)
  have c1_1_2 : w1.cell? ⟨w.heap.size + 1, 2, none⟩ = some (.int .i64 (d')) := (hb1.cell (p := ⟨w.heap.size + 1, 2, none⟩) (by first | (simp; done) | (simp; omega) | omega)).trans (by go_simp)
  clear hb1
  go_wp2_with fail
  refine (hR2 _).mono ?_
  rintro e w2 ⟨rfl, hb2⟩
  have B2 : Below w.heap.size w w2 := by (focus (repeat' (first | assumption | exact Below.refl _ _ | refine Below.alloc ?_ ?_ _ | refine Below.setCell ?_ ?_ _ | refine Below.drew ?_ | refine below_drewN ?_ _ | refine Below.trans ?_ (Below.mono (by assumption) ?_) | refine Below.trans ?_ (Below.mono (BW.below _) ?_) | (simp; done) | (simp; omega) | omega)))
  have n2 : w.heap.size ≤ w2.heap.size := B2.size
  have s2_0 : w.heap.size < w2.heap.size := Nat.lt_of_lt_of_le (by first | (simp; done) | (simp; omega) | omega) hb2.size
  have c2_0_0 : w2.cell? ⟨w.heap.size, 0, none⟩ = some (.int .i64 (y)) := (hb2.cell (p := ⟨w.heap.size, 0, none⟩) (by first | (simp; done) | (simp; omega) | omega)).trans (by go_simp)
  have c2_0_1 : w2.cell? ⟨w.heap.size, 1, none⟩ = some (.int .i64 (m)) := (hb2.cell (p := ⟨w.heap.size, 1, none⟩) (by first | (simp; done) | (simp; omega) | omega)).trans (by go_simp)
  have c2_0_2 : w2.cell? ⟨w.heap.size, 2, none⟩ = some (.int .i64 (d)) := (hb2.cell (p := ⟨w.heap.size, 2, none⟩) (by first | (simp; done) | (simp; omega) | omega)).trans (by go_simp)
  have s2_1 : w.heap.size + 1 < w2.heap.size := Nat.lt_of_lt_of_le (by first | (simp; done) | (simp; omega) | omega) hb2.size
  have c2_1_0 : w2.cell? ⟨w.heap.size + 1, 0, none⟩ = some (.int .i64 (y')) := (hb2.cell (p := ⟨w.heap.size + 1, 0, none⟩) (by first | (simp; done) | (simp; omega) | omega)).trans (by go_simp)
  have c2_1_1 : w2.cell? ⟨w.heap.size + 1, 1, none⟩ = some (.int .i64 (m')) := (hb2.cell (p := ⟨w.heap.size + 1, 1, none⟩) (by first | (simp; done) | (simp; omega) | omega)).trans (by go_simp)
  have c2_1_2 : w2.cell? ⟨w.heap.size + 1, 2, none⟩ = some (.int .i64 (d')) := (hb2.cell (p := ⟨w.heap.size + 1, 2, none⟩) (by first | (simp; done) | (simp; omega) | omega)).trans (by go_simp)
  clear hb2 B1 c1_0_0 c1_0_1 c1_0_2 c1_1_0 c1_1_1 c1_1_2
  go_wp2_with fail
  have Bx1 : Below w.heap.size w w2 := by (focus (repeat' (first | assumption | exact Below.refl _ _ | refine Below.alloc ?_ ?_ _ | refine Below.setCell ?_ ?_ _ | refine Below.drew ?_ | refine below_drewN ?_ _ | refine Below.trans ?_ (Below.mono (by assumption) ?_) | refine Below.trans ?_ (Below.mono (BW.below _) ?_) | (simp; done) | (simp; omega) | omega)))
  have nx1 : w.heap.size ≤ w2.heap.size := Bx1.size
  have sx1_0 : w.heap.size < w2.heap.size := (by first | (simp; done) | (simp; omega) | omega)
  have cx1_0_0 : w2.cell? ⟨w.heap.size, 0, none⟩ = some (.int .i64 (y)) := by go_simp
  have cx1_0_1 : w2.cell? ⟨w.heap.size, 1, none⟩ = some (.int .i64 (m)) := by go_simp
  have cx1_0_2 : w2.cell? ⟨w.heap.size, 2, none⟩ = some (.int .i64 (d)) := by go_simp
  have sx1_1 : w.heap.size + 1 < w2.heap.size := (by first | (simp; done) | (simp; omega) | omega)
  have cx1_1_0 : w2.cell? ⟨w.heap.size + 1, 0, none⟩ = some (.int .i64 (y')) := by go_simp
  have cx1_1_1 : w2.cell? ⟨w.heap.size + 1, 1, none⟩ = some (.int .i64 (m')) := by go_simp
  have cx1_1_2 : w2.cell? ⟨w.heap.size + 1, 2, none⟩ = some (.int .i64 (d')) := by go_simp
  clear B2 c2_0_0 c2_0_1 c2_0_2 c2_1_0 c2_1_1 c2_1_2
  generalize w2 = x1 at *
  try dsimp only [List.append]
  refine wp_region_bw (by kernel_rfl) (by kernel_rfl) ?_; (repeat (go_big_quiet_step ((go_at_call 73; exact bw_same (hL _))))); refine wpQuiet_nil ?_; intro _ hw'; obtain ⟨xq, hw''⟩ := hw'; subst hw''
  have Bx2 : Below w.heap.size w xq.val := Bx1.trans (xq.below.mono nx1)
  have nx2 : w.heap.size ≤ xq.val.heap.size := Bx2.size
  have sx2_0 : w.heap.size < xq.val.heap.size := Nat.lt_of_lt_of_le (by first | (simp; done) | (simp; omega) | omega) xq.below.size
  have cx2_0_0 : xq.val.cell? ⟨w.heap.size, 0, none⟩ = some (.int .i64 (y)) := (xq.cell (w.heap.size) 0 (by first | (simp; done) | (simp; omega) | omega)).trans (by go_simp)
  have cx2_0_1 : xq.val.cell? ⟨w.heap.size, 1, none⟩ = some (.int .i64 (m)) := (xq.cell (w.heap.size) 1 (by first | (simp; done) | (simp; omega) | omega)).trans (by go_simp)
  have cx2_0_2 : xq.val.cell? ⟨w.heap.size, 2, none⟩ = some (.int .i64 (d)) := (xq.cell (w.heap.size) 2 (by first | (simp; done) | (simp; omega) | omega)).trans (by go_simp)
  clear Bx1 cx1_0_0 cx1_0_1 cx1_0_2 cx1_1_0 cx1_1_1 cx1_1_2
  generalize xq.val = x2 at *
  go_wp2_with fail
  refine wp_loop_rounds 4 ?_
  rw [rounds_succ]
  go_wp2_with fail
  refine (hA1 _).mono ?_
  rintro e w3 ⟨rfl, hb3⟩
  have B3 : Below w.heap.size w w3 := by (focus (repeat' (first | assumption | exact Below.refl _ _ | refine Below.alloc ?_ ?_ _ | refine Below.setCell ?_ ?_ _ | refine Below.drew ?_ | refine below_drewN ?_ _ | refine Below.trans ?_ (Below.mono (by assumption) ?_) | refine Below.trans ?_ (Below.mono (BW.below _) ?_) | (simp; done) | (simp; omega) | omega)))
  have n3 : w.heap.size ≤ w3.heap.size := B3.size
  clear hb3 Bx2 cx2_0_0 cx2_0_1 cx2_0_2
  go_wp2_with fail
  go_ret2
  exact ⟨rfl, by (focus (repeat' (first | assumption | exact Below.refl _ _ | refine Below.alloc ?_ ?_ _ | refine Below.setCell ?_ ?_ _ | refine Below.drew ?_ | refine below_drewN ?_ _ | refine Below.trans ?_ (Below.mono (by assumption) ?_) | refine Below.trans ?_ (Below.mono (BW.below _) ?_) | (simp; done) | (simp; omega) | omega)))⟩
set_option maxRecDepth 100000 in
set_option maxHeartbeats 4000000 in
theorem monthly_Between_01 (y m d y' m' d' : Int) (ky : I64 y) (ky' : I64 y') (h : rightB y m d = true) (h' : rightB y' m' d' = true) (hd : d ≤ d') (h1 : addB y m d ((y' - y) * 12 + (m' - m)) = true) (h2 : addB y m d ((y' - y) * 12 + (m' - m) + 1) = false) (w : World) : Calls Try.prog 26 #[dat y m d, dat y' m' d'] w fun e w' => e = .returned (.tuple #[.int .i64 (btV y m d y' m' d'), .int .i64 (btE y m d y' m' d')]) ∧ Below w.heap.size w w' := by
  obtain ⟨b1, b2⟩ := bt_base h h' 0 (by omega)
  have hb : btB y m d y' m' d' = false := by
    rw [b2 true false (by first | exact h1 | (rw [Int.sub_zero]; exact h1)) (by first | exact h2 | (rw [Int.sub_zero]; exact h2))]
    rfl
  obtain ⟨e1, e2⟩ := bt_n hb
  rw [e1, e2]
  obtain ⟨ry0, ry1, rm0, rm1, rd0, rd1⟩ := (right_iff y m d).1 h
  obtain ⟨qy0, qy1, qm0, qm1, qd0, qd1⟩ := (right_iff y' m' d').1 h'
  have hR := fun w => civil_Right y m d ky w
  have hR2 := fun w => civil_Right y' m' d' ky' w
  have hL := fun w => civil_Len y' m' ky' w
  have hA1 := fun w => monthly_Add y m d ((y' - y) * 12 + (m' - m)) ky (I64.sm (by omega)) (I64.sm (by omega)) w
  have hA2 := fun w => monthly_Add y m d ((y' - y) * 12 + (m' - m) + 1) ky (I64.sm (by omega)) (I64.sm (by omega)) w
  rw [addE_v, h1] at hA1
  rw [addE_v, h2] at hA2
  rw [h] at hR
  rw [h'] at hR2
  clear h h' h1 e1 e2 b1 b2 hb rd1 qd1 h2
  generalize mlen y' m' = L at *
  have hd' : decide (d' < d) = false := by simpa using hd
  clear hd
  have i0 : ∀ w : World, (Instr.index 88 (.agg #[.int .i64 ((y' - y) * 12 + (m' - m)), .int .i64 ((y' - y) * 12 + (m' - m) + 1)]) (.int .i64 0)).run Try.prog w = .ok (.int .i64 ((y' - y) * 12 + (m' - m))) w := fun _ => by kernel_rfl
  have i1 : ∀ w : World, (Instr.index 88 (.agg #[.int .i64 ((y' - y) * 12 + (m' - m)), .int .i64 ((y' - y) * 12 + (m' - m) + 1)]) (.int .i64 1)).run Try.prog w = .ok (.int .i64 ((y' - y) * 12 + (m' - m) + 1)) w := fun _ => by kernel_rfl
  generalize addY y m d ((y' - y) * 12 + (m' - m)) = Y1 at *
  generalize addM y m d ((y' - y) * 12 + (m' - m)) = M1 at *
  generalize addD y m d ((y' - y) * 12 + (m' - m)) = D1 at *
  generalize addY y m d ((y' - y) * 12 + (m' - m) + 1) = Y2 at *
  generalize addM y m d ((y' - y) * 12 + (m' - m) + 1) = M2 at *
  generalize addD y m d ((y' - y) * 12 + (m' - m) + 1) = D2 at *
  go_enter Try.func26, Try.ntmps26
  go_wp2_with fail
  refine (hR _).mono ?_
  rintro e w1 ⟨rfl, hb1⟩
  have B1 : Below w.heap.size w w1 := by (focus (repeat' (first | assumption | exact Below.refl _ _ | refine Below.alloc ?_ ?_ _ | refine Below.setCell ?_ ?_ _ | refine Below.drew ?_ | refine below_drewN ?_ _ | refine Below.trans ?_ (Below.mono (by assumption) ?_) | refine Below.trans ?_ (Below.mono (BW.below _) ?_) | (simp; done) | (simp; omega) | omega)))
  have n1 : w.heap.size ≤ w1.heap.size := B1.size
  have s1_0 : w.heap.size < w1.heap.size := Nat.lt_of_lt_of_le (by first | (simp; done) | (simp; omega) | omega) hb1.size
  have c1_0_0 : w1.cell? ⟨w.heap.size, 0, none⟩ = some (.int .i64 (y)) := (hb1.cell (p := ⟨w.heap.size, 0, none⟩) (by first | (simp; done) | (simp; omega) | omega)).trans (by go_simp)
  have c1_0_1 : w1.cell? ⟨w.heap.size, 1, none⟩ = some (.int .i64 (m)) := (hb1.cell (p := ⟨w.heap.size, 1, none⟩) (by first | (simp; done) | (simp; omega) | omega)).trans (by go_simp)
  have c1_0_2 : w1.cell? ⟨w.heap.size, 2, none⟩ = some (.int .i64 (d)) := (hb1.cell (p := ⟨w.heap.size, 2, none⟩) (by first | (simp; done) | (simp; omega) | omega)).trans (by go_simp)
  have s1_1 : w.heap.size + 1 < w1.heap.size := Nat.lt_of_lt_of_le (by first | (simp; done) | (simp; omega) | omega) hb1.size
  have c1_1_0 : w1.cell? ⟨w.heap.size + 1, 0, none⟩ = some (.int .i64 (y')) := (hb1.cell (p := ⟨w.heap.size + 1, 0, none⟩) (by first | (simp; done) | (simp; omega) | omega)).trans (by go_simp)
  have c1_1_1 : w1.cell? ⟨w.heap.size + 1, 1, none⟩ = some (.int .i64 (m')) := (hb1.cell (p := ⟨w.heap.size + 1, 1, none⟩) (by first | (simp; done) | (simp; omega) | omega)).trans (by go_simp)
  have c1_1_2 : w1.cell? ⟨w.heap.size + 1, 2, none⟩ = some (.int .i64 (d')) := (hb1.cell (p := ⟨w.heap.size + 1, 2, none⟩) (by first | (simp; done) | (simp; omega) | omega)).trans (by go_simp)
  clear hb1
  go_wp2_with fail
  refine (hR2 _).mono ?_
  rintro e w2 ⟨rfl, hb2⟩
  have B2 : Below w.heap.size w w2 := by (focus (repeat' (first | assumption | exact Below.refl _ _ | refine Below.alloc ?_ ?_ _ | refine Below.setCell ?_ ?_ _ | refine Below.drew ?_ | refine below_drewN ?_ _ | refine Below.trans ?_ (Below.mono (by assumption) ?_) | refine Below.trans ?_ (Below.mono (BW.below _) ?_) | (simp; done) | (simp; omega) | omega)))
  have n2 : w.heap.size ≤ w2.heap.size := B2.size
  have s2_0 : w.heap.size < w2.heap.size := Nat.lt_of_lt_of_le (by first | (simp; done) | (simp; omega) | omega) hb2.size
  have c2_0_0 : w2.cell? ⟨w.heap.size, 0, none⟩ = some (.int .i64 (y)) := (hb2.cell (p := ⟨w.heap.size, 0, none⟩) (by first | (simp; done) | (simp; omega) | omega)).trans (by go_simp)
  have c2_0_1 : w2.cell? ⟨w.heap.size, 1, none⟩ = some (.int .i64 (m)) := (hb2.cell (p := ⟨w.heap.size, 1, none⟩) (by first | (simp; done) | (simp; omega) | omega)).trans (by go_simp)
  have c2_0_2 : w2.cell? ⟨w.heap.size, 2, none⟩ = some (.int .i64 (d)) := (hb2.cell (p := ⟨w.heap.size, 2, none⟩) (by first | (simp; done) | (simp; omega) | omega)).trans (by go_simp)
  have s2_1 : w.heap.size + 1 < w2.heap.size := Nat.lt_of_lt_of_le (by first | (simp; done) | (simp; omega) | omega) hb2.size
  have c2_1_0 : w2.cell? ⟨w.heap.size + 1, 0, none⟩ = some (.int .i64 (y')) := (hb2.cell (p := ⟨w.heap.size + 1, 0, none⟩) (by first | (simp; done) | (simp; omega) | omega)).trans (by go_simp)
  have c2_1_1 : w2.cell? ⟨w.heap.size + 1, 1, none⟩ = some (.int .i64 (m')) := (hb2.cell (p := ⟨w.heap.size + 1, 1, none⟩) (by first | (simp; done) | (simp; omega) | omega)).trans (by go_simp)
  have c2_1_2 : w2.cell? ⟨w.heap.size + 1, 2, none⟩ = some (.int .i64 (d')) := (hb2.cell (p := ⟨w.heap.size + 1, 2, none⟩) (by first | (simp; done) | (simp; omega) | omega)).trans (by go_simp)
  clear hb2 B1 c1_0_0 c1_0_1 c1_0_2 c1_1_0 c1_1_1 c1_1_2
  go_wp2_with fail
  have Bx1 : Below w.heap.size w w2 := by (focus (repeat' (first | assumption | exact Below.refl _ _ | refine Below.alloc ?_ ?_ _ | refine Below.setCell ?_ ?_ _ | refine Below.drew ?_ | refine below_drewN ?_ _ | refine Below.trans ?_ (Below.mono (by assumption) ?_) | refine Below.trans ?_ (Below.mono (BW.below _) ?_) | (simp; done) | (simp; omega) | omega)))
  have nx1 : w.heap.size ≤ w2.heap.size := Bx1.size
  have sx1_0 : w.heap.size < w2.heap.size := (by first | (simp; done) | (simp; omega) | omega)
  have cx1_0_0 : w2.cell? ⟨w.heap.size, 0, none⟩ = some (.int .i64 (y)) := by go_simp
  have cx1_0_1 : w2.cell? ⟨w.heap.size, 1, none⟩ = some (.int .i64 (m)) := by go_simp
  have cx1_0_2 : w2.cell? ⟨w.heap.size, 2, none⟩ = some (.int .i64 (d)) := by go_simp
  have sx1_1 : w.heap.size + 1 < w2.heap.size := (by first | (simp; done) | (simp; omega) | omega)
  have cx1_1_0 : w2.cell? ⟨w.heap.size + 1, 0, none⟩ = some (.int .i64 (y')) := by go_simp
  have cx1_1_1 : w2.cell? ⟨w.heap.size + 1, 1, none⟩ = some (.int .i64 (m')) := by go_simp
  have cx1_1_2 : w2.cell? ⟨w.heap.size + 1, 2, none⟩ = some (.int .i64 (d')) := by go_simp
  clear B2 c2_0_0 c2_0_1 c2_0_2 c2_1_0 c2_1_1 c2_1_2
  generalize w2 = x1 at *
  try dsimp only [List.append]
  refine wp_region_bw (by kernel_rfl) (by kernel_rfl) ?_; (repeat (go_big_quiet_step ((go_at_call 73; exact bw_same (hL _))))); refine wpQuiet_nil ?_; intro _ hw'; obtain ⟨xq, hw''⟩ := hw'; subst hw''
  have Bx2 : Below w.heap.size w xq.val := Bx1.trans (xq.below.mono nx1)
  have nx2 : w.heap.size ≤ xq.val.heap.size := Bx2.size
  have sx2_0 : w.heap.size < xq.val.heap.size := Nat.lt_of_lt_of_le (by first | (simp; done) | (simp; omega) | omega) xq.below.size
  have cx2_0_0 : xq.val.cell? ⟨w.heap.size, 0, none⟩ = some (.int .i64 (y)) := (xq.cell (w.heap.size) 0 (by first | (simp; done) | (simp; omega) | omega)).trans (by go_simp)
  have cx2_0_1 : xq.val.cell? ⟨w.heap.size, 1, none⟩ = some (.int .i64 (m)) := (xq.cell (w.heap.size) 1 (by first | (simp; done) | (simp; omega) | omega)).trans (by go_simp)
  have cx2_0_2 : xq.val.cell? ⟨w.heap.size, 2, none⟩ = some (.int .i64 (d)) := (xq.cell (w.heap.size) 2 (by first | (simp; done) | (simp; omega) | omega)).trans (by go_simp)
  clear Bx1 cx1_0_0 cx1_0_1 cx1_0_2 cx1_1_0 cx1_1_1 cx1_1_2
  generalize xq.val = x2 at *
  go_wp2_with fail
  refine wp_loop_rounds 4 ?_
  rw [rounds_succ]
  go_wp2_with fail
  refine (hA1 _).mono ?_
  rintro e w3 ⟨rfl, hb3⟩
  have B3 : Below w.heap.size w w3 := by (focus (repeat' (first | assumption | exact Below.refl _ _ | refine Below.alloc ?_ ?_ _ | refine Below.setCell ?_ ?_ _ | refine Below.drew ?_ | refine below_drewN ?_ _ | refine Below.trans ?_ (Below.mono (by assumption) ?_) | refine Below.trans ?_ (Below.mono (BW.below _) ?_) | (simp; done) | (simp; omega) | omega)))
  have n3 : w.heap.size ≤ w3.heap.size := B3.size
  have s3_0 : w.heap.size < w3.heap.size := Nat.lt_of_lt_of_le (by first | (simp; done) | (simp; omega) | omega) hb3.size
  have c3_0_0 : w3.cell? ⟨w.heap.size, 0, none⟩ = some (.int .i64 (y)) := (hb3.cell (p := ⟨w.heap.size, 0, none⟩) (by first | (simp; done) | (simp; omega) | omega)).trans (by go_simp)
  have c3_0_1 : w3.cell? ⟨w.heap.size, 1, none⟩ = some (.int .i64 (m)) := (hb3.cell (p := ⟨w.heap.size, 1, none⟩) (by first | (simp; done) | (simp; omega) | omega)).trans (by go_simp)
  have c3_0_2 : w3.cell? ⟨w.heap.size, 2, none⟩ = some (.int .i64 (d)) := (hb3.cell (p := ⟨w.heap.size, 2, none⟩) (by first | (simp; done) | (simp; omega) | omega)).trans (by go_simp)
  clear hb3 Bx2 cx2_0_0 cx2_0_1 cx2_0_2
  go_wp2_with fail
  rw [rounds_succ]
  go_wp2_with fail
  refine (hA2 _).mono ?_
  rintro e w4 ⟨rfl, hb4⟩
  have B4 : Below w.heap.size w w4 := by (focus (repeat' (first | assumption | exact Below.refl _ _ | refine Below.alloc ?_ ?_ _ | refine Below.setCell ?_ ?_ _ | refine Below.drew ?_ | refine below_drewN ?_ _ | refine Below.trans ?_ (Below.mono (by assumption) ?_) | refine Below.trans ?_ (Below.mono (BW.below _) ?_) | (simp; done) | (simp; omega) | omega)))
  have n4 : w.heap.size ≤ w4.heap.size := B4.size
  have s4_0 : w3.heap.size < w4.heap.size := Nat.lt_of_lt_of_le (by first | (simp; done) | (simp; omega) | omega) hb4.size
  have c4_0_0 : w4.cell? ⟨w3.heap.size, 0, none⟩ = some (.int .i64 (Y1)) := (hb4.cell (p := ⟨w3.heap.size, 0, none⟩) (by first | (simp; done) | (simp; omega) | omega)).trans (by go_simp)
  have c4_0_1 : w4.cell? ⟨w3.heap.size, 1, none⟩ = some (.int .i64 (M1)) := (hb4.cell (p := ⟨w3.heap.size, 1, none⟩) (by first | (simp; done) | (simp; omega) | omega)).trans (by go_simp)
  have c4_0_2 : w4.cell? ⟨w3.heap.size, 2, none⟩ = some (.int .i64 (D1)) := (hb4.cell (p := ⟨w3.heap.size, 2, none⟩) (by first | (simp; done) | (simp; omega) | omega)).trans (by go_simp)
  have f4_0_0 : w4.frozen? ⟨w3.heap.size, 0, none⟩ = false := (hb4.frozen (p := ⟨w3.heap.size, 0, none⟩) (by first | (simp; done) | (simp; omega) | omega)).trans (by go_simp)
  have f4_0_1 : w4.frozen? ⟨w3.heap.size, 1, none⟩ = false := (hb4.frozen (p := ⟨w3.heap.size, 1, none⟩) (by first | (simp; done) | (simp; omega) | omega)).trans (by go_simp)
  have f4_0_2 : w4.frozen? ⟨w3.heap.size, 2, none⟩ = false := (hb4.frozen (p := ⟨w3.heap.size, 2, none⟩) (by first | (simp; done) | (simp; omega) | omega)).trans (by go_simp)
  clear hb4 B3 c3_0_0 c3_0_1 c3_0_2
  go_wp2_with fail
  go_ret2
  exact ⟨rfl, by (focus (repeat' (first | assumption | exact Below.refl _ _ | refine Below.alloc ?_ ?_ _ | refine Below.setCell ?_ ?_ _ | refine Below.drew ?_ | refine below_drewN ?_ _ | refine Below.trans ?_ (Below.mono (by assumption) ?_) | refine Below.trans ?_ (Below.mono (BW.below _) ?_) | (simp; done) | (simp; omega) | omega)))⟩
set_option maxRecDepth 100000 in
set_option maxHeartbeats 4000000 in
theorem monthly_Between_02 (y m d y' m' d' : Int) (ky : I64 y) (ky' : I64 y') (h : rightB y m d = true) (h' : rightB y' m' d' = true) (hd : d ≤ d') (h1 : addB y m d ((y' - y) * 12 + (m' - m)) = true) (h2 : addB y m d ((y' - y) * 12 + (m' - m) + 1) = true) (w : World) : Calls Try.prog 26 #[dat y m d, dat y' m' d'] w fun e w' => e = .returned (.tuple #[.int .i64 (btV y m d y' m' d'), .int .i64 (btE y m d y' m' d')]) ∧ Below w.heap.size w w' := by
  obtain ⟨b1, b2⟩ := bt_base h h' 0 (by omega)
  have hb : btB y m d y' m' d' = true := by
    rw [b2 true true (by first | exact h1 | (rw [Int.sub_zero]; exact h1)) (by first | exact h2 | (rw [Int.sub_zero]; exact h2))]
    rfl
  obtain ⟨e1, e2⟩ := bt_y hb
  rw [e1, e2, b1]
  try rw [Int.sub_zero]
  obtain ⟨ry0, ry1, rm0, rm1, rd0, rd1⟩ := (right_iff y m d).1 h
  obtain ⟨qy0, qy1, qm0, qm1, qd0, qd1⟩ := (right_iff y' m' d').1 h'
  have hR := fun w => civil_Right y m d ky w
  have hR2 := fun w => civil_Right y' m' d' ky' w
  have hL := fun w => civil_Len y' m' ky' w
  have hA1 := fun w => monthly_Add y m d ((y' - y) * 12 + (m' - m)) ky (I64.sm (by omega)) (I64.sm (by omega)) w
  have hA2 := fun w => monthly_Add y m d ((y' - y) * 12 + (m' - m) + 1) ky (I64.sm (by omega)) (I64.sm (by omega)) w
  rw [addE_v, h1] at hA1
  rw [addE_v, h2] at hA2
  rw [h] at hR
  rw [h'] at hR2
  clear h h' h1 e1 e2 b1 b2 hb rd1 qd1 h2
  generalize mlen y' m' = L at *
  have hd' : decide (d' < d) = false := by simpa using hd
  clear hd
  have i0 : ∀ w : World, (Instr.index 88 (.agg #[.int .i64 ((y' - y) * 12 + (m' - m)), .int .i64 ((y' - y) * 12 + (m' - m) + 1)]) (.int .i64 0)).run Try.prog w = .ok (.int .i64 ((y' - y) * 12 + (m' - m))) w := fun _ => by kernel_rfl
  have i1 : ∀ w : World, (Instr.index 88 (.agg #[.int .i64 ((y' - y) * 12 + (m' - m)), .int .i64 ((y' - y) * 12 + (m' - m) + 1)]) (.int .i64 1)).run Try.prog w = .ok (.int .i64 ((y' - y) * 12 + (m' - m) + 1)) w := fun _ => by kernel_rfl
  generalize addY y m d ((y' - y) * 12 + (m' - m)) = Y1 at *
  generalize addM y m d ((y' - y) * 12 + (m' - m)) = M1 at *
  generalize addD y m d ((y' - y) * 12 + (m' - m)) = D1 at *
  generalize addY y m d ((y' - y) * 12 + (m' - m) + 1) = Y2 at *
  generalize addM y m d ((y' - y) * 12 + (m' - m) + 1) = M2 at *
  generalize addD y m d ((y' - y) * 12 + (m' - m) + 1) = D2 at *
  go_enter Try.func26, Try.ntmps26
  go_wp2_with fail
  refine (hR _).mono ?_
  rintro e w1 ⟨rfl, hb1⟩
  have B1 : Below w.heap.size w w1 := by (focus (repeat' (first | assumption | exact Below.refl _ _ | refine Below.alloc ?_ ?_ _ | refine Below.setCell ?_ ?_ _ | refine Below.drew ?_ | refine below_drewN ?_ _ | refine Below.trans ?_ (Below.mono (by assumption) ?_) | refine Below.trans ?_ (Below.mono (BW.below _) ?_) | (simp; done) | (simp; omega) | omega)))
  have n1 : w.heap.size ≤ w1.heap.size := B1.size
  have s1_0 : w.heap.size < w1.heap.size := Nat.lt_of_lt_of_le (by first | (simp; done) | (simp; omega) | omega) hb1.size
  have c1_0_0 : w1.cell? ⟨w.heap.size, 0, none⟩ = some (.int .i64 (y)) := (hb1.cell (p := ⟨w.heap.size, 0, none⟩) (by first | (simp; done) | (simp; omega) | omega)).trans (by go_simp)
  have c1_0_1 : w1.cell? ⟨w.heap.size, 1, none⟩ = some (.int .i64 (m)) := (hb1.cell (p := ⟨w.heap.size, 1, none⟩) (by first | (simp; done) | (simp; omega) | omega)).trans (by go_simp)
  have c1_0_2 : w1.cell? ⟨w.heap.size, 2, none⟩ = some (.int .i64 (d)) := (hb1.cell (p := ⟨w.heap.size, 2, none⟩) (by first | (simp; done) | (simp; omega) | omega)).trans (by go_simp)
  have s1_1 : w.heap.size + 1 < w1.heap.size := Nat.lt_of_lt_of_le (by first | (simp; done) | (simp; omega) | omega) hb1.size
  have c1_1_0 : w1.cell? ⟨w.heap.size + 1, 0, none⟩ = some (.int .i64 (y')) := (hb1.cell (p := ⟨w.heap.size + 1, 0, none⟩) (by first | (simp; done) | (simp; omega) | omega)).trans (by go_simp)
  have c1_1_1 : w1.cell? ⟨w.heap.size + 1, 1, none⟩ = some (.int .i64 (m')) := (hb1.cell (p := ⟨w.heap.size + 1, 1, none⟩) (by first | (simp; done) | (simp; omega) | omega)).trans (by go_simp)
  have c1_1_2 : w1.cell? ⟨w.heap.size + 1, 2, none⟩ = some (.int .i64 (d')) := (hb1.cell (p := ⟨w.heap.size + 1, 2, none⟩) (by first | (simp; done) | (simp; omega) | omega)).trans (by go_simp)
  clear hb1
  go_wp2_with fail
  refine (hR2 _).mono ?_
  rintro e w2 ⟨rfl, hb2⟩
  have B2 : Below w.heap.size w w2 := by (focus (repeat' (first | assumption | exact Below.refl _ _ | refine Below.alloc ?_ ?_ _ | refine Below.setCell ?_ ?_ _ | refine Below.drew ?_ | refine below_drewN ?_ _ | refine Below.trans ?_ (Below.mono (by assumption) ?_) | refine Below.trans ?_ (Below.mono (BW.below _) ?_) | (simp; done) | (simp; omega) | omega)))
  have n2 : w.heap.size ≤ w2.heap.size := B2.size
  have s2_0 : w.heap.size < w2.heap.size := Nat.lt_of_lt_of_le (by first | (simp; done) | (simp; omega) | omega) hb2.size
  have c2_0_0 : w2.cell? ⟨w.heap.size, 0, none⟩ = some (.int .i64 (y)) := (hb2.cell (p := ⟨w.heap.size, 0, none⟩) (by first | (simp; done) | (simp; omega) | omega)).trans (by go_simp)
  have c2_0_1 : w2.cell? ⟨w.heap.size, 1, none⟩ = some (.int .i64 (m)) := (hb2.cell (p := ⟨w.heap.size, 1, none⟩) (by first | (simp; done) | (simp; omega) | omega)).trans (by go_simp)
  have c2_0_2 : w2.cell? ⟨w.heap.size, 2, none⟩ = some (.int .i64 (d)) := (hb2.cell (p := ⟨w.heap.size, 2, none⟩) (by first | (simp; done) | (simp; omega) | omega)).trans (by go_simp)
  have s2_1 : w.heap.size + 1 < w2.heap.size := Nat.lt_of_lt_of_le (by first | (simp; done) | (simp; omega) | omega) hb2.size
  have c2_1_0 : w2.cell? ⟨w.heap.size + 1, 0, none⟩ = some (.int .i64 (y')) := (hb2.cell (p := ⟨w.heap.size + 1, 0, none⟩) (by first | (simp; done) | (simp; omega) | omega)).trans (by go_simp)
  have c2_1_1 : w2.cell? ⟨w.heap.size + 1, 1, none⟩ = some (.int .i64 (m')) := (hb2.cell (p := ⟨w.heap.size + 1, 1, none⟩) (by first | (simp; done) | (simp; omega) | omega)).trans (by go_simp)
  have c2_1_2 : w2.cell? ⟨w.heap.size + 1, 2, none⟩ = some (.int .i64 (d')) := (hb2.cell (p := ⟨w.heap.size + 1, 2, none⟩) (by first | (simp; done) | (simp; omega) | omega)).trans (by go_simp)
  clear hb2 B1 c1_0_0 c1_0_1 c1_0_2 c1_1_0 c1_1_1 c1_1_2
  go_wp2_with fail
  have Bx1 : Below w.heap.size w w2 := by (focus (repeat' (first | assumption | exact Below.refl _ _ | refine Below.alloc ?_ ?_ _ | refine Below.setCell ?_ ?_ _ | refine Below.drew ?_ | refine below_drewN ?_ _ | refine Below.trans ?_ (Below.mono (by assumption) ?_) | refine Below.trans ?_ (Below.mono (BW.below _) ?_) | (simp; done) | (simp; omega) | omega)))
  have nx1 : w.heap.size ≤ w2.heap.size := Bx1.size
  have sx1_0 : w.heap.size < w2.heap.size := (by first | (simp; done) | (simp; omega) | omega)
  have cx1_0_0 : w2.cell? ⟨w.heap.size, 0, none⟩ = some (.int .i64 (y)) := by go_simp
  have cx1_0_1 : w2.cell? ⟨w.heap.size, 1, none⟩ = some (.int .i64 (m)) := by go_simp
  have cx1_0_2 : w2.cell? ⟨w.heap.size, 2, none⟩ = some (.int .i64 (d)) := by go_simp
  have sx1_1 : w.heap.size + 1 < w2.heap.size := (by first | (simp; done) | (simp; omega) | omega)
  have cx1_1_0 : w2.cell? ⟨w.heap.size + 1, 0, none⟩ = some (.int .i64 (y')) := by go_simp
  have cx1_1_1 : w2.cell? ⟨w.heap.size + 1, 1, none⟩ = some (.int .i64 (m')) := by go_simp
  have cx1_1_2 : w2.cell? ⟨w.heap.size + 1, 2, none⟩ = some (.int .i64 (d')) := by go_simp
  clear B2 c2_0_0 c2_0_1 c2_0_2 c2_1_0 c2_1_1 c2_1_2
  generalize w2 = x1 at *
  try dsimp only [List.append]
  refine wp_region_bw (by kernel_rfl) (by kernel_rfl) ?_; (repeat (go_big_quiet_step ((go_at_call 73; exact bw_same (hL _))))); refine wpQuiet_nil ?_; intro _ hw'; obtain ⟨xq, hw''⟩ := hw'; subst hw''
  have Bx2 : Below w.heap.size w xq.val := Bx1.trans (xq.below.mono nx1)
  have nx2 : w.heap.size ≤ xq.val.heap.size := Bx2.size
  have sx2_0 : w.heap.size < xq.val.heap.size := Nat.lt_of_lt_of_le (by first | (simp; done) | (simp; omega) | omega) xq.below.size
  have cx2_0_0 : xq.val.cell? ⟨w.heap.size, 0, none⟩ = some (.int .i64 (y)) := (xq.cell (w.heap.size) 0 (by first | (simp; done) | (simp; omega) | omega)).trans (by go_simp)
  have cx2_0_1 : xq.val.cell? ⟨w.heap.size, 1, none⟩ = some (.int .i64 (m)) := (xq.cell (w.heap.size) 1 (by first | (simp; done) | (simp; omega) | omega)).trans (by go_simp)
  have cx2_0_2 : xq.val.cell? ⟨w.heap.size, 2, none⟩ = some (.int .i64 (d)) := (xq.cell (w.heap.size) 2 (by first | (simp; done) | (simp; omega) | omega)).trans (by go_simp)
  clear Bx1 cx1_0_0 cx1_0_1 cx1_0_2 cx1_1_0 cx1_1_1 cx1_1_2
  generalize xq.val = x2 at *
  go_wp2_with fail
  refine wp_loop_rounds 4 ?_
  rw [rounds_succ]
  go_wp2_with fail
  refine (hA1 _).mono ?_
  rintro e w3 ⟨rfl, hb3⟩
  have B3 : Below w.heap.size w w3 := by (focus (repeat' (first | assumption | exact Below.refl _ _ | refine Below.alloc ?_ ?_ _ | refine Below.setCell ?_ ?_ _ | refine Below.drew ?_ | refine below_drewN ?_ _ | refine Below.trans ?_ (Below.mono (by assumption) ?_) | refine Below.trans ?_ (Below.mono (BW.below _) ?_) | (simp; done) | (simp; omega) | omega)))
  have n3 : w.heap.size ≤ w3.heap.size := B3.size
  have s3_0 : w.heap.size < w3.heap.size := Nat.lt_of_lt_of_le (by first | (simp; done) | (simp; omega) | omega) hb3.size
  have c3_0_0 : w3.cell? ⟨w.heap.size, 0, none⟩ = some (.int .i64 (y)) := (hb3.cell (p := ⟨w.heap.size, 0, none⟩) (by first | (simp; done) | (simp; omega) | omega)).trans (by go_simp)
  have c3_0_1 : w3.cell? ⟨w.heap.size, 1, none⟩ = some (.int .i64 (m)) := (hb3.cell (p := ⟨w.heap.size, 1, none⟩) (by first | (simp; done) | (simp; omega) | omega)).trans (by go_simp)
  have c3_0_2 : w3.cell? ⟨w.heap.size, 2, none⟩ = some (.int .i64 (d)) := (hb3.cell (p := ⟨w.heap.size, 2, none⟩) (by first | (simp; done) | (simp; omega) | omega)).trans (by go_simp)
  clear hb3 Bx2 cx2_0_0 cx2_0_1 cx2_0_2
  go_wp2_with fail
  rw [rounds_succ]
  go_wp2_with fail
  refine (hA2 _).mono ?_
  rintro e w4 ⟨rfl, hb4⟩
  have B4 : Below w.heap.size w w4 := by (focus (repeat' (first | assumption | exact Below.refl _ _ | refine Below.alloc ?_ ?_ _ | refine Below.setCell ?_ ?_ _ | refine Below.drew ?_ | refine below_drewN ?_ _ | refine Below.trans ?_ (Below.mono (by assumption) ?_) | refine Below.trans ?_ (Below.mono (BW.below _) ?_) | (simp; done) | (simp; omega) | omega)))
  have n4 : w.heap.size ≤ w4.heap.size := B4.size
  have s4_0 : w3.heap.size < w4.heap.size := Nat.lt_of_lt_of_le (by first | (simp; done) | (simp; omega) | omega) hb4.size
  have c4_0_0 : w4.cell? ⟨w3.heap.size, 0, none⟩ = some (.int .i64 (Y1)) := (hb4.cell (p := ⟨w3.heap.size, 0, none⟩) (by first | (simp; done) | (simp; omega) | omega)).trans (by go_simp)
  have c4_0_1 : w4.cell? ⟨w3.heap.size, 1, none⟩ = some (.int .i64 (M1)) := (hb4.cell (p := ⟨w3.heap.size, 1, none⟩) (by first | (simp; done) | (simp; omega) | omega)).trans (by go_simp)
  have c4_0_2 : w4.cell? ⟨w3.heap.size, 2, none⟩ = some (.int .i64 (D1)) := (hb4.cell (p := ⟨w3.heap.size, 2, none⟩) (by first | (simp; done) | (simp; omega) | omega)).trans (by go_simp)
  have f4_0_0 : w4.frozen? ⟨w3.heap.size, 0, none⟩ = false := (hb4.frozen (p := ⟨w3.heap.size, 0, none⟩) (by first | (simp; done) | (simp; omega) | omega)).trans (by go_simp)
  have f4_0_1 : w4.frozen? ⟨w3.heap.size, 1, none⟩ = false := (hb4.frozen (p := ⟨w3.heap.size, 1, none⟩) (by first | (simp; done) | (simp; omega) | omega)).trans (by go_simp)
  have f4_0_2 : w4.frozen? ⟨w3.heap.size, 2, none⟩ = false := (hb4.frozen (p := ⟨w3.heap.size, 2, none⟩) (by first | (simp; done) | (simp; omega) | omega)).trans (by go_simp)
  clear hb4 B3 c3_0_0 c3_0_1 c3_0_2
  go_wp2_with fail
  rw [rounds_succ]
  go_wp2_with fail
  go_ret2
  exact ⟨rfl, by (focus (repeat' (first | assumption | exact Below.refl _ _ | refine Below.alloc ?_ ?_ _ | refine Below.setCell ?_ ?_ _ | refine Below.drew ?_ | refine below_drewN ?_ _ | refine Below.trans ?_ (Below.mono (by assumption) ?_) | refine Below.trans ?_ (Below.mono (BW.below _) ?_) | (simp; done) | (simp; omega) | omega)))⟩
set_option maxRecDepth 100000 in
set_option maxHeartbeats 4000000 in
theorem monthly_Between_10 (y m d y' m' d' : Int) (ky : I64 y) (ky' : I64 y') (h : rightB y m d = true) (h' : rightB y' m' d' = true) (hd : d' < d) (hl : mlen y' m' ≤ d') (h1 : addB y m d ((y' - y) * 12 + (m' - m)) = false) (w : World) : Calls Try.prog 26 #[dat y m d, dat y' m' d'] w fun e w' => e = .returned (.tuple #[.int .i64 (btV y m d y' m' d'), .int .i64 (btE y m d y' m' d')]) ∧ Below w.heap.size w w' := by
  obtain ⟨b1, b2⟩ := bt_base h h' 0 (by omega)
  have hb : btB y m d y' m' d' = false := by
    rw [b2 false _ (by first | exact h1 | (rw [Int.sub_zero]; exact h1)) rfl]
    rfl
  obtain ⟨e1, e2⟩ := bt_n hb
  rw [e1, e2]
  obtain ⟨ry0, ry1, rm0, rm1, rd0, rd1⟩ := (right_iff y m d).1 h
  obtain ⟨qy0, qy1, qm0, qm1, qd0, qd1⟩ := (right_iff y' m' d').1 h'
  have hR := fun w => civil_Right y m d ky w
  have hR2 := fun w => civil_Right y' m' d' ky' w
  have hL := fun w => civil_Len y' m' ky' w
  have hA1 := fun w => monthly_Add y m d ((y' - y) * 12 + (m' - m)) ky (I64.sm (by omega)) (I64.sm (by omega)) w
  have hA2 := fun w => monthly_Add y m d ((y' - y) * 12 + (m' - m) + 1) ky (I64.sm (by omega)) (I64.sm (by omega)) w
  rw [addE_v, h1] at hA1
  rw [h] at hR
  rw [h'] at hR2
  clear h h' h1 e1 e2 b1 b2 hb rd1 qd1
  generalize mlen y' m' = L at *
  have hl' : decide (d' < L) = false := by simpa using hl
  clear hl
  have i0 : ∀ w : World, (Instr.index 88 (.agg #[.int .i64 ((y' - y) * 12 + (m' - m)), .int .i64 ((y' - y) * 12 + (m' - m) + 1)]) (.int .i64 0)).run Try.prog w = .ok (.int .i64 ((y' - y) * 12 + (m' - m))) w := fun _ => by kernel_rfl
  have i1 : ∀ w : World, (Instr.index 88 (.agg #[.int .i64 ((y' - y) * 12 + (m' - m)), .int .i64 ((y' - y) * 12 + (m' - m) + 1)]) (.int .i64 1)).run Try.prog w = .ok (.int .i64 ((y' - y) * 12 + (m' - m) + 1)) w := fun _ => by kernel_rfl
  generalize addY y m d ((y' - y) * 12 + (m' - m)) = Y1 at *
  generalize addM y m d ((y' - y) * 12 + (m' - m)) = M1 at *
  generalize addD y m d ((y' - y) * 12 + (m' - m)) = D1 at *
  clear hA2
  go_enter Try.func26, Try.ntmps26
  go_wp2_with fail
  refine (hR _).mono ?_
  rintro e w1 ⟨rfl, hb1⟩
  have B1 : Below w.heap.size w w1 := by (focus (repeat' (first | assumption | exact Below.refl _ _ | refine Below.alloc ?_ ?_ _ | refine Below.setCell ?_ ?_ _ | refine Below.drew ?_ | refine below_drewN ?_ _ | refine Below.trans ?_ (Below.mono (by assumption) ?_) | refine Below.trans ?_ (Below.mono (BW.below _) ?_) | (simp; done) | (simp; omega) | omega)))
  have n1 : w.heap.size ≤ w1.heap.size := B1.size
  have s1_0 : w.heap.size < w1.heap.size := Nat.lt_of_lt_of_le (by first | (simp; done) | (simp; omega) | omega) hb1.size
  have c1_0_0 : w1.cell? ⟨w.heap.size, 0, none⟩ = some (.int .i64 (y)) := (hb1.cell (p := ⟨w.heap.size, 0, none⟩) (by first | (simp; done) | (simp; omega) | omega)).trans (by go_simp)
  have c1_0_1 : w1.cell? ⟨w.heap.size, 1, none⟩ = some (.int .i64 (m)) := (hb1.cell (p := ⟨w.heap.size, 1, none⟩) (by first | (simp; done) | (simp; omega) | omega)).trans (by go_simp)
  have c1_0_2 : w1.cell? ⟨w.heap.size, 2, none⟩ = some (.int .i64 (d)) := (hb1.cell (p := ⟨w.heap.size, 2, none⟩) (by first | (simp; done) | (simp; omega) | omega)).trans (by go_simp)
  have s1_1 : w.heap.size + 1 < w1.heap.size := Nat.lt_of_lt_of_le (by first | (simp; done) | (simp; omega) | omega) hb1.size
  have c1_1_0 : w1.cell? ⟨w.heap.size + 1, 0, none⟩ = some (.int .i64 (y')) := (hb1.cell (p := ⟨w.heap.size + 1, 0, none⟩) (by first | (simp; done) | (simp; omega) | omega)).trans (by go_simp)
  have c1_1_1 : w1.cell? ⟨w.heap.size + 1, 1, none⟩ = some (.int .i64 (m')) := (hb1.cell (p := ⟨w.heap.size + 1, 1, none⟩) (by first | (simp; done) | (simp; omega) | omega)).trans (by go_simp)
  have c1_1_2 : w1.cell? ⟨w.heap.size + 1, 2, none⟩ = some (.int .i64 (d')) := (hb1.cell (p := ⟨w.heap.size + 1, 2, none⟩) (by first | (simp; done) | (simp; omega) | omega)).trans (by go_simp)
  clear hb1
  go_wp2_with fail
  refine (hR2 _).mono ?_
  rintro e w2 ⟨rfl, hb2⟩
  have B2 : Below w.heap.size w w2 := by (focus (repeat' (first | assumption | exact Below.refl _ _ | refine Below.alloc ?_ ?_ _ | refine Below.setCell ?_ ?_ _ | refine Below.drew ?_ | refine below_drewN ?_ _ | refine Below.trans ?_ (Below.mono (by assumption) ?_) | refine Below.trans ?_ (Below.mono (BW.below _) ?_) | (simp; done) | (simp; omega) | omega)))
  have n2 : w.heap.size ≤ w2.heap.size := B2.size
  have s2_0 : w.heap.size < w2.heap.size := Nat.lt_of_lt_of_le (by first | (simp; done) | (simp; omega) | omega) hb2.size
  have c2_0_0 : w2.cell? ⟨w.heap.size, 0, none⟩ = some (.int .i64 (y)) := (hb2.cell (p := ⟨w.heap.size, 0, none⟩) (by first | (simp; done) | (simp; omega) | omega)).trans (by go_simp)
  have c2_0_1 : w2.cell? ⟨w.heap.size, 1, none⟩ = some (.int .i64 (m)) := (hb2.cell (p := ⟨w.heap.size, 1, none⟩) (by first | (simp; done) | (simp; omega) | omega)).trans (by go_simp)
  have c2_0_2 : w2.cell? ⟨w.heap.size, 2, none⟩ = some (.int .i64 (d)) := (hb2.cell (p := ⟨w.heap.size, 2, none⟩) (by first | (simp; done) | (simp; omega) | omega)).trans (by go_simp)
  have s2_1 : w.heap.size + 1 < w2.heap.size := Nat.lt_of_lt_of_le (by first | (simp; done) | (simp; omega) | omega) hb2.size
  have c2_1_0 : w2.cell? ⟨w.heap.size + 1, 0, none⟩ = some (.int .i64 (y')) := (hb2.cell (p := ⟨w.heap.size + 1, 0, none⟩) (by first | (simp; done) | (simp; omega) | omega)).trans (by go_simp)
  have c2_1_1 : w2.cell? ⟨w.heap.size + 1, 1, none⟩ = some (.int .i64 (m')) := (hb2.cell (p := ⟨w.heap.size + 1, 1, none⟩) (by first | (simp; done) | (simp; omega) | omega)).trans (by go_simp)
  have c2_1_2 : w2.cell? ⟨w.heap.size + 1, 2, none⟩ = some (.int .i64 (d')) := (hb2.cell (p := ⟨w.heap.size + 1, 2, none⟩) (by first | (simp; done) | (simp; omega) | omega)).trans (by go_simp)
  clear hb2 B1 c1_0_0 c1_0_1 c1_0_2 c1_1_0 c1_1_1 c1_1_2
  go_wp2_with fail
  have Bx1 : Below w.heap.size w w2 := by (focus (repeat' (first | assumption | exact Below.refl _ _ | refine Below.alloc ?_ ?_ _ | refine Below.setCell ?_ ?_ _ | refine Below.drew ?_ | refine below_drewN ?_ _ | refine Below.trans ?_ (Below.mono (by assumption) ?_) | refine Below.trans ?_ (Below.mono (BW.below _) ?_) | (simp; done) | (simp; omega) | omega)))
  have nx1 : w.heap.size ≤ w2.heap.size := Bx1.size
  have sx1_0 : w.heap.size < w2.heap.size := (by first | (simp; done) | (simp; omega) | omega)
  have cx1_0_0 : w2.cell? ⟨w.heap.size, 0, none⟩ = some (.int .i64 (y)) := by go_simp
  have cx1_0_1 : w2.cell? ⟨w.heap.size, 1, none⟩ = some (.int .i64 (m)) := by go_simp
  have cx1_0_2 : w2.cell? ⟨w.heap.size, 2, none⟩ = some (.int .i64 (d)) := by go_simp
  have sx1_1 : w.heap.size + 1 < w2.heap.size := (by first | (simp; done) | (simp; omega) | omega)
  have cx1_1_0 : w2.cell? ⟨w.heap.size + 1, 0, none⟩ = some (.int .i64 (y')) := by go_simp
  have cx1_1_1 : w2.cell? ⟨w.heap.size + 1, 1, none⟩ = some (.int .i64 (m')) := by go_simp
  have cx1_1_2 : w2.cell? ⟨w.heap.size + 1, 2, none⟩ = some (.int .i64 (d')) := by go_simp
  clear B2 c2_0_0 c2_0_1 c2_0_2 c2_1_0 c2_1_1 c2_1_2
  generalize w2 = x1 at *
  try dsimp only [List.append]
  refine wp_region_bw (by kernel_rfl) (by kernel_rfl) ?_; (repeat (go_big_quiet_step ((go_at_call 73; exact bw_same (hL _))))); refine wpQuiet_nil ?_; intro _ hw'; obtain ⟨xq, hw''⟩ := hw'; subst hw''
  have Bx2 : Below w.heap.size w xq.val := Bx1.trans (xq.below.mono nx1)
  have nx2 : w.heap.size ≤ xq.val.heap.size := Bx2.size
  have sx2_0 : w.heap.size < xq.val.heap.size := Nat.lt_of_lt_of_le (by first | (simp; done) | (simp; omega) | omega) xq.below.size
  have cx2_0_0 : xq.val.cell? ⟨w.heap.size, 0, none⟩ = some (.int .i64 (y)) := (xq.cell (w.heap.size) 0 (by first | (simp; done) | (simp; omega) | omega)).trans (by go_simp)
  have cx2_0_1 : xq.val.cell? ⟨w.heap.size, 1, none⟩ = some (.int .i64 (m)) := (xq.cell (w.heap.size) 1 (by first | (simp; done) | (simp; omega) | omega)).trans (by go_simp)
  have cx2_0_2 : xq.val.cell? ⟨w.heap.size, 2, none⟩ = some (.int .i64 (d)) := (xq.cell (w.heap.size) 2 (by first | (simp; done) | (simp; omega) | omega)).trans (by go_simp)
  clear Bx1 cx1_0_0 cx1_0_1 cx1_0_2 cx1_1_0 cx1_1_1 cx1_1_2
  generalize xq.val = x2 at *
  go_wp2_with fail
  refine wp_loop_rounds 4 ?_
  rw [rounds_succ]
  go_wp2_with fail
  refine (hA1 _).mono ?_
  rintro e w3 ⟨rfl, hb3⟩
  have B3 : Below w.heap.size w w3 := by (focus (repeat' (first | assumption | exact Below.refl _ _ | refine Below.alloc ?_ ?_ _ | refine Below.setCell ?_ ?_ _ | refine Below.drew ?_ | refine below_drewN ?_ _ | refine Below.trans ?_ (Below.mono (by assumption) ?_) | refine Below.trans ?_ (Below.mono (BW.below _) ?_) | (simp; done) | (simp; omega) | omega)))
  have n3 : w.heap.size ≤ w3.heap.size := B3.size
  clear hb3 Bx2 cx2_0_0 cx2_0_1 cx2_0_2
  go_wp2_with fail
  go_ret2
  exact ⟨rfl, by (focus (repeat' (first | assumption | exact Below.refl _ _ | refine Below.alloc ?_ ?_ _ | refine Below.setCell ?_ ?_ _ | refine Below.drew ?_ | refine below_drewN ?_ _ | refine Below.trans ?_ (Below.mono (by assumption) ?_) | refine Below.trans ?_ (Below.mono (BW.below _) ?_) | (simp; done) | (simp; omega) | omega)))⟩
set_option maxRecDepth 100000 in
set_option maxHeartbeats 4000000 in
theorem monthly_Between_11 (y m d y' m' d' : Int) (ky : I64 y) (ky' : I64 y') (h : rightB y m d = true) (h' : rightB y' m' d' = true) (hd : d' < d) (hl : mlen y' m' ≤ d') (h1 : addB y m d ((y' - y) * 12 + (m' - m)) = true) (h2 : addB y m d ((y' - y) * 12 + (m' - m) + 1) = false) (w : World) : Calls Try.prog 26 #[dat y m d, dat y' m' d'] w fun e w' => e = .returned (.tuple #[.int .i64 (btV y m d y' m' d'), .int .i64 (btE y m d y' m' d')]) ∧ Below w.heap.size w w' := by
  obtain ⟨b1, b2⟩ := bt_base h h' 0 (by omega)
  have hb : btB y m d y' m' d' = false := by
    rw [b2 true false (by first | exact h1 | (rw [Int.sub_zero]; exact h1)) (by first | exact h2 | (rw [Int.sub_zero]; exact h2))]
    rfl
  obtain ⟨e1, e2⟩ := bt_n hb
  rw [e1, e2]
  obtain ⟨ry0, ry1, rm0, rm1, rd0, rd1⟩ := (right_iff y m d).1 h
  obtain ⟨qy0, qy1, qm0, qm1, qd0, qd1⟩ := (right_iff y' m' d').1 h'
  have hR := fun w => civil_Right y m d ky w
  have hR2 := fun w => civil_Right y' m' d' ky' w
  have hL := fun w => civil_Len y' m' ky' w
  have hA1 := fun w => monthly_Add y m d ((y' - y) * 12 + (m' - m)) ky (I64.sm (by omega)) (I64.sm (by omega)) w
  have hA2 := fun w => monthly_Add y m d ((y' - y) * 12 + (m' - m) + 1) ky (I64.sm (by omega)) (I64.sm (by omega)) w
  rw [addE_v, h1] at hA1
  rw [addE_v, h2] at hA2
  rw [h] at hR
  rw [h'] at hR2
  clear h h' h1 e1 e2 b1 b2 hb rd1 qd1 h2
  generalize mlen y' m' = L at *
  have hl' : decide (d' < L) = false := by simpa using hl
  clear hl
  have i0 : ∀ w : World, (Instr.index 88 (.agg #[.int .i64 ((y' - y) * 12 + (m' - m)), .int .i64 ((y' - y) * 12 + (m' - m) + 1)]) (.int .i64 0)).run Try.prog w = .ok (.int .i64 ((y' - y) * 12 + (m' - m))) w := fun _ => by kernel_rfl
  have i1 : ∀ w : World, (Instr.index 88 (.agg #[.int .i64 ((y' - y) * 12 + (m' - m)), .int .i64 ((y' - y) * 12 + (m' - m) + 1)]) (.int .i64 1)).run Try.prog w = .ok (.int .i64 ((y' - y) * 12 + (m' - m) + 1)) w := fun _ => by kernel_rfl
  generalize addY y m d ((y' - y) * 12 + (m' - m)) = Y1 at *
  generalize addM y m d ((y' - y) * 12 + (m' - m)) = M1 at *
  generalize addD y m d ((y' - y) * 12 + (m' - m)) = D1 at *
  generalize addY y m d ((y' - y) * 12 + (m' - m) + 1) = Y2 at *
  generalize addM y m d ((y' - y) * 12 + (m' - m) + 1) = M2 at *
  generalize addD y m d ((y' - y) * 12 + (m' - m) + 1) = D2 at *
  go_enter Try.func26, Try.ntmps26
  go_wp2_with fail
  refine (hR _).mono ?_
  rintro e w1 ⟨rfl, hb1⟩
  have B1 : Below w.heap.size w w1 := by (focus (repeat' (first | assumption | exact Below.refl _ _ | refine Below.alloc ?_ ?_ _ | refine Below.setCell ?_ ?_ _ | refine Below.drew ?_ | refine below_drewN ?_ _ | refine Below.trans ?_ (Below.mono (by assumption) ?_) | refine Below.trans ?_ (Below.mono (BW.below _) ?_) | (simp; done) | (simp; omega) | omega)))
  have n1 : w.heap.size ≤ w1.heap.size := B1.size
  have s1_0 : w.heap.size < w1.heap.size := Nat.lt_of_lt_of_le (by first | (simp; done) | (simp; omega) | omega) hb1.size
  have c1_0_0 : w1.cell? ⟨w.heap.size, 0, none⟩ = some (.int .i64 (y)) := (hb1.cell (p := ⟨w.heap.size, 0, none⟩) (by first | (simp; done) | (simp; omega) | omega)).trans (by go_simp)
  have c1_0_1 : w1.cell? ⟨w.heap.size, 1, none⟩ = some (.int .i64 (m)) := (hb1.cell (p := ⟨w.heap.size, 1, none⟩) (by first | (simp; done) | (simp; omega) | omega)).trans (by go_simp)
  have c1_0_2 : w1.cell? ⟨w.heap.size, 2, none⟩ = some (.int .i64 (d)) := (hb1.cell (p := ⟨w.heap.size, 2, none⟩) (by first | (simp; done) | (simp; omega) | omega)).trans (by go_simp)
  have s1_1 : w.heap.size + 1 < w1.heap.size := Nat.lt_of_lt_of_le (by first | (simp; done) | (simp; omega) | omega) hb1.size
  have c1_1_0 : w1.cell? ⟨w.heap.size + 1, 0, none⟩ = some (.int .i64 (y')) := (hb1.cell (p := ⟨w.heap.size + 1, 0, none⟩) (by first | (simp; done) | (simp; omega) | omega)).trans (by go_simp)
  have c1_1_1 : w1.cell? ⟨w.heap.size + 1, 1, none⟩ = some (.int .i64 (m')) := (hb1.cell (p := ⟨w.heap.size + 1, 1, none⟩) (by first | (simp; done) | (simp; omega) | omega)).trans (by go_simp)
  have c1_1_2 : w1.cell? ⟨w.heap.size + 1, 2, none⟩ = some (.int .i64 (d')) := (hb1.cell (p := ⟨w.heap.size + 1, 2, none⟩) (by first | (simp; done) | (simp; omega) | omega)).trans (by go_simp)
  clear hb1
  go_wp2_with fail
  refine (hR2 _).mono ?_
  rintro e w2 ⟨rfl, hb2⟩
  have B2 : Below w.heap.size w w2 := by (focus (repeat' (first | assumption | exact Below.refl _ _ | refine Below.alloc ?_ ?_ _ | refine Below.setCell ?_ ?_ _ | refine Below.drew ?_ | refine below_drewN ?_ _ | refine Below.trans ?_ (Below.mono (by assumption) ?_) | refine Below.trans ?_ (Below.mono (BW.below _) ?_) | (simp; done) | (simp; omega) | omega)))
  have n2 : w.heap.size ≤ w2.heap.size := B2.size
  have s2_0 : w.heap.size < w2.heap.size := Nat.lt_of_lt_of_le (by first | (simp; done) | (simp; omega) | omega) hb2.size
  have c2_0_0 : w2.cell? ⟨w.heap.size, 0, none⟩ = some (.int .i64 (y)) := (hb2.cell (p := ⟨w.heap.size, 0, none⟩) (by first | (simp; done) | (simp; omega) | omega)).trans (by go_simp)
  have c2_0_1 : w2.cell? ⟨w.heap.size, 1, none⟩ = some (.int .i64 (m)) := (hb2.cell (p := ⟨w.heap.size, 1, none⟩) (by first | (simp; done) | (simp; omega) | omega)).trans (by go_simp)
  have c2_0_2 : w2.cell? ⟨w.heap.size, 2, none⟩ = some (.int .i64 (d)) := (hb2.cell (p := ⟨w.heap.size, 2, none⟩) (by first | (simp; done) | (simp; omega) | omega)).trans (by go_simp)
  have s2_1 : w.heap.size + 1 < w2.heap.size := Nat.lt_of_lt_of_le (by first | (simp; done) | (simp; omega) | omega) hb2.size
  have c2_1_0 : w2.cell? ⟨w.heap.size + 1, 0, none⟩ = some (.int .i64 (y')) := (hb2.cell (p := ⟨w.heap.size + 1, 0, none⟩) (by first | (simp; done) | (simp; omega) | omega)).trans (by go_simp)
  have c2_1_1 : w2.cell? ⟨w.heap.size + 1, 1, none⟩ = some (.int .i64 (m')) := (hb2.cell (p := ⟨w.heap.size + 1, 1, none⟩) (by first | (simp; done) | (simp; omega) | omega)).trans (by go_simp)
  have c2_1_2 : w2.cell? ⟨w.heap.size + 1, 2, none⟩ = some (.int .i64 (d')) := (hb2.cell (p := ⟨w.heap.size + 1, 2, none⟩) (by first | (simp; done) | (simp; omega) | omega)).trans (by go_simp)
  clear hb2 B1 c1_0_0 c1_0_1 c1_0_2 c1_1_0 c1_1_1 c1_1_2
  go_wp2_with fail
  have Bx1 : Below w.heap.size w w2 := by (focus (repeat' (first | assumption | exact Below.refl _ _ | refine Below.alloc ?_ ?_ _ | refine Below.setCell ?_ ?_ _ | refine Below.drew ?_ | refine below_drewN ?_ _ | refine Below.trans ?_ (Below.mono (by assumption) ?_) | refine Below.trans ?_ (Below.mono (BW.below _) ?_) | (simp; done) | (simp; omega) | omega)))
  have nx1 : w.heap.size ≤ w2.heap.size := Bx1.size
  have sx1_0 : w.heap.size < w2.heap.size := (by first | (simp; done) | (simp; omega) | omega)
  have cx1_0_0 : w2.cell? ⟨w.heap.size, 0, none⟩ = some (.int .i64 (y)) := by go_simp
  have cx1_0_1 : w2.cell? ⟨w.heap.size, 1, none⟩ = some (.int .i64 (m)) := by go_simp
  have cx1_0_2 : w2.cell? ⟨w.heap.size, 2, none⟩ = some (.int .i64 (d)) := by go_simp
  have sx1_1 : w.heap.size + 1 < w2.heap.size := (by first | (simp; done) | (simp; omega) | omega)
  have cx1_1_0 : w2.cell? ⟨w.heap.size + 1, 0, none⟩ = some (.int .i64 (y')) := by go_simp
  have cx1_1_1 : w2.cell? ⟨w.heap.size + 1, 1, none⟩ = some (.int .i64 (m')) := by go_simp
  have cx1_1_2 : w2.cell? ⟨w.heap.size + 1, 2, none⟩ = some (.int .i64 (d')) := by go_simp
  clear B2 c2_0_0 c2_0_1 c2_0_2 c2_1_0 c2_1_1 c2_1_2
  generalize w2 = x1 at *
  try dsimp only [List.append]
  refine wp_region_bw (by kernel_rfl) (by kernel_rfl) ?_; (repeat (go_big_quiet_step ((go_at_call 73; exact bw_same (hL _))))); refine wpQuiet_nil ?_; intro _ hw'; obtain ⟨xq, hw''⟩ := hw'; subst hw''
  have Bx2 : Below w.heap.size w xq.val := Bx1.trans (xq.below.mono nx1)
  have nx2 : w.heap.size ≤ xq.val.heap.size := Bx2.size
  have sx2_0 : w.heap.size < xq.val.heap.size := Nat.lt_of_lt_of_le (by first | (simp; done) | (simp; omega) | omega) xq.below.size
  have cx2_0_0 : xq.val.cell? ⟨w.heap.size, 0, none⟩ = some (.int .i64 (y)) := (xq.cell (w.heap.size) 0 (by first | (simp; done) | (simp; omega) | omega)).trans (by go_simp)
  have cx2_0_1 : xq.val.cell? ⟨w.heap.size, 1, none⟩ = some (.int .i64 (m)) := (xq.cell (w.heap.size) 1 (by first | (simp; done) | (simp; omega) | omega)).trans (by go_simp)
  have cx2_0_2 : xq.val.cell? ⟨w.heap.size, 2, none⟩ = some (.int .i64 (d)) := (xq.cell (w.heap.size) 2 (by first | (simp; done) | (simp; omega) | omega)).trans (by go_simp)
  clear Bx1 cx1_0_0 cx1_0_1 cx1_0_2 cx1_1_0 cx1_1_1 cx1_1_2
  generalize xq.val = x2 at *
  go_wp2_with fail
  refine wp_loop_rounds 4 ?_
  rw [rounds_succ]
  go_wp2_with fail
  refine (hA1 _).mono ?_
  rintro e w3 ⟨rfl, hb3⟩
  have B3 : Below w.heap.size w w3 := by (focus (repeat' (first | assumption | exact Below.refl _ _ | refine Below.alloc ?_ ?_ _ | refine Below.setCell ?_ ?_ _ | refine Below.drew ?_ | refine below_drewN ?_ _ | refine Below.trans ?_ (Below.mono (by assumption) ?_) | refine Below.trans ?_ (Below.mono (BW.below _) ?_) | (simp; done) | (simp; omega) | omega)))
  have n3 : w.heap.size ≤ w3.heap.size := B3.size
  have s3_0 : w.heap.size < w3.heap.size := Nat.lt_of_lt_of_le (by first | (simp; done) | (simp; omega) | omega) hb3.size
  have c3_0_0 : w3.cell? ⟨w.heap.size, 0, none⟩ = some (.int .i64 (y)) := (hb3.cell (p := ⟨w.heap.size, 0, none⟩) (by first | (simp; done) | (simp; omega) | omega)).trans (by go_simp)
  have c3_0_1 : w3.cell? ⟨w.heap.size, 1, none⟩ = some (.int .i64 (m)) := (hb3.cell (p := ⟨w.heap.size, 1, none⟩) (by first | (simp; done) | (simp; omega) | omega)).trans (by go_simp)
  have c3_0_2 : w3.cell? ⟨w.heap.size, 2, none⟩ = some (.int .i64 (d)) := (hb3.cell (p := ⟨w.heap.size, 2, none⟩) (by first | (simp; done) | (simp; omega) | omega)).trans (by go_simp)
  clear hb3 Bx2 cx2_0_0 cx2_0_1 cx2_0_2
  go_wp2_with fail
  rw [rounds_succ]
  go_wp2_with fail
  refine (hA2 _).mono ?_
  rintro e w4 ⟨rfl, hb4⟩
  have B4 : Below w.heap.size w w4 := by (focus (repeat' (first | assumption | exact Below.refl _ _ | refine Below.alloc ?_ ?_ _ | refine Below.setCell ?_ ?_ _ | refine Below.drew ?_ | refine below_drewN ?_ _ | refine Below.trans ?_ (Below.mono (by assumption) ?_) | refine Below.trans ?_ (Below.mono (BW.below _) ?_) | (simp; done) | (simp; omega) | omega)))
  have n4 : w.heap.size ≤ w4.heap.size := B4.size
  have s4_0 : w3.heap.size < w4.heap.size := Nat.lt_of_lt_of_le (by first | (simp; done) | (simp; omega) | omega) hb4.size
  have c4_0_0 : w4.cell? ⟨w3.heap.size, 0, none⟩ = some (.int .i64 (Y1)) := (hb4.cell (p := ⟨w3.heap.size, 0, none⟩) (by first | (simp; done) | (simp; omega) | omega)).trans (by go_simp)
  have c4_0_1 : w4.cell? ⟨w3.heap.size, 1, none⟩ = some (.int .i64 (M1)) := (hb4.cell (p := ⟨w3.heap.size, 1, none⟩) (by first | (simp; done) | (simp; omega) | omega)).trans (by go_simp)
  have c4_0_2 : w4.cell? ⟨w3.heap.size, 2, none⟩ = some (.int .i64 (D1)) := (hb4.cell (p := ⟨w3.heap.size, 2, none⟩) (by first | (simp; done) | (simp; omega) | omega)).trans (by go_simp)
  have f4_0_0 : w4.frozen? ⟨w3.heap.size, 0, none⟩ = false := (hb4.frozen (p := ⟨w3.heap.size, 0, none⟩) (by first | (simp; done) | (simp; omega) | omega)).trans (by go_simp)
  have f4_0_1 : w4.frozen? ⟨w3.heap.size, 1, none⟩ = false := (hb4.frozen (p := ⟨w3.heap.size, 1, none⟩) (by first | (simp; done) | (simp; omega) | omega)).trans (by go_simp)
  have f4_0_2 : w4.frozen? ⟨w3.heap.size, 2, none⟩ = false := (hb4.frozen (p := ⟨w3.heap.size, 2, none⟩) (by first | (simp; done) | (simp; omega) | omega)).trans (by go_simp)
  clear hb4 B3 c3_0_0 c3_0_1 c3_0_2
  go_wp2_with fail
  go_ret2
  exact ⟨rfl, by (focus (repeat' (first | assumption | exact Below.refl _ _ | refine Below.alloc ?_ ?_ _ | refine Below.setCell ?_ ?_ _ | refine Below.drew ?_ | refine below_drewN ?_ _ | refine Below.trans ?_ (Below.mono (by assumption) ?_) | refine Below.trans ?_ (Below.mono (BW.below _) ?_) | (simp; done) | (simp; omega) | omega)))⟩
set_option maxRecDepth 100000 in
set_option maxHeartbeats 4000000 in
theorem monthly_Between_12 (y m d y' m' d' : Int) (ky : I64 y) (ky' : I64 y') (h : rightB y m d = true) (h' : rightB y' m' d' = true) (hd : d' < d) (hl : mlen y' m' ≤ d') (h1 : addB y m d ((y' - y) * 12 + (m' - m)) = true) (h2 : addB y m d ((y' - y) * 12 + (m' - m) + 1) = true) (w : World) : Calls Try.prog 26 #[dat y m d, dat y' m' d'] w fun e w' => e = .returned (.tuple #[.int .i64 (btV y m d y' m' d'), .int .i64 (btE y m d y' m' d')]) ∧ Below w.heap.size w w' := by
  obtain ⟨b1, b2⟩ := bt_base h h' 0 (by omega)
  have hb : btB y m d y' m' d' = true := by
    rw [b2 true true (by first | exact h1 | (rw [Int.sub_zero]; exact h1)) (by first | exact h2 | (rw [Int.sub_zero]; exact h2))]
    rfl
  obtain ⟨e1, e2⟩ := bt_y hb
  rw [e1, e2, b1]
  try rw [Int.sub_zero]
  obtain ⟨ry0, ry1, rm0, rm1, rd0, rd1⟩ := (right_iff y m d).1 h
  obtain ⟨qy0, qy1, qm0, qm1, qd0, qd1⟩ := (right_iff y' m' d').1 h'
  have hR := fun w => civil_Right y m d ky w
  have hR2 := fun w => civil_Right y' m' d' ky' w
  have hL := fun w => civil_Len y' m' ky' w
  have hA1 := fun w => monthly_Add y m d ((y' - y) * 12 + (m' - m)) ky (I64.sm (by omega)) (I64.sm (by omega)) w
  have hA2 := fun w => monthly_Add y m d ((y' - y) * 12 + (m' - m) + 1) ky (I64.sm (by omega)) (I64.sm (by omega)) w
  rw [addE_v, h1] at hA1
  rw [addE_v, h2] at hA2
  rw [h] at hR
  rw [h'] at hR2
  clear h h' h1 e1 e2 b1 b2 hb rd1 qd1 h2
  generalize mlen y' m' = L at *
  have hl' : decide (d' < L) = false := by simpa using hl
  clear hl
  have i0 : ∀ w : World, (Instr.index 88 (.agg #[.int .i64 ((y' - y) * 12 + (m' - m)), .int .i64 ((y' - y) * 12 + (m' - m) + 1)]) (.int .i64 0)).run Try.prog w = .ok (.int .i64 ((y' - y) * 12 + (m' - m))) w := fun _ => by kernel_rfl
  have i1 : ∀ w : World, (Instr.index 88 (.agg #[.int .i64 ((y' - y) * 12 + (m' - m)), .int .i64 ((y' - y) * 12 + (m' - m) + 1)]) (.int .i64 1)).run Try.prog w = .ok (.int .i64 ((y' - y) * 12 + (m' - m) + 1)) w := fun _ => by kernel_rfl
  generalize addY y m d ((y' - y) * 12 + (m' - m)) = Y1 at *
  generalize addM y m d ((y' - y) * 12 + (m' - m)) = M1 at *
  generalize addD y m d ((y' - y) * 12 + (m' - m)) = D1 at *
  generalize addY y m d ((y' - y) * 12 + (m' - m) + 1) = Y2 at *
  generalize addM y m d ((y' - y) * 12 + (m' - m) + 1) = M2 at *
  generalize addD y m d ((y' - y) * 12 + (m' - m) + 1) = D2 at *
  go_enter Try.func26, Try.ntmps26
  go_wp2_with fail
  refine (hR _).mono ?_
  rintro e w1 ⟨rfl, hb1⟩
  have B1 : Below w.heap.size w w1 := by (focus (repeat' (first | assumption | exact Below.refl _ _ | refine Below.alloc ?_ ?_ _ | refine Below.setCell ?_ ?_ _ | refine Below.drew ?_ | refine below_drewN ?_ _ | refine Below.trans ?_ (Below.mono (by assumption) ?_) | refine Below.trans ?_ (Below.mono (BW.below _) ?_) | (simp; done) | (simp; omega) | omega)))
  have n1 : w.heap.size ≤ w1.heap.size := B1.size
  have s1_0 : w.heap.size < w1.heap.size := Nat.lt_of_lt_of_le (by first | (simp; done) | (simp; omega) | omega) hb1.size
  have c1_0_0 : w1.cell? ⟨w.heap.size, 0, none⟩ = some (.int .i64 (y)) := (hb1.cell (p := ⟨w.heap.size, 0, none⟩) (by first | (simp; done) | (simp; omega) | omega)).trans (by go_simp)
  have c1_0_1 : w1.cell? ⟨w.heap.size, 1, none⟩ = some (.int .i64 (m)) := (hb1.cell (p := ⟨w.heap.size, 1, none⟩) (by first | (simp; done) | (simp; omega) | omega)).trans (by go_simp)
  have c1_0_2 : w1.cell? ⟨w.heap.size, 2, none⟩ = some (.int .i64 (d)) := (hb1.cell (p := ⟨w.heap.size, 2, none⟩) (by first | (simp; done) | (simp; omega) | omega)).trans (by go_simp)
  have s1_1 : w.heap.size + 1 < w1.heap.size := Nat.lt_of_lt_of_le (by first | (simp; done) | (simp; omega) | omega) hb1.size
  have c1_1_0 : w1.cell? ⟨w.heap.size + 1, 0, none⟩ = some (.int .i64 (y')) := (hb1.cell (p := ⟨w.heap.size + 1, 0, none⟩) (by first | (simp; done) | (simp; omega) | omega)).trans (by go_simp)
  have c1_1_1 : w1.cell? ⟨w.heap.size + 1, 1, none⟩ = some (.int .i64 (m')) := (hb1.cell (p := ⟨w.heap.size + 1, 1, none⟩) (by first | (simp; done) | (simp; omega) | omega)).trans (by go_simp)
  have c1_1_2 : w1.cell? ⟨w.heap.size + 1, 2, none⟩ = some (.int .i64 (d')) := (hb1.cell (p := ⟨w.heap.size + 1, 2, none⟩) (by first | (simp; done) | (simp; omega) | omega)).trans (by go_simp)
  clear hb1
  go_wp2_with fail
  refine (hR2 _).mono ?_
  rintro e w2 ⟨rfl, hb2⟩
  have B2 : Below w.heap.size w w2 := by (focus (repeat' (first | assumption | exact Below.refl _ _ | refine Below.alloc ?_ ?_ _ | refine Below.setCell ?_ ?_ _ | refine Below.drew ?_ | refine below_drewN ?_ _ | refine Below.trans ?_ (Below.mono (by assumption) ?_) | refine Below.trans ?_ (Below.mono (BW.below _) ?_) | (simp; done) | (simp; omega) | omega)))
  have n2 : w.heap.size ≤ w2.heap.size := B2.size
  have s2_0 : w.heap.size < w2.heap.size := Nat.lt_of_lt_of_le (by first | (simp; done) | (simp; omega) | omega) hb2.size
  have c2_0_0 : w2.cell? ⟨w.heap.size, 0, none⟩ = some (.int .i64 (y)) := (hb2.cell (p := ⟨w.heap.size, 0, none⟩) (by first | (simp; done) | (simp; omega) | omega)).trans (by go_simp)
  have c2_0_1 : w2.cell? ⟨w.heap.size, 1, none⟩ = some (.int .i64 (m)) := (hb2.cell (p := ⟨w.heap.size, 1, none⟩) (by first | (simp; done) | (simp; omega) | omega)).trans (by go_simp)
  have c2_0_2 : w2.cell? ⟨w.heap.size, 2, none⟩ = some (.int .i64 (d)) := (hb2.cell (p := ⟨w.heap.size, 2, none⟩) (by first | (simp; done) | (simp; omega) | omega)).trans (by go_simp)
  have s2_1 : w.heap.size + 1 < w2.heap.size := Nat.lt_of_lt_of_le (by first | (simp; done) | (simp; omega) | omega) hb2.size
  have c2_1_0 : w2.cell? ⟨w.heap.size + 1, 0, none⟩ = some (.int .i64 (y')) := (hb2.cell (p := ⟨w.heap.size + 1, 0, none⟩) (by first | (simp; done) | (simp; omega) | omega)).trans (by go_simp)
  have c2_1_1 : w2.cell? ⟨w.heap.size + 1, 1, none⟩ = some (.int .i64 (m')) := (hb2.cell (p := ⟨w.heap.size + 1, 1, none⟩) (by first | (simp; done) | (simp; omega) | omega)).trans (by go_simp)
  have c2_1_2 : w2.cell? ⟨w.heap.size + 1, 2, none⟩ = some (.int .i64 (d')) := (hb2.cell (p := ⟨w.heap.size + 1, 2, none⟩) (by first | (simp; done) | (simp; omega) | omega)).trans (by go_simp)
  clear hb2 B1 c1_0_0 c1_0_1 c1_0_2 c1_1_0 c1_1_1 c1_1_2
  go_wp2_with fail
  have Bx1 : Below w.heap.size w w2 := by (focus (repeat' (first | assumption | exact Below.refl _ _ | refine Below.alloc ?_ ?_ _ | refine Below.setCell ?_ ?_ _ | refine Below.drew ?_ | refine below_drewN ?_ _ | refine Below.trans ?_ (Below.mono (by assumption) ?_) | refine Below.trans ?_ (Below.mono (BW.below _) ?_) | (simp; done) | (simp; omega) | omega)))
  have nx1 : w.heap.size ≤ w2.heap.size := Bx1.size
  have sx1_0 : w.heap.size < w2.heap.size := (by first | (simp; done) | (simp; omega) | omega)
  have cx1_0_0 : w2.cell? ⟨w.heap.size, 0, none⟩ = some (.int .i64 (y)) := by go_simp
  have cx1_0_1 : w2.cell? ⟨w.heap.size, 1, none⟩ = some (.int .i64 (m)) := by go_simp
  have cx1_0_2 : w2.cell? ⟨w.heap.size, 2, none⟩ = some (.int .i64 (d)) := by go_simp
  have sx1_1 : w.heap.size + 1 < w2.heap.size := (by first | (simp; done) | (simp; omega) | omega)
  have cx1_1_0 : w2.cell? ⟨w.heap.size + 1, 0, none⟩ = some (.int .i64 (y')) := by go_simp
  have cx1_1_1 : w2.cell? ⟨w.heap.size + 1, 1, none⟩ = some (.int .i64 (m')) := by go_simp
  have cx1_1_2 : w2.cell? ⟨w.heap.size + 1, 2, none⟩ = some (.int .i64 (d')) := by go_simp
  clear B2 c2_0_0 c2_0_1 c2_0_2 c2_1_0 c2_1_1 c2_1_2
  generalize w2 = x1 at *
  try dsimp only [List.append]
  refine wp_region_bw (by kernel_rfl) (by kernel_rfl) ?_; (repeat (go_big_quiet_step ((go_at_call 73; exact bw_same (hL _))))); refine wpQuiet_nil ?_; intro _ hw'; obtain ⟨xq, hw''⟩ := hw'; subst hw''
  have Bx2 : Below w.heap.size w xq.val := Bx1.trans (xq.below.mono nx1)
  have nx2 : w.heap.size ≤ xq.val.heap.size := Bx2.size
  have sx2_0 : w.heap.size < xq.val.heap.size := Nat.lt_of_lt_of_le (by first | (simp; done) | (simp; omega) | omega) xq.below.size
  have cx2_0_0 : xq.val.cell? ⟨w.heap.size, 0, none⟩ = some (.int .i64 (y)) := (xq.cell (w.heap.size) 0 (by first | (simp; done) | (simp; omega) | omega)).trans (by go_simp)
  have cx2_0_1 : xq.val.cell? ⟨w.heap.size, 1, none⟩ = some (.int .i64 (m)) := (xq.cell (w.heap.size) 1 (by first | (simp; done) | (simp; omega) | omega)).trans (by go_simp)
  have cx2_0_2 : xq.val.cell? ⟨w.heap.size, 2, none⟩ = some (.int .i64 (d)) := (xq.cell (w.heap.size) 2 (by first | (simp; done) | (simp; omega) | omega)).trans (by go_simp)
  clear Bx1 cx1_0_0 cx1_0_1 cx1_0_2 cx1_1_0 cx1_1_1 cx1_1_2
  generalize xq.val = x2 at *
  go_wp2_with fail
  refine wp_loop_rounds 4 ?_
  rw [rounds_succ]
  go_wp2_with fail
  refine (hA1 _).mono ?_
  rintro e w3 ⟨rfl, hb3⟩
  have B3 : Below w.heap.size w w3 := by (focus (repeat' (first | assumption | exact Below.refl _ _ | refine Below.alloc ?_ ?_ _ | refine Below.setCell ?_ ?_ _ | refine Below.drew ?_ | refine below_drewN ?_ _ | refine Below.trans ?_ (Below.mono (by assumption) ?_) | refine Below.trans ?_ (Below.mono (BW.below _) ?_) | (simp; done) | (simp; omega) | omega)))
  have n3 : w.heap.size ≤ w3.heap.size := B3.size
  have s3_0 : w.heap.size < w3.heap.size := Nat.lt_of_lt_of_le (by first | (simp; done) | (simp; omega) | omega) hb3.size
  have c3_0_0 : w3.cell? ⟨w.heap.size, 0, none⟩ = some (.int .i64 (y)) := (hb3.cell (p := ⟨w.heap.size, 0, none⟩) (by first | (simp; done) | (simp; omega) | omega)).trans (by go_simp)
  have c3_0_1 : w3.cell? ⟨w.heap.size, 1, none⟩ = some (.int .i64 (m)) := (hb3.cell (p := ⟨w.heap.size, 1, none⟩) (by first | (simp; done) | (simp; omega) | omega)).trans (by go_simp)
  have c3_0_2 : w3.cell? ⟨w.heap.size, 2, none⟩ = some (.int .i64 (d)) := (hb3.cell (p := ⟨w.heap.size, 2, none⟩) (by first | (simp; done) | (simp; omega) | omega)).trans (by go_simp)
  clear hb3 Bx2 cx2_0_0 cx2_0_1 cx2_0_2
  go_wp2_with fail
  rw [rounds_succ]
  go_wp2_with fail
  refine (hA2 _).mono ?_
  rintro e w4 ⟨rfl, hb4⟩
  have B4 : Below w.heap.size w w4 := by (focus (repeat' (first | assumption | exact Below.refl _ _ | refine Below.alloc ?_ ?_ _ | refine Below.setCell ?_ ?_ _ | refine Below.drew ?_ | refine below_drewN ?_ _ | refine Below.trans ?_ (Below.mono (by assumption) ?_) | refine Below.trans ?_ (Below.mono (BW.below _) ?_) | (simp; done) | (simp; omega) | omega)))
  have n4 : w.heap.size ≤ w4.heap.size := B4.size
  have s4_0 : w3.heap.size < w4.heap.size := Nat.lt_of_lt_of_le (by first | (simp; done) | (simp; omega) | omega) hb4.size
  have c4_0_0 : w4.cell? ⟨w3.heap.size, 0, none⟩ = some (.int .i64 (Y1)) := (hb4.cell (p := ⟨w3.heap.size, 0, none⟩) (by first | (simp; done) | (simp; omega) | omega)).trans (by go_simp)
  have c4_0_1 : w4.cell? ⟨w3.heap.size, 1, none⟩ = some (.int .i64 (M1)) := (hb4.cell (p := ⟨w3.heap.size, 1, none⟩) (by first | (simp; done) | (simp; omega) | omega)).trans (by go_simp)
  have c4_0_2 : w4.cell? ⟨w3.heap.size, 2, none⟩ = some (.int .i64 (D1)) := (hb4.cell (p := ⟨w3.heap.size, 2, none⟩) (by first | (simp; done) | (simp; omega) | omega)).trans (by go_simp)
  have f4_0_0 : w4.frozen? ⟨w3.heap.size, 0, none⟩ = false := (hb4.frozen (p := ⟨w3.heap.size, 0, none⟩) (by first | (simp; done) | (simp; omega) | omega)).trans (by go_simp)
  have f4_0_1 : w4.frozen? ⟨w3.heap.size, 1, none⟩ = false := (hb4.frozen (p := ⟨w3.heap.size, 1, none⟩) (by first | (simp; done) | (simp; omega) | omega)).trans (by go_simp)
  have f4_0_2 : w4.frozen? ⟨w3.heap.size, 2, none⟩ = false := (hb4.frozen (p := ⟨w3.heap.size, 2, none⟩) (by first | (simp; done) | (simp; omega) | omega)).trans (by go_simp)
  clear hb4 B3 c3_0_0 c3_0_1 c3_0_2
  go_wp2_with fail
  rw [rounds_succ]
  go_wp2_with fail
  go_ret2
  exact ⟨rfl, by (focus (repeat' (first | assumption | exact Below.refl _ _ | refine Below.alloc ?_ ?_ _ | refine Below.setCell ?_ ?_ _ | refine Below.drew ?_ | refine below_drewN ?_ _ | refine Below.trans ?_ (Below.mono (by assumption) ?_) | refine Below.trans ?_ (Below.mono (BW.below _) ?_) | (simp; done) | (simp; omega) | omega)))⟩
set_option maxRecDepth 100000 in
set_option maxHeartbeats 4000000 in
theorem monthly_Between_20 (y m d y' m' d' : Int) (ky : I64 y) (ky' : I64 y') (h : rightB y m d = true) (h' : rightB y' m' d' = true) (hd : d' < d) (hl : d' < mlen y' m') (h1 : addB y m d ((y' - y) * 12 + (m' - m) - 1) = false) (w : World) : Calls Try.prog 26 #[dat y m d, dat y' m' d'] w fun e w' => e = .returned (.tuple #[.int .i64 (btV y m d y' m' d'), .int .i64 (btE y m d y' m' d')]) ∧ Below w.heap.size w w' := by
  obtain ⟨b1, b2⟩ := bt_base h h' 1 (by omega)
  have hb : btB y m d y' m' d' = false := by
    rw [b2 false _ (by first | exact h1 | (rw [Int.sub_zero]; exact h1)) rfl]
    rfl
  obtain ⟨e1, e2⟩ := bt_n hb
  rw [e1, e2]
  obtain ⟨ry0, ry1, rm0, rm1, rd0, rd1⟩ := (right_iff y m d).1 h
  obtain ⟨qy0, qy1, qm0, qm1, qd0, qd1⟩ := (right_iff y' m' d').1 h'
  have hR := fun w => civil_Right y m d ky w
  have hR2 := fun w => civil_Right y' m' d' ky' w
  have hL := fun w => civil_Len y' m' ky' w
  have hA1 := fun w => monthly_Add y m d ((y' - y) * 12 + (m' - m) - 1) ky (I64.sm (by omega)) (I64.sm (by omega)) w
  have hA2 := fun w => monthly_Add y m d ((y' - y) * 12 + (m' - m) - 1 + 1) ky (I64.sm (by omega)) (I64.sm (by omega)) w
  rw [addE_v, h1] at hA1
  rw [h] at hR
  rw [h'] at hR2
  clear h h' h1 e1 e2 b1 b2 hb rd1 qd1
  generalize mlen y' m' = L at *
  have i0 : ∀ w : World, (Instr.index 88 (.agg #[.int .i64 ((y' - y) * 12 + (m' - m) - 1), .int .i64 ((y' - y) * 12 + (m' - m))]) (.int .i64 0)).run Try.prog w = .ok (.int .i64 ((y' - y) * 12 + (m' - m) - 1)) w := fun _ => by kernel_rfl
  have i1 : ∀ w : World, (Instr.index 88 (.agg #[.int .i64 ((y' - y) * 12 + (m' - m) - 1), .int .i64 ((y' - y) * 12 + (m' - m))]) (.int .i64 1)).run Try.prog w = .ok (.int .i64 ((y' - y) * 12 + (m' - m))) w := fun _ => by kernel_rfl
  rw [Int.sub_add_cancel] at hA2
  generalize addY y m d ((y' - y) * 12 + (m' - m) - 1) = Y1 at *
  generalize addM y m d ((y' - y) * 12 + (m' - m) - 1) = M1 at *
  generalize addD y m d ((y' - y) * 12 + (m' - m) - 1) = D1 at *
  clear hA2
  go_enter Try.func26, Try.ntmps26
  go_wp2_with fail
  refine (hR _).mono ?_
  rintro e w1 ⟨rfl, hb1⟩
  have B1 : Below w.heap.size w w1 := by (focus (repeat' (first | assumption | exact Below.refl _ _ | refine Below.alloc ?_ ?_ _ | refine Below.setCell ?_ ?_ _ | refine Below.drew ?_ | refine below_drewN ?_ _ | refine Below.trans ?_ (Below.mono (by assumption) ?_) | refine Below.trans ?_ (Below.mono (BW.below _) ?_) | (simp; done) | (simp; omega) | omega)))
  have n1 : w.heap.size ≤ w1.heap.size := B1.size
  have s1_0 : w.heap.size < w1.heap.size := Nat.lt_of_lt_of_le (by first | (simp; done) | (simp; omega) | omega) hb1.size
  have c1_0_0 : w1.cell? ⟨w.heap.size, 0, none⟩ = some (.int .i64 (y)) := (hb1.cell (p := ⟨w.heap.size, 0, none⟩) (by first | (simp; done) | (simp; omega) | omega)).trans (by go_simp)
  have c1_0_1 : w1.cell? ⟨w.heap.size, 1, none⟩ = some (.int .i64 (m)) := (hb1.cell (p := ⟨w.heap.size, 1, none⟩) (by first | (simp; done) | (simp; omega) | omega)).trans (by go_simp)
  have c1_0_2 : w1.cell? ⟨w.heap.size, 2, none⟩ = some (.int .i64 (d)) := (hb1.cell (p := ⟨w.heap.size, 2, none⟩) (by first | (simp; done) | (simp; omega) | omega)).trans (by go_simp)
  have s1_1 : w.heap.size + 1 < w1.heap.size := Nat.lt_of_lt_of_le (by first | (simp; done) | (simp; omega) | omega) hb1.size
  have c1_1_0 : w1.cell? ⟨w.heap.size + 1, 0, none⟩ = some (.int .i64 (y')) := (hb1.cell (p := ⟨w.heap.size + 1, 0, none⟩) (by first | (simp; done) | (simp; omega) | omega)).trans (by go_simp)
  have c1_1_1 : w1.cell? ⟨w.heap.size + 1, 1, none⟩ = some (.int .i64 (m')) := (hb1.cell (p := ⟨w.heap.size + 1, 1, none⟩) (by first | (simp; done) | (simp; omega) | omega)).trans (by go_simp)
  have c1_1_2 : w1.cell? ⟨w.heap.size + 1, 2, none⟩ = some (.int .i64 (d')) := (hb1.cell (p := ⟨w.heap.size + 1, 2, none⟩) (by first | (simp; done) | (simp; omega) | omega)).trans (by go_simp)
  clear hb1
  go_wp2_with fail
  refine (hR2 _).mono ?_
  rintro e w2 ⟨rfl, hb2⟩
  have B2 : Below w.heap.size w w2 := by (focus (repeat' (first | assumption | exact Below.refl _ _ | refine Below.alloc ?_ ?_ _ | refine Below.setCell ?_ ?_ _ | refine Below.drew ?_ | refine below_drewN ?_ _ | refine Below.trans ?_ (Below.mono (by assumption) ?_) | refine Below.trans ?_ (Below.mono (BW.below _) ?_) | (simp; done) | (simp; omega) | omega)))
  have n2 : w.heap.size ≤ w2.heap.size := B2.size
  have s2_0 : w.heap.size < w2.heap.size := Nat.lt_of_lt_of_le (by first | (simp; done) | (simp; omega) | omega) hb2.size
  have c2_0_0 : w2.cell? ⟨w.heap.size, 0, none⟩ = some (.int .i64 (y)) := (hb2.cell (p := ⟨w.heap.size, 0, none⟩) (by first | (simp; done) | (simp; omega) | omega)).trans (by go_simp)
  have c2_0_1 : w2.cell? ⟨w.heap.size, 1, none⟩ = some (.int .i64 (m)) := (hb2.cell (p := ⟨w.heap.size, 1, none⟩) (by first | (simp; done) | (simp; omega) | omega)).trans (by go_simp)
  have c2_0_2 : w2.cell? ⟨w.heap.size, 2, none⟩ = some (.int .i64 (d)) := (hb2.cell (p := ⟨w.heap.size, 2, none⟩) (by first | (simp; done) | (simp; omega) | omega)).trans (by go_simp)
  have s2_1 : w.heap.size + 1 < w2.heap.size := Nat.lt_of_lt_of_le (by first | (simp; done) | (simp; omega) | omega) hb2.size
  have c2_1_0 : w2.cell? ⟨w.heap.size + 1, 0, none⟩ = some (.int .i64 (y')) := (hb2.cell (p := ⟨w.heap.size + 1, 0, none⟩) (by first | (simp; done) | (simp; omega) | omega)).trans (by go_simp)
  have c2_1_1 : w2.cell? ⟨w.heap.size + 1, 1, none⟩ = some (.int .i64 (m')) := (hb2.cell (p := ⟨w.heap.size + 1, 1, none⟩) (by first | (simp; done) | (simp; omega) | omega)).trans (by go_simp)
  have c2_1_2 : w2.cell? ⟨w.heap.size + 1, 2, none⟩ = some (.int .i64 (d')) := (hb2.cell (p := ⟨w.heap.size + 1, 2, none⟩) (by first | (simp; done) | (simp; omega) | omega)).trans (by go_simp)
  clear hb2 B1 c1_0_0 c1_0_1 c1_0_2 c1_1_0 c1_1_1 c1_1_2
  go_wp2_with fail
  have Bx1 : Below w.heap.size w w2 := by (focus (repeat' (first | assumption | exact Below.refl _ _ | refine Below.alloc ?_ ?_ _ | refine Below.setCell ?_ ?_ _ | refine Below.drew ?_ | refine below_drewN ?_ _ | refine Below.trans ?_ (Below.mono (by assumption) ?_) | refine Below.trans ?_ (Below.mono (BW.below _) ?_) | (simp; done) | (simp; omega) | omega)))
  have nx1 : w.heap.size ≤ w2.heap.size := Bx1.size
  have sx1_0 : w.heap.size < w2.heap.size := (by first | (simp; done) | (simp; omega) | omega)
  have cx1_0_0 : w2.cell? ⟨w.heap.size, 0, none⟩ = some (.int .i64 (y)) := by go_simp
  have cx1_0_1 : w2.cell? ⟨w.heap.size, 1, none⟩ = some (.int .i64 (m)) := by go_simp
  have cx1_0_2 : w2.cell? ⟨w.heap.size, 2, none⟩ = some (.int .i64 (d)) := by go_simp
  have sx1_1 : w.heap.size + 1 < w2.heap.size := (by first | (simp; done) | (simp; omega) | omega)
  have cx1_1_0 : w2.cell? ⟨w.heap.size + 1, 0, none⟩ = some (.int .i64 (y')) := by go_simp
  have cx1_1_1 : w2.cell? ⟨w.heap.size + 1, 1, none⟩ = some (.int .i64 (m')) := by go_simp
  have cx1_1_2 : w2.cell? ⟨w.heap.size + 1, 2, none⟩ = some (.int .i64 (d')) := by go_simp
  clear B2 c2_0_0 c2_0_1 c2_0_2 c2_1_0 c2_1_1 c2_1_2
  generalize w2 = x1 at *
  try dsimp only [List.append]
  refine wp_region_bw (by kernel_rfl) (by kernel_rfl) ?_; (repeat (go_big_quiet_step ((go_at_call 73; exact bw_same (hL _))))); refine wpQuiet_nil ?_; intro _ hw'; obtain ⟨xq, hw''⟩ := hw'; subst hw''
  have Bx2 : Below w.heap.size w xq.val := Bx1.trans (xq.below.mono nx1)
  have nx2 : w.heap.size ≤ xq.val.heap.size := Bx2.size
  have sx2_0 : w.heap.size < xq.val.heap.size := Nat.lt_of_lt_of_le (by first | (simp; done) | (simp; omega) | omega) xq.below.size
  have cx2_0_0 : xq.val.cell? ⟨w.heap.size, 0, none⟩ = some (.int .i64 (y)) := (xq.cell (w.heap.size) 0 (by first | (simp; done) | (simp; omega) | omega)).trans (by go_simp)
  have cx2_0_1 : xq.val.cell? ⟨w.heap.size, 1, none⟩ = some (.int .i64 (m)) := (xq.cell (w.heap.size) 1 (by first | (simp; done) | (simp; omega) | omega)).trans (by go_simp)
  have cx2_0_2 : xq.val.cell? ⟨w.heap.size, 2, none⟩ = some (.int .i64 (d)) := (xq.cell (w.heap.size) 2 (by first | (simp; done) | (simp; omega) | omega)).trans (by go_simp)
  clear Bx1 cx1_0_0 cx1_0_1 cx1_0_2 cx1_1_0 cx1_1_1 cx1_1_2
  generalize xq.val = x2 at *
  go_wp2_with fail
  refine wp_loop_rounds 4 ?_
  rw [rounds_succ]
  go_wp2_with fail
  refine (hA1 _).mono ?_
  rintro e w3 ⟨rfl, hb3⟩
  have B3 : Below w.heap.size w w3 := by (focus (repeat' (first | assumption | exact Below.refl _ _ | refine Below.alloc ?_ ?_ _ | refine Below.setCell ?_ ?_ _ | refine Below.drew ?_ | refine below_drewN ?_ _ | refine Below.trans ?_ (Below.mono (by assumption) ?_) | refine Below.trans ?_ (Below.mono (BW.below _) ?_) | (simp; done) | (simp; omega) | omega)))
  have n3 : w.heap.size ≤ w3.heap.size := B3.size
  clear hb3 Bx2 cx2_0_0 cx2_0_1 cx2_0_2
  go_wp2_with fail
  go_ret2
  exact ⟨rfl, by (focus (repeat' (first | assumption | exact Below.refl _ _ | refine Below.alloc ?_ ?_ _ | refine Below.setCell ?_ ?_ _ | refine Below.drew ?_ | refine below_drewN ?_ _ | refine Below.trans ?_ (Below.mono (by assumption) ?_) | refine Below.trans ?_ (Below.mono (BW.below _) ?_) | (simp; done) | (simp; omega) | omega)))⟩
set_option maxRecDepth 100000 in
set_option maxHeartbeats 4000000 in
theorem monthly_Between_21 (y m d y' m' d' : Int) (ky : I64 y) (ky' : I64 y') (h : rightB y m d = true) (h' : rightB y' m' d' = true) (hd : d' < d) (hl : d' < mlen y' m') (h1 : addB y m d ((y' - y) * 12 + (m' - m) - 1) = true) (h2 : addB y m d ((y' - y) * 12 + (m' - m) - 1 + 1) = false) (w : World) : Calls Try.prog 26 #[dat y m d, dat y' m' d'] w fun e w' => e = .returned (.tuple #[.int .i64 (btV y m d y' m' d'), .int .i64 (btE y m d y' m' d')]) ∧ Below w.heap.size w w' := by
  obtain ⟨b1, b2⟩ := bt_base h h' 1 (by omega)
  have hb : btB y m d y' m' d' = false := by
    rw [b2 true false (by first | exact h1 | (rw [Int.sub_zero]; exact h1)) (by first | exact h2 | (rw [Int.sub_zero]; exact h2))]
    rfl
  obtain ⟨e1, e2⟩ := bt_n hb
  rw [e1, e2]
  obtain ⟨ry0, ry1, rm0, rm1, rd0, rd1⟩ := (right_iff y m d).1 h
  obtain ⟨qy0, qy1, qm0, qm1, qd0, qd1⟩ := (right_iff y' m' d').1 h'
  have hR := fun w => civil_Right y m d ky w
  have hR2 := fun w => civil_Right y' m' d' ky' w
  have hL := fun w => civil_Len y' m' ky' w
  have hA1 := fun w => monthly_Add y m d ((y' - y) * 12 + (m' - m) - 1) ky (I64.sm (by omega)) (I64.sm (by omega)) w
  have hA2 := fun w => monthly_Add y m d ((y' - y) * 12 + (m' - m) - 1 + 1) ky (I64.sm (by omega)) (I64.sm (by omega)) w
  rw [addE_v, h1] at hA1
  rw [addE_v, h2] at hA2
  rw [h] at hR
  rw [h'] at hR2
  clear h h' h1 e1 e2 b1 b2 hb rd1 qd1 h2
  generalize mlen y' m' = L at *
  have i0 : ∀ w : World, (Instr.index 88 (.agg #[.int .i64 ((y' - y) * 12 + (m' - m) - 1), .int .i64 ((y' - y) * 12 + (m' - m))]) (.int .i64 0)).run Try.prog w = .ok (.int .i64 ((y' - y) * 12 + (m' - m) - 1)) w := fun _ => by kernel_rfl
  have i1 : ∀ w : World, (Instr.index 88 (.agg #[.int .i64 ((y' - y) * 12 + (m' - m) - 1), .int .i64 ((y' - y) * 12 + (m' - m))]) (.int .i64 1)).run Try.prog w = .ok (.int .i64 ((y' - y) * 12 + (m' - m))) w := fun _ => by kernel_rfl
  rw [Int.sub_add_cancel] at hA2
  generalize addY y m d ((y' - y) * 12 + (m' - m) - 1) = Y1 at *
  generalize addM y m d ((y' - y) * 12 + (m' - m) - 1) = M1 at *
  generalize addD y m d ((y' - y) * 12 + (m' - m) - 1) = D1 at *
  generalize addY y m d ((y' - y) * 12 + (m' - m)) = Y2 at *
  generalize addM y m d ((y' - y) * 12 + (m' - m)) = M2 at *
  generalize addD y m d ((y' - y) * 12 + (m' - m)) = D2 at *
  go_enter Try.func26, Try.ntmps26
  go_wp2_with fail
  refine (hR _).mono ?_
  rintro e w1 ⟨rfl, hb1⟩
  have B1 : Below w.heap.size w w1 := by (focus (repeat' (first | assumption | exact Below.refl _ _ | refine Below.alloc ?_ ?_ _ | refine Below.setCell ?_ ?_ _ | refine Below.drew ?_ | refine below_drewN ?_ _ | refine Below.trans ?_ (Below.mono (by assumption) ?_) | refine Below.trans ?_ (Below.mono (BW.below _) ?_) | (simp; done) | (simp; omega) | omega)))
  have n1 : w.heap.size ≤ w1.heap.size := B1.size
  have s1_0 : w.heap.size < w1.heap.size := Nat.lt_of_lt_of_le (by first | (simp; done) | (simp; omega) | omega) hb1.size
  have c1_0_0 : w1.cell? ⟨w.heap.size, 0, none⟩ = some (.int .i64 (y)) := (hb1.cell (p := ⟨w.heap.size, 0, none⟩) (by first | (simp; done) | (simp; omega) | omega)).trans (by go_simp)
  have c1_0_1 : w1.cell? ⟨w.heap.size, 1, none⟩ = some (.int .i64 (m)) := (hb1.cell (p := ⟨w.heap.size, 1, none⟩) (by first | (simp; done) | (simp; omega) | omega)).trans (by go_simp)
  have c1_0_2 : w1.cell? ⟨w.heap.size, 2, none⟩ = some (.int .i64 (d)) := (hb1.cell (p := ⟨w.heap.size, 2, none⟩) (by first | (simp; done) | (simp; omega) | omega)).trans (by go_simp)
  have s1_1 : w.heap.size + 1 < w1.heap.size := Nat.lt_of_lt_of_le (by first | (simp; done) | (simp; omega) | omega) hb1.size
  have c1_1_0 : w1.cell? ⟨w.heap.size + 1, 0, none⟩ = some (.int .i64 (y')) := (hb1.cell (p := ⟨w.heap.size + 1, 0, none⟩) (by first | (simp; done) | (simp; omega) | omega)).trans (by go_simp)
  have c1_1_1 : w1.cell? ⟨w.heap.size + 1, 1, none⟩ = some (.int .i64 (m')) := (hb1.cell (p := ⟨w.heap.size + 1, 1, none⟩) (by first | (simp; done) | (simp; omega) | omega)).trans (by go_simp)
  have c1_1_2 : w1.cell? ⟨w.heap.size + 1, 2, none⟩ = some (.int .i64 (d')) := (hb1.cell (p := ⟨w.heap.size + 1, 2, none⟩) (by first | (simp; done) | (simp; omega) | omega)).trans (by go_simp)
  clear hb1
  go_wp2_with fail
  refine (hR2 _).mono ?_
  rintro e w2 ⟨rfl, hb2⟩
  have B2 : Below w.heap.size w w2 := by (focus (repeat' (first | assumption | exact Below.refl _ _ | refine Below.alloc ?_ ?_ _ | refine Below.setCell ?_ ?_ _ | refine Below.drew ?_ | refine below_drewN ?_ _ | refine Below.trans ?_ (Below.mono (by assumption) ?_) | refine Below.trans ?_ (Below.mono (BW.below _) ?_) | (simp; done) | (simp; omega) | omega)))
  have n2 : w.heap.size ≤ w2.heap.size := B2.size
  have s2_0 : w.heap.size < w2.heap.size := Nat.lt_of_lt_of_le (by first | (simp; done) | (simp; omega) | omega) hb2.size
  have c2_0_0 : w2.cell? ⟨w.heap.size, 0, none⟩ = some (.int .i64 (y)) := (hb2.cell (p := ⟨w.heap.size, 0, none⟩) (by first | (simp; done) | (simp; omega) | omega)).trans (by go_simp)
  have c2_0_1 : w2.cell? ⟨w.heap.size, 1, none⟩ = some (.int .i64 (m)) := (hb2.cell (p := ⟨w.heap.size, 1, none⟩) (by first | (simp; done) | (simp; omega) | omega)).trans (by go_simp)
  have c2_0_2 : w2.cell? ⟨w.heap.size, 2, none⟩ = some (.int .i64 (d)) := (hb2.cell (p := ⟨w.heap.size, 2, none⟩) (by first | (simp; done) | (simp; omega) | omega)).trans (by go_simp)
  have s2_1 : w.heap.size + 1 < w2.heap.size := Nat.lt_of_lt_of_le (by first | (simp; done) | (simp; omega) | omega) hb2.size
  have c2_1_0 : w2.cell? ⟨w.heap.size + 1, 0, none⟩ = some (.int .i64 (y')) := (hb2.cell (p := ⟨w.heap.size + 1, 0, none⟩) (by first | (simp; done) | (simp; omega) | omega)).trans (by go_simp)
  have c2_1_1 : w2.cell? ⟨w.heap.size + 1, 1, none⟩ = some (.int .i64 (m')) := (hb2.cell (p := ⟨w.heap.size + 1, 1, none⟩) (by first | (simp; done) | (simp; omega) | omega)).trans (by go_simp)
  have c2_1_2 : w2.cell? ⟨w.heap.size + 1, 2, none⟩ = some (.int .i64 (d')) := (hb2.cell (p := ⟨w.heap.size + 1, 2, none⟩) (by first | (simp; done) | (simp; omega) | omega)).trans (by go_simp)
  clear hb2 B1 c1_0_0 c1_0_1 c1_0_2 c1_1_0 c1_1_1 c1_1_2
  go_wp2_with fail
  have Bx1 : Below w.heap.size w w2 := by (focus (repeat' (first | assumption | exact Below.refl _ _ | refine Below.alloc ?_ ?_ _ | refine Below.setCell ?_ ?_ _ | refine Below.drew ?_ | refine below_drewN ?_ _ | refine Below.trans ?_ (Below.mono (by assumption) ?_) | refine Below.trans ?_ (Below.mono (BW.below _) ?_) | (simp; done) | (simp; omega) | omega)))
  have nx1 : w.heap.size ≤ w2.heap.size := Bx1.size
  have sx1_0 : w.heap.size < w2.heap.size := (by first | (simp; done) | (simp; omega) | omega)
  have cx1_0_0 : w2.cell? ⟨w.heap.size, 0, none⟩ = some (.int .i64 (y)) := by go_simp
  have cx1_0_1 : w2.cell? ⟨w.heap.size, 1, none⟩ = some (.int .i64 (m)) := by go_simp
  have cx1_0_2 : w2.cell? ⟨w.heap.size, 2, none⟩ = some (.int .i64 (d)) := by go_simp
  have sx1_1 : w.heap.size + 1 < w2.heap.size := (by first | (simp; done) | (simp; omega) | omega)
  have cx1_1_0 : w2.cell? ⟨w.heap.size + 1, 0, none⟩ = some (.int .i64 (y')) := by go_simp
  have cx1_1_1 : w2.cell? ⟨w.heap.size + 1, 1, none⟩ = some (.int .i64 (m')) := by go_simp
  have cx1_1_2 : w2.cell? ⟨w.heap.size + 1, 2, none⟩ = some (.int .i64 (d')) := by go_simp
  clear B2 c2_0_0 c2_0_1 c2_0_2 c2_1_0 c2_1_1 c2_1_2
  generalize w2 = x1 at *
  try dsimp only [List.append]
  refine wp_region_bw (by kernel_rfl) (by kernel_rfl) ?_; (repeat (go_big_quiet_step ((go_at_call 73; exact bw_same (hL _))))); refine wpQuiet_nil ?_; intro _ hw'; obtain ⟨xq, hw''⟩ := hw'; subst hw''
  have Bx2 : Below w.heap.size w xq.val := Bx1.trans (xq.below.mono nx1)
  have nx2 : w.heap.size ≤ xq.val.heap.size := Bx2.size
  have sx2_0 : w.heap.size < xq.val.heap.size := Nat.lt_of_lt_of_le (by first | (simp; done) | (simp; omega) | omega) xq.below.size
  have cx2_0_0 : xq.val.cell? ⟨w.heap.size, 0, none⟩ = some (.int .i64 (y)) := (xq.cell (w.heap.size) 0 (by first | (simp; done) | (simp; omega) | omega)).trans (by go_simp)
  have cx2_0_1 : xq.val.cell? ⟨w.heap.size, 1, none⟩ = some (.int .i64 (m)) := (xq.cell (w.heap.size) 1 (by first | (simp; done) | (simp; omega) | omega)).trans (by go_simp)
  have cx2_0_2 : xq.val.cell? ⟨w.heap.size, 2, none⟩ = some (.int .i64 (d)) := (xq.cell (w.heap.size) 2 (by first | (simp; done) | (simp; omega) | omega)).trans (by go_simp)
  clear Bx1 cx1_0_0 cx1_0_1 cx1_0_2 cx1_1_0 cx1_1_1 cx1_1_2
  generalize xq.val = x2 at *
  go_wp2_with fail
  refine wp_loop_rounds 4 ?_
  rw [rounds_succ]
  go_wp2_with fail
  refine (hA1 _).mono ?_
  rintro e w3 ⟨rfl, hb3⟩
  have B3 : Below w.heap.size w w3 := by (focus (repeat' (first | assumption | exact Below.refl _ _ | refine Below.alloc ?_ ?_ _ | refine Below.setCell ?_ ?_ _ | refine Below.drew ?_ | refine below_drewN ?_ _ | refine Below.trans ?_ (Below.mono (by assumption) ?_) | refine Below.trans ?_ (Below.mono (BW.below _) ?_) | (simp; done) | (simp; omega) | omega)))
  have n3 : w.heap.size ≤ w3.heap.size := B3.size
  have s3_0 : w.heap.size < w3.heap.size := Nat.lt_of_lt_of_le (by first | (simp; done) | (simp; omega) | omega) hb3.size
  have c3_0_0 : w3.cell? ⟨w.heap.size, 0, none⟩ = some (.int .i64 (y)) := (hb3.cell (p := ⟨w.heap.size, 0, none⟩) (by first | (simp; done) | (simp; omega) | omega)).trans (by go_simp)
  have c3_0_1 : w3.cell? ⟨w.heap.size, 1, none⟩ = some (.int .i64 (m)) := (hb3.cell (p := ⟨w.heap.size, 1, none⟩) (by first | (simp; done) | (simp; omega) | omega)).trans (by go_simp)
  have c3_0_2 : w3.cell? ⟨w.heap.size, 2, none⟩ = some (.int .i64 (d)) := (hb3.cell (p := ⟨w.heap.size, 2, none⟩) (by first | (simp; done) | (simp; omega) | omega)).trans (by go_simp)
  clear hb3 Bx2 cx2_0_0 cx2_0_1 cx2_0_2
  go_wp2_with fail
  rw [rounds_succ]
  go_wp2_with fail
  refine (hA2 _).mono ?_
  rintro e w4 ⟨rfl, hb4⟩
  have B4 : Below w.heap.size w w4 := by (focus (repeat' (first | assumption | exact Below.refl _ _ | refine Below.alloc ?_ ?_ _ | refine Below.setCell ?_ ?_ _ | refine Below.drew ?_ | refine below_drewN ?_ _ | refine Below.trans ?_ (Below.mono (by assumption) ?_) | refine Below.trans ?_ (Below.mono (BW.below _) ?_) | (simp; done) | (simp; omega) | omega)))
  have n4 : w.heap.size ≤ w4.heap.size := B4.size
  have s4_0 : w3.heap.size < w4.heap.size := Nat.lt_of_lt_of_le (by first | (simp; done) | (simp; omega) | omega) hb4.size
  have c4_0_0 : w4.cell? ⟨w3.heap.size, 0, none⟩ = some (.int .i64 (Y1)) := (hb4.cell (p := ⟨w3.heap.size, 0, none⟩) (by first | (simp; done) | (simp; omega) | omega)).trans (by go_simp)
  have c4_0_1 : w4.cell? ⟨w3.heap.size, 1, none⟩ = some (.int .i64 (M1)) := (hb4.cell (p := ⟨w3.heap.size, 1, none⟩) (by first | (simp; done) | (simp; omega) | omega)).trans (by go_simp)
  have c4_0_2 : w4.cell? ⟨w3.heap.size, 2, none⟩ = some (.int .i64 (D1)) := (hb4.cell (p := ⟨w3.heap.size, 2, none⟩) (by first | (simp; done) | (simp; omega) | omega)).trans (by go_simp)
  have f4_0_0 : w4.frozen? ⟨w3.heap.size, 0, none⟩ = false := (hb4.frozen (p := ⟨w3.heap.size, 0, none⟩) (by first | (simp; done) | (simp; omega) | omega)).trans (by go_simp)
  have f4_0_1 : w4.frozen? ⟨w3.heap.size, 1, none⟩ = false := (hb4.frozen (p := ⟨w3.heap.size, 1, none⟩) (by first | (simp; done) | (simp; omega) | omega)).trans (by go_simp)
  have f4_0_2 : w4.frozen? ⟨w3.heap.size, 2, none⟩ = false := (hb4.frozen (p := ⟨w3.heap.size, 2, none⟩) (by first | (simp; done) | (simp; omega) | omega)).trans (by go_simp)
  clear hb4 B3 c3_0_0 c3_0_1 c3_0_2
  go_wp2_with fail
  go_ret2
  exact ⟨rfl, by (focus (repeat' (first | assumption | exact Below.refl _ _ | refine Below.alloc ?_ ?_ _ | refine Below.setCell ?_ ?_ _ | refine Below.drew ?_ | refine below_drewN ?_ _ | refine Below.trans ?_ (Below.mono (by assumption) ?_) | refine Below.trans ?_ (Below.mono (BW.below _) ?_) | (simp; done) | (simp; omega) | omega)))⟩
set_option maxRecDepth 100000 in
set_option maxHeartbeats 4000000 in
theorem monthly_Between_22 (y m d y' m' d' : Int) (ky : I64 y) (ky' : I64 y') (h : rightB y m d = true) (h' : rightB y' m' d' = true) (hd : d' < d) (hl : d' < mlen y' m') (h1 : addB y m d ((y' - y) * 12 + (m' - m) - 1) = true) (h2 : addB y m d ((y' - y) * 12 + (m' - m) - 1 + 1) = true) (w : World) : Calls Try.prog 26 #[dat y m d, dat y' m' d'] w fun e w' => e = .returned (.tuple #[.int .i64 (btV y m d y' m' d'), .int .i64 (btE y m d y' m' d')]) ∧ Below w.heap.size w w' := by
  obtain ⟨b1, b2⟩ := bt_base h h' 1 (by omega)
  have hb : btB y m d y' m' d' = true := by
    rw [b2 true true (by first | exact h1 | (rw [Int.sub_zero]; exact h1)) (by first | exact h2 | (rw [Int.sub_zero]; exact h2))]
    rfl
  obtain ⟨e1, e2⟩ := bt_y hb
  rw [e1, e2, b1]
  try rw [Int.sub_zero]
  obtain ⟨ry0, ry1, rm0, rm1, rd0, rd1⟩ := (right_iff y m d).1 h
  obtain ⟨qy0, qy1, qm0, qm1, qd0, qd1⟩ := (right_iff y' m' d').1 h'
  have hR := fun w => civil_Right y m d ky w
  have hR2 := fun w => civil_Right y' m' d' ky' w
  have hL := fun w => civil_Len y' m' ky' w
  have hA1 := fun w => monthly_Add y m d ((y' - y) * 12 + (m' - m) - 1) ky (I64.sm (by omega)) (I64.sm (by omega)) w
  have hA2 := fun w => monthly_Add y m d ((y' - y) * 12 + (m' - m) - 1 + 1) ky (I64.sm (by omega)) (I64.sm (by omega)) w
  rw [addE_v, h1] at hA1
  rw [addE_v, h2] at hA2
  rw [h] at hR
  rw [h'] at hR2
  clear h h' h1 e1 e2 b1 b2 hb rd1 qd1 h2
  generalize mlen y' m' = L at *
  have i0 : ∀ w : World, (Instr.index 88 (.agg #[.int .i64 ((y' - y) * 12 + (m' - m) - 1), .int .i64 ((y' - y) * 12 + (m' - m))]) (.int .i64 0)).run Try.prog w = .ok (.int .i64 ((y' - y) * 12 + (m' - m) - 1)) w := fun _ => by kernel_rfl
  have i1 : ∀ w : World, (Instr.index 88 (.agg #[.int .i64 ((y' - y) * 12 + (m' - m) - 1), .int .i64 ((y' - y) * 12 + (m' - m))]) (.int .i64 1)).run Try.prog w = .ok (.int .i64 ((y' - y) * 12 + (m' - m))) w := fun _ => by kernel_rfl
  rw [Int.sub_add_cancel] at hA2
  generalize addY y m d ((y' - y) * 12 + (m' - m) - 1) = Y1 at *
  generalize addM y m d ((y' - y) * 12 + (m' - m) - 1) = M1 at *
  generalize addD y m d ((y' - y) * 12 + (m' - m) - 1) = D1 at *
  generalize addY y m d ((y' - y) * 12 + (m' - m)) = Y2 at *
  generalize addM y m d ((y' - y) * 12 + (m' - m)) = M2 at *
  generalize addD y m d ((y' - y) * 12 + (m' - m)) = D2 at *
  go_enter Try.func26, Try.ntmps26
  go_wp2_with fail
  refine (hR _).mono ?_
  rintro e w1 ⟨rfl, hb1⟩
  have B1 : Below w.heap.size w w1 := by (focus (repeat' (first | assumption | exact Below.refl _ _ | refine Below.alloc ?_ ?_ _ | refine Below.setCell ?_ ?_ _ | refine Below.drew ?_ | refine below_drewN ?_ _ | refine Below.trans ?_ (Below.mono (by assumption) ?_) | refine Below.trans ?_ (Below.mono (BW.below _) ?_) | (simp; done) | (simp; omega) | omega)))
  have n1 : w.heap.size ≤ w1.heap.size := B1.size
  have s1_0 : w.heap.size < w1.heap.size := Nat.lt_of_lt_of_le (by first | (simp; done) | (simp; omega) | omega) hb1.size
  have c1_0_0 : w1.cell? ⟨w.heap.size, 0, none⟩ = some (.int .i64 (y)) := (hb1.cell (p := ⟨w.heap.size, 0, none⟩) (by first | (simp; done) | (simp; omega) | omega)).trans (by go_simp)
  have c1_0_1 : w1.cell? ⟨w.heap.size, 1, none⟩ = some (.int .i64 (m)) := (hb1.cell (p := ⟨w.heap.size, 1, none⟩) (by first | (simp; done) | (simp; omega) | omega)).trans (by go_simp)
  have c1_0_2 : w1.cell? ⟨w.heap.size, 2, none⟩ = some (.int .i64 (d)) := (hb1.cell (p := ⟨w.heap.size, 2, none⟩) (by first | (simp; done) | (simp; omega) | omega)).trans (by go_simp)
  have s1_1 : w.heap.size + 1 < w1.heap.size := Nat.lt_of_lt_of_le (by first | (simp; done) | (simp; omega) | omega) hb1.size
  have c1_1_0 : w1.cell? ⟨w.heap.size + 1, 0, none⟩ = some (.int .i64 (y')) := (hb1.cell (p := ⟨w.heap.size + 1, 0, none⟩) (by first | (simp; done) | (simp; omega) | omega)).trans (by go_simp)
  have c1_1_1 : w1.cell? ⟨w.heap.size + 1, 1, none⟩ = some (.int .i64 (m')) := (hb1.cell (p := ⟨w.heap.size + 1, 1, none⟩) (by first | (simp; done) | (simp; omega) | omega)).trans (by go_simp)
  have c1_1_2 : w1.cell? ⟨w.heap.size + 1, 2, none⟩ = some (.int .i64 (d')) := (hb1.cell (p := ⟨w.heap.size + 1, 2, none⟩) (by first | (simp; done) | (simp; omega) | omega)).trans (by go_simp)
  clear hb1
  go_wp2_with fail
  refine (hR2 _).mono ?_
  rintro e w2 ⟨rfl, hb2⟩
  have B2 : Below w.heap.size w w2 := by (focus (repeat' (first | assumption | exact Below.refl _ _ | refine Below.alloc ?_ ?_ _ | refine Below.setCell ?_ ?_ _ | refine Below.drew ?_ | refine below_drewN ?_ _ | refine Below.trans ?_ (Below.mono (by assumption) ?_) | refine Below.trans ?_ (Below.mono (BW.below _) ?_) | (simp; done) | (simp; omega) | omega)))
  have n2 : w.heap.size ≤ w2.heap.size := B2.size
  have s2_0 : w.heap.size < w2.heap.size := Nat.lt_of_lt_of_le (by first | (simp; done) | (simp; omega) | omega) hb2.size
  have c2_0_0 : w2.cell? ⟨w.heap.size, 0, none⟩ = some (.int .i64 (y)) := (hb2.cell (p := ⟨w.heap.size, 0, none⟩) (by first | (simp; done) | (simp; omega) | omega)).trans (by go_simp)
  have c2_0_1 : w2.cell? ⟨w.heap.size, 1, none⟩ = some (.int .i64 (m)) := (hb2.cell (p := ⟨w.heap.size, 1, none⟩) (by first | (simp; done) | (simp; omega) | omega)).trans (by go_simp)
  have c2_0_2 : w2.cell? ⟨w.heap.size, 2, none⟩ = some (.int .i64 (d)) := (hb2.cell (p := ⟨w.heap.size, 2, none⟩) (by first | (simp; done) | (simp; omega) | omega)).trans (by go_simp)
  have s2_1 : w.heap.size + 1 < w2.heap.size := Nat.lt_of_lt_of_le (by first | (simp; done) | (simp; omega) | omega) hb2.size
  have c2_1_0 : w2.cell? ⟨w.heap.size + 1, 0, none⟩ = some (.int .i64 (y')) := (hb2.cell (p := ⟨w.heap.size + 1, 0, none⟩) (by first | (simp; done) | (simp; omega) | omega)).trans (by go_simp)
  have c2_1_1 : w2.cell? ⟨w.heap.size + 1, 1, none⟩ = some (.int .i64 (m')) := (hb2.cell (p := ⟨w.heap.size + 1, 1, none⟩) (by first | (simp; done) | (simp; omega) | omega)).trans (by go_simp)
  have c2_1_2 : w2.cell? ⟨w.heap.size + 1, 2, none⟩ = some (.int .i64 (d')) := (hb2.cell (p := ⟨w.heap.size + 1, 2, none⟩) (by first | (simp; done) | (simp; omega) | omega)).trans (by go_simp)
  clear hb2 B1 c1_0_0 c1_0_1 c1_0_2 c1_1_0 c1_1_1 c1_1_2
  go_wp2_with fail
  have Bx1 : Below w.heap.size w w2 := by (focus (repeat' (first | assumption | exact Below.refl _ _ | refine Below.alloc ?_ ?_ _ | refine Below.setCell ?_ ?_ _ | refine Below.drew ?_ | refine below_drewN ?_ _ | refine Below.trans ?_ (Below.mono (by assumption) ?_) | refine Below.trans ?_ (Below.mono (BW.below _) ?_) | (simp; done) | (simp; omega) | omega)))
  have nx1 : w.heap.size ≤ w2.heap.size := Bx1.size
  have sx1_0 : w.heap.size < w2.heap.size := (by first | (simp; done) | (simp; omega) | omega)
  have cx1_0_0 : w2.cell? ⟨w.heap.size, 0, none⟩ = some (.int .i64 (y)) := by go_simp
  have cx1_0_1 : w2.cell? ⟨w.heap.size, 1, none⟩ = some (.int .i64 (m)) := by go_simp
  have cx1_0_2 : w2.cell? ⟨w.heap.size, 2, none⟩ = some (.int .i64 (d)) := by go_simp
  have sx1_1 : w.heap.size + 1 < w2.heap.size := (by first | (simp; done) | (simp; omega) | omega)
  have cx1_1_0 : w2.cell? ⟨w.heap.size + 1, 0, none⟩ = some (.int .i64 (y')) := by go_simp
  have cx1_1_1 : w2.cell? ⟨w.heap.size + 1, 1, none⟩ = some (.int .i64 (m')) := by go_simp
  have cx1_1_2 : w2.cell? ⟨w.heap.size + 1, 2, none⟩ = some (.int .i64 (d')) := by go_simp
  clear B2 c2_0_0 c2_0_1 c2_0_2 c2_1_0 c2_1_1 c2_1_2
  generalize w2 = x1 at *
  try dsimp only [List.append]
  refine wp_region_bw (by kernel_rfl) (by kernel_rfl) ?_; (repeat (go_big_quiet_step ((go_at_call 73; exact bw_same (hL _))))); refine wpQuiet_nil ?_; intro _ hw'; obtain ⟨xq, hw''⟩ := hw'; subst hw''
  have Bx2 : Below w.heap.size w xq.val := Bx1.trans (xq.below.mono nx1)
  have nx2 : w.heap.size ≤ xq.val.heap.size := Bx2.size
  have sx2_0 : w.heap.size < xq.val.heap.size := Nat.lt_of_lt_of_le (by first | (simp; done) | (simp; omega) | omega) xq.below.size
  have cx2_0_0 : xq.val.cell? ⟨w.heap.size, 0, none⟩ = some (.int .i64 (y)) := (xq.cell (w.heap.size) 0 (by first | (simp; done) | (simp; omega) | omega)).trans (by go_simp)
  have cx2_0_1 : xq.val.cell? ⟨w.heap.size, 1, none⟩ = some (.int .i64 (m)) := (xq.cell (w.heap.size) 1 (by first | (simp; done) | (simp; omega) | omega)).trans (by go_simp)
  have cx2_0_2 : xq.val.cell? ⟨w.heap.size, 2, none⟩ = some (.int .i64 (d)) := (xq.cell (w.heap.size) 2 (by first | (simp; done) | (simp; omega) | omega)).trans (by go_simp)
  clear Bx1 cx1_0_0 cx1_0_1 cx1_0_2 cx1_1_0 cx1_1_1 cx1_1_2
  generalize xq.val = x2 at *
  go_wp2_with fail
  refine wp_loop_rounds 4 ?_
  rw [rounds_succ]
  go_wp2_with fail
  refine (hA1 _).mono ?_
  rintro e w3 ⟨rfl, hb3⟩
  have B3 : Below w.heap.size w w3 := by (focus (repeat' (first | assumption | exact Below.refl _ _ | refine Below.alloc ?_ ?_ _ | refine Below.setCell ?_ ?_ _ | refine Below.drew ?_ | refine below_drewN ?_ _ | refine Below.trans ?_ (Below.mono (by assumption) ?_) | refine Below.trans ?_ (Below.mono (BW.below _) ?_) | (simp; done) | (simp; omega) | omega)))
  have n3 : w.heap.size ≤ w3.heap.size := B3.size
  have s3_0 : w.heap.size < w3.heap.size := Nat.lt_of_lt_of_le (by first | (simp; done) | (simp; omega) | omega) hb3.size
  have c3_0_0 : w3.cell? ⟨w.heap.size, 0, none⟩ = some (.int .i64 (y)) := (hb3.cell (p := ⟨w.heap.size, 0, none⟩) (by first | (simp; done) | (simp; omega) | omega)).trans (by go_simp)
  have c3_0_1 : w3.cell? ⟨w.heap.size, 1, none⟩ = some (.int .i64 (m)) := (hb3.cell (p := ⟨w.heap.size, 1, none⟩) (by first | (simp; done) | (simp; omega) | omega)).trans (by go_simp)
  have c3_0_2 : w3.cell? ⟨w.heap.size, 2, none⟩ = some (.int .i64 (d)) := (hb3.cell (p := ⟨w.heap.size, 2, none⟩) (by first | (simp; done) | (simp; omega) | omega)).trans (by go_simp)
  clear hb3 Bx2 cx2_0_0 cx2_0_1 cx2_0_2
  go_wp2_with fail
  rw [rounds_succ]
  go_wp2_with fail
  refine (hA2 _).mono ?_
  rintro e w4 ⟨rfl, hb4⟩
  have B4 : Below w.heap.size w w4 := by (focus (repeat' (first | assumption | exact Below.refl _ _ | refine Below.alloc ?_ ?_ _ | refine Below.setCell ?_ ?_ _ | refine Below.drew ?_ | refine below_drewN ?_ _ | refine Below.trans ?_ (Below.mono (by assumption) ?_) | refine Below.trans ?_ (Below.mono (BW.below _) ?_) | (simp; done) | (simp; omega) | omega)))
  have n4 : w.heap.size ≤ w4.heap.size := B4.size
  have s4_0 : w3.heap.size < w4.heap.size := Nat.lt_of_lt_of_le (by first | (simp; done) | (simp; omega) | omega) hb4.size
  have c4_0_0 : w4.cell? ⟨w3.heap.size, 0, none⟩ = some (.int .i64 (Y1)) := (hb4.cell (p := ⟨w3.heap.size, 0, none⟩) (by first | (simp; done) | (simp; omega) | omega)).trans (by go_simp)
  have c4_0_1 : w4.cell? ⟨w3.heap.size, 1, none⟩ = some (.int .i64 (M1)) := (hb4.cell (p := ⟨w3.heap.size, 1, none⟩) (by first | (simp; done) | (simp; omega) | omega)).trans (by go_simp)
  have c4_0_2 : w4.cell? ⟨w3.heap.size, 2, none⟩ = some (.int .i64 (D1)) := (hb4.cell (p := ⟨w3.heap.size, 2, none⟩) (by first | (simp; done) | (simp; omega) | omega)).trans (by go_simp)
  have f4_0_0 : w4.frozen? ⟨w3.heap.size, 0, none⟩ = false := (hb4.frozen (p := ⟨w3.heap.size, 0, none⟩) (by first | (simp; done) | (simp; omega) | omega)).trans (by go_simp)
  have f4_0_1 : w4.frozen? ⟨w3.heap.size, 1, none⟩ = false := (hb4.frozen (p := ⟨w3.heap.size, 1, none⟩) (by first | (simp; done) | (simp; omega) | omega)).trans (by go_simp)
  have f4_0_2 : w4.frozen? ⟨w3.heap.size, 2, none⟩ = false := (hb4.frozen (p := ⟨w3.heap.size, 2, none⟩) (by first | (simp; done) | (simp; omega) | omega)).trans (by go_simp)
  clear hb4 B3 c3_0_0 c3_0_1 c3_0_2
  go_wp2_with fail
  rw [rounds_succ]
  go_wp2_with fail
  go_ret2
  exact ⟨rfl, by (focus (repeat' (first | assumption | exact Below.refl _ _ | refine Below.alloc ?_ ?_ _ | refine Below.setCell ?_ ?_ _ | refine Below.drew ?_ | refine below_drewN ?_ _ | refine Below.trans ?_ (Below.mono (by assumption) ?_) | refine Below.trans ?_ (Below.mono (BW.below _) ?_) | (simp; done) | (simp; omega) | omega)))⟩
theorem monthly_Between (y m d y' m' d' : Int) (ky : I64 y) (ky' : I64 y') (w : World) : Calls Try.prog 26 #[dat y m d, dat y' m' d'] w fun e w' => e = .returned (.tuple #[.int .i64 (btV y m d y' m' d'), .int .i64 (btE y m d y' m' d')]) ∧ Below w.heap.size w w' := by
  cases h : rightB y m d
  · exact monthly_Between_n y m d y' m' d' ky ky' (.inl h) w
  cases h' : rightB y' m' d'
  · exact monthly_Between_n y m d y' m' d' ky ky' (.inr ⟨h, h'⟩) w
  by_cases hd : d ≤ d'
  · cases h1 : addB y m d ((y' - y) * 12 + (m' - m))
    · exact monthly_Between_00 y m d y' m' d' ky ky' h h' hd h1 w
    · cases h2 : addB y m d ((y' - y) * 12 + (m' - m) + 1)
      · exact monthly_Between_01 y m d y' m' d' ky ky' h h' hd h1 h2 w
      · exact monthly_Between_02 y m d y' m' d' ky ky' h h' hd h1 h2 w
  · by_cases hl : mlen y' m' ≤ d'
    · cases h1 : addB y m d ((y' - y) * 12 + (m' - m))
      · exact monthly_Between_10 y m d y' m' d' ky ky' h h' (by omega) hl h1 w
      · cases h2 : addB y m d ((y' - y) * 12 + (m' - m) + 1)
        · exact monthly_Between_11 y m d y' m' d' ky ky' h h' (by omega) hl h1 h2 w
        · exact monthly_Between_12 y m d y' m' d' ky ky' h h' (by omega) hl h1 h2 w
    · cases h1 : addB y m d ((y' - y) * 12 + (m' - m) - 1)
      · exact monthly_Between_20 y m d y' m' d' ky ky' h h' (by omega) (by omega) h1 w
      · cases h2 : addB y m d ((y' - y) * 12 + (m' - m) - 1 + 1)
        · exact monthly_Between_21 y m d y' m' d' ky ky' h h' (by omega) (by omega) h1 h2 w
        · exact monthly_Between_22 y m d y' m' d' ky ky' h h' (by omega) (by omega) h1 h2 w
end Go.Proofs.Ytblmlglkjmilkab
