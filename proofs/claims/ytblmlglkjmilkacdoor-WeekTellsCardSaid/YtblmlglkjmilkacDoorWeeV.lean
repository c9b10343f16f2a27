/-
  noontidelaw07: lives.
-/
import Derived.Test.YtblmlglkjmilkacDoorWeeF
namespace Go.Proofs.YtblmlglkjmilkacDoor
open Go.RowKit Go.Lib Cal
attribute [local go_sem] BW.cell BW.frozen
theorem dec_0 : dec 0 = [48] := by rw [dec_lt (by omega)]; rfl
theorem dec_1 : dec 1 = [49] := by rw [dec_lt (by omega)]; rfl
theorem dec_2020 : dec 2020 = [50, 48, 50, 48] := by rw [dec_ge (by omega), dec_ge (by omega), dec_ge (by omega), dec_lt (by omega)]; rfl
theorem dec_2025 : dec 2025 = [50, 48, 50, 53] := by rw [dec_ge (by omega), dec_ge (by omega), dec_ge (by omega), dec_lt (by omega)]; rfl
theorem txt_dig (k : Nat) (h : k < 10) : txt (k : Int) = [UInt8.ofNat (48 + k)] := by
  unfold txt
  rw [if_neg (by omega), show (k : Int).natAbs = k by omega, dec_lt h]
  rfl
theorem st_2020 : stText 2020 1 1 0 0 0 = [50, 48, 50, 48, 45, 48, 49, 45, 48, 49, 84, 48, 48, 58, 48, 48, 58, 48, 48] := by
  unfold stText pads
  rw [show (2020 : Int).natAbs = 2020 from rfl, dec_2020, dec_1, dec_0]
  rfl
theorem st_2025 : stText 2025 1 1 0 0 0 = [50, 48, 50, 53, 45, 48, 49, 45, 48, 49, 84, 48, 48, 58, 48, 48, 58, 48, 48] := by
  unfold stText pads
  rw [show (2025 : Int).natAbs = 2025 from rfl, dec_2025, dec_1, dec_0]
  rfl
theorem wt_a : wkText [50, 48, 50, 48] 53 5 = ⟨#[50, 48, 50, 48, 45, 87, 53, 51, 45, 53]⟩ := by
  unfold wkText bs
  rw [show (53 : Int) / 10 = ((5 : Nat) : Int) by decide, show (53 : Int) % 10 = ((3 : Nat) : Int) by decide, show (5 : Int) = ((5 : Nat) : Int) from rfl, txt_dig 5 (by omega), txt_dig 3 (by omega)]
  rfl
theorem wt_b : wkText [50, 48, 50, 53] 1 1 = ⟨#[50, 48, 50, 53, 45, 87, 48, 49, 45, 49]⟩ := by
  unfold wkText bs
  rw [show (1 : Int) / 10 = ((0 : Nat) : Int) by decide, show (1 : Int) % 10 = ((1 : Nat) : Int) by decide, show (1 : Int) = ((1 : Nat) : Int) from rfl, txt_dig 0 (by omega), txt_dig 1 (by omega)]
  rfl
set_option maxRecDepth 100000 in
set_option maxHeartbeats 4000000 in
theorem wk_lives (w : World) (K : Kept w)  : Calls Tryd.prog 21 #[] w fun e w' => e = .returned (.bool true) ∧ Below w.heap.size w w' := by
  have h0 := fun w => week_Of 2021 1 1 (I64.sm (by omega)) w
  rw [show woY 2021 1 1 = 2020 by decide +kernel] at h0
  rw [show woW 2021 1 1 = 53 by decide +kernel] at h0
  rw [show woD 2021 1 1 = 5 by decide +kernel] at h0
  rw [show woE 2021 1 1 = 0 by decide +kernel] at h0
  have h1 := fun w => week_Of 2024 12 30 (I64.sm (by omega)) w
  rw [show woY 2024 12 30 = 2025 by decide +kernel] at h1
  rw [show woW 2024 12 30 = 1 by decide +kernel] at h1
  rw [show woD 2024 12 30 = 1 by decide +kernel] at h1
  rw [show woE 2024 12 30 = 0 by decide +kernel] at h1
  have h2 := fun w => week_Date 2020 53 5 w
  rw [show wdY 2020 53 5 = 2021 by decide +kernel] at h2
  rw [show wdM 2020 53 5 = 1 by decide +kernel] at h2
  rw [show wdD 2020 53 5 = 1 by decide +kernel] at h2
  rw [show wdE 2020 53 5 = 0 by decide +kernel] at h2
  have h3 := fun w => week_Of 0 0 0 (I64.sm (by omega)) w
  rw [show woY 0 0 0 = 0 by decide +kernel] at h3
  rw [show woW 0 0 0 = 0 by decide +kernel] at h3
  rw [show woD 0 0 0 = 0 by decide +kernel] at h3
  rw [show woE 0 0 0 = 1 by decide +kernel] at h3
  have h4 := fun w => week_Date 2021 53 1 w
  rw [show wdY 2021 53 1 = 0 by decide +kernel] at h4
  rw [show wdM 2021 53 1 = 0 by decide +kernel] at h4
  rw [show wdD 2021 53 1 = 0 by decide +kernel] at h4
  rw [show wdE 2021 53 1 = 1 by decide +kernel] at h4
  have h5 := fun w => week_Of 40000 6 1 (I64.sm (by omega)) w
  rw [show woY 40000 6 1 = 0 by decide +kernel] at h5
  rw [show woW 40000 6 1 = 0 by decide +kernel] at h5
  rw [show woD 40000 6 1 = 0 by decide +kernel] at h5
  rw [show woE 40000 6 1 = 1 by decide +kernel] at h5
  have h6 := fun w => week_Weeks 2020 w
  rw [show weeks 2020 = 53 by decide +kernel] at h6
  have h7 := fun w => week_Weeks 2021 w
  rw [show weeks 2021 = 52 by decide +kernel] at h7
  have h8 := fun w => week_Weeks 40000 w
  rw [show weeks 40000 = 0 by decide +kernel] at h8
  have h9 := fun w => week_Right 2020 53 5 w
  rw [show wkB 2020 53 5 = true by decide +kernel] at h9
  have h10 := fun w => week_Right 0 0 0 w
  rw [show wkB 0 0 0 = false by decide +kernel] at h10
  have hT0 := fun wx (hb : Below w.heap.size w wx) => week_Text 2020 53 5 (by decide +kernel) [50, 48, 50, 48] [48, 48, 58, 48, 48, 58, 48, 48] (by rw [st_2020]; kernel_rfl) (by rw [st_2020]; decide) (by decide) wx (K.below hb)
  rw [wt_a] at hT0
  have hT1 := fun wx (hb : Below w.heap.size w wx) => week_Text 2025 1 1 (by decide +kernel) [50, 48, 50, 53] [48, 48, 58, 48, 48, 58, 48, 48] (by rw [st_2025]; kernel_rfl) (by rw [st_2025]; decide) (by decide) wx (K.below hb)
  rw [wt_b] at hT1
  have hT2 := fun wx (_ : Below w.heap.size w wx) => week_Text_n 0 0 0 (by decide +kernel) wx
  go_enter Tryd.func21, Tryd.ntmps21
  go_wp2_with fail
  refine (h0 _).mono ?_
  rintro e w1 ⟨rfl, hb1⟩
  have B1 : Below w.heap.size w w1 := by (focus (repeat' (first | assumption | exact Below.refl _ _ | refine Below.alloc ?_ ?_ _ | refine Below.setCell ?_ ?_ _ | refine Below.drew ?_ | refine below_drewN ?_ _ | refine Below.trans ?_ (Below.mono (by assumption) ?_) | refine Below.trans ?_ (Below.mono (BW.below _) ?_) | (simp; done) | (simp; omega) | omega)))
  have n1 : w.heap.size ≤ w1.heap.size := B1.size
  clear hb1
  go_wp2_with fail
  refine (h1 _).mono ?_
  rintro e w2 ⟨rfl, hb2⟩
  have B2 : Below w.heap.size w w2 := by (focus (repeat' (first | assumption | exact Below.refl _ _ | refine Below.alloc ?_ ?_ _ | refine Below.setCell ?_ ?_ _ | refine Below.drew ?_ | refine below_drewN ?_ _ | refine Below.trans ?_ (Below.mono (by assumption) ?_) | refine Below.trans ?_ (Below.mono (BW.below _) ?_) | (simp; done) | (simp; omega) | omega)))
  have n2 : w.heap.size ≤ w2.heap.size := B2.size
  have s2_0 : w1.heap.size < w2.heap.size := Nat.lt_of_lt_of_le (by first | (simp; done) | (simp; omega) | omega) hb2.size
  have c2_0_0 : w2.cell? ⟨w1.heap.size, 0, none⟩ = some (.int .i64 (2020)) := (hb2.cell (p := ⟨w1.heap.size, 0, none⟩) (by first | (simp; done) | (simp; omega) | omega)).trans (by go_simp)
  have c2_0_1 : w2.cell? ⟨w1.heap.size, 1, none⟩ = some (.int .i64 (53)) := (hb2.cell (p := ⟨w1.heap.size, 1, none⟩) (by first | (simp; done) | (simp; omega) | omega)).trans (by go_simp)
  have c2_0_2 : w2.cell? ⟨w1.heap.size, 2, none⟩ = some (.int .i64 (5)) := (hb2.cell (p := ⟨w1.heap.size, 2, none⟩) (by first | (simp; done) | (simp; omega) | omega)).trans (by go_simp)
  clear hb2 B1
  go_wp2_with fail
  refine (h2 _).mono ?_
  rintro e w3 ⟨rfl, hb3⟩
  have B3 : Below w.heap.size w w3 := by (focus (repeat' (first | assumption | exact Below.refl _ _ | refine Below.alloc ?_ ?_ _ | refine Below.setCell ?_ ?_ _ | refine Below.drew ?_ | refine below_drewN ?_ _ | refine Below.trans ?_ (Below.mono (by assumption) ?_) | refine Below.trans ?_ (Below.mono (BW.below _) ?_) | (simp; done) | (simp; omega) | omega)))
  have n3 : w.heap.size ≤ w3.heap.size := B3.size
  have s3_0 : w1.heap.size < w3.heap.size := Nat.lt_of_lt_of_le (by first | (simp; done) | (simp; omega) | omega) hb3.size
  have c3_0_0 : w3.cell? ⟨w1.heap.size, 0, none⟩ = some (.int .i64 (2020)) := (hb3.cell (p := ⟨w1.heap.size, 0, none⟩) (by first | (simp; done) | (simp; omega) | omega)).trans (by go_simp)
  have c3_0_1 : w3.cell? ⟨w1.heap.size, 1, none⟩ = some (.int .i64 (53)) := (hb3.cell (p := ⟨w1.heap.size, 1, none⟩) (by first | (simp; done) | (simp; omega) | omega)).trans (by go_simp)
  have c3_0_2 : w3.cell? ⟨w1.heap.size, 2, none⟩ = some (.int .i64 (5)) := (hb3.cell (p := ⟨w1.heap.size, 2, none⟩) (by first | (simp; done) | (simp; omega) | omega)).trans (by go_simp)
  have s3_1 : w2.heap.size < w3.heap.size := Nat.lt_of_lt_of_le (by first | (simp; done) | (simp; omega) | omega) hb3.size
  have c3_1_0 : w3.cell? ⟨w2.heap.size, 0, none⟩ = some (.int .i64 (2025)) := (hb3.cell (p := ⟨w2.heap.size, 0, none⟩) (by first | (simp; done) | (simp; omega) | omega)).trans (by go_simp)
  have c3_1_1 : w3.cell? ⟨w2.heap.size, 1, none⟩ = some (.int .i64 (1)) := (hb3.cell (p := ⟨w2.heap.size, 1, none⟩) (by first | (simp; done) | (simp; omega) | omega)).trans (by go_simp)
  have c3_1_2 : w3.cell? ⟨w2.heap.size, 2, none⟩ = some (.int .i64 (1)) := (hb3.cell (p := ⟨w2.heap.size, 2, none⟩) (by first | (simp; done) | (simp; omega) | omega)).trans (by go_simp)
  clear hb3 B2 c2_0_0 c2_0_1 c2_0_2
  go_wp2_with fail
  refine (h3 _).mono ?_
  rintro e w4 ⟨rfl, hb4⟩
  have B4 : Below w.heap.size w w4 := by (focus (repeat' (first | assumption | exact Below.refl _ _ | refine Below.alloc ?_ ?_ _ | refine Below.setCell ?_ ?_ _ | refine Below.drew ?_ | refine below_drewN ?_ _ | refine Below.trans ?_ (Below.mono (by assumption) ?_) | refine Below.trans ?_ (Below.mono (BW.below _) ?_) | (simp; done) | (simp; omega) | omega)))
  have n4 : w.heap.size ≤ w4.heap.size := B4.size
  have s4_0 : w1.heap.size < w4.heap.size := Nat.lt_of_lt_of_le (by first | (simp; done) | (simp; omega) | omega) hb4.size
  have c4_0_0 : w4.cell? ⟨w1.heap.size, 0, none⟩ = some (.int .i64 (2020)) := (hb4.cell (p := ⟨w1.heap.size, 0, none⟩) (by first | (simp; done) | (simp; omega) | omega)).trans (by go_simp)
  have c4_0_1 : w4.cell? ⟨w1.heap.size, 1, none⟩ = some (.int .i64 (53)) := (hb4.cell (p := ⟨w1.heap.size, 1, none⟩) (by first | (simp; done) | (simp; omega) | omega)).trans (by go_simp)
  have c4_0_2 : w4.cell? ⟨w1.heap.size, 2, none⟩ = some (.int .i64 (5)) := (hb4.cell (p := ⟨w1.heap.size, 2, none⟩) (by first | (simp; done) | (simp; omega) | omega)).trans (by go_simp)
  have s4_1 : w2.heap.size < w4.heap.size := Nat.lt_of_lt_of_le (by first | (simp; done) | (simp; omega) | omega) hb4.size
  have c4_1_0 : w4.cell? ⟨w2.heap.size, 0, none⟩ = some (.int .i64 (2025)) := (hb4.cell (p := ⟨w2.heap.size, 0, none⟩) (by first | (simp; done) | (simp; omega) | omega)).trans (by go_simp)
  have c4_1_1 : w4.cell? ⟨w2.heap.size, 1, none⟩ = some (.int .i64 (1)) := (hb4.cell (p := ⟨w2.heap.size, 1, none⟩) (by first | (simp; done) | (simp; omega) | omega)).trans (by go_simp)
  have c4_1_2 : w4.cell? ⟨w2.heap.size, 2, none⟩ = some (.int .i64 (1)) := (hb4.cell (p := ⟨w2.heap.size, 2, none⟩) (by first | (simp; done) | (simp; omega) | omega)).trans (by go_simp)
  have s4_2 : w3.heap.size < w4.heap.size := Nat.lt_of_lt_of_le (by first | (simp; done) | (simp; omega) | omega) hb4.size
  have c4_2_0 : w4.cell? ⟨w3.heap.size, 0, none⟩ = some (.int .i64 (2021)) := (hb4.cell (p := ⟨w3.heap.size, 0, none⟩) (by first | (simp; done) | (simp; omega) | omega)).trans (by go_simp)
  have c4_2_1 : w4.cell? ⟨w3.heap.size, 1, none⟩ = some (.int .i64 (1)) := (hb4.cell (p := ⟨w3.heap.size, 1, none⟩) (by first | (simp; done) | (simp; omega) | omega)).trans (by go_simp)
  have c4_2_2 : w4.cell? ⟨w3.heap.size, 2, none⟩ = some (.int .i64 (1)) := (hb4.cell (p := ⟨w3.heap.size, 2, none⟩) (by first | (simp; done) | (simp; omega) | omega)).trans (by go_simp)
  clear hb4 B3 c3_0_0 c3_0_1 c3_0_2 c3_1_0 c3_1_1 c3_1_2
  go_wp2_with fail
  refine (h4 _).mono ?_
  rintro e w5 ⟨rfl, hb5⟩
  have B5 : Below w.heap.size w w5 := by (focus (repeat' (first | assumption | exact Below.refl _ _ | refine Below.alloc ?_ ?_ _ | refine Below.setCell ?_ ?_ _ | refine Below.drew ?_ | refine below_drewN ?_ _ | refine Below.trans ?_ (Below.mono (by assumption) ?_) | refine Below.trans ?_ (Below.mono (BW.below _) ?_) | (simp; done) | (simp; omega) | omega)))
  have n5 : w.heap.size ≤ w5.heap.size := B5.size
  have s5_0 : w1.heap.size < w5.heap.size := Nat.lt_of_lt_of_le (by first | (simp; done) | (simp; omega) | omega) hb5.size
  have c5_0_0 : w5.cell? ⟨w1.heap.size, 0, none⟩ = some (.int .i64 (2020)) := (hb5.cell (p := ⟨w1.heap.size, 0, none⟩) (by first | (simp; done) | (simp; omega) | omega)).trans (by go_simp)
  have c5_0_1 : w5.cell? ⟨w1.heap.size, 1, none⟩ = some (.int .i64 (53)) := (hb5.cell (p := ⟨w1.heap.size, 1, none⟩) (by first | (simp; done) | (simp; omega) | omega)).trans (by go_simp)
  have c5_0_2 : w5.cell? ⟨w1.heap.size, 2, none⟩ = some (.int .i64 (5)) := (hb5.cell (p := ⟨w1.heap.size, 2, none⟩) (by first | (simp; done) | (simp; omega) | omega)).trans (by go_simp)
  have s5_1 : w2.heap.size < w5.heap.size := Nat.lt_of_lt_of_le (by first | (simp; done) | (simp; omega) | omega) hb5.size
  have c5_1_0 : w5.cell? ⟨w2.heap.size, 0, none⟩ = some (.int .i64 (2025)) := (hb5.cell (p := ⟨w2.heap.size, 0, none⟩) (by first | (simp; done) | (simp; omega) | omega)).trans (by go_simp)
  have c5_1_1 : w5.cell? ⟨w2.heap.size, 1, none⟩ = some (.int .i64 (1)) := (hb5.cell (p := ⟨w2.heap.size, 1, none⟩) (by first | (simp; done) | (simp; omega) | omega)).trans (by go_simp)
  have c5_1_2 : w5.cell? ⟨w2.heap.size, 2, none⟩ = some (.int .i64 (1)) := (hb5.cell (p := ⟨w2.heap.size, 2, none⟩) (by first | (simp; done) | (simp; omega) | omega)).trans (by go_simp)
  have s5_2 : w3.heap.size < w5.heap.size := Nat.lt_of_lt_of_le (by first | (simp; done) | (simp; omega) | omega) hb5.size
  have c5_2_0 : w5.cell? ⟨w3.heap.size, 0, none⟩ = some (.int .i64 (2021)) := (hb5.cell (p := ⟨w3.heap.size, 0, none⟩) (by first | (simp; done) | (simp; omega) | omega)).trans (by go_simp)
  have c5_2_1 : w5.cell? ⟨w3.heap.size, 1, none⟩ = some (.int .i64 (1)) := (hb5.cell (p := ⟨w3.heap.size, 1, none⟩) (by first | (simp; done) | (simp; omega) | omega)).trans (by go_simp)
  have c5_2_2 : w5.cell? ⟨w3.heap.size, 2, none⟩ = some (.int .i64 (1)) := (hb5.cell (p := ⟨w3.heap.size, 2, none⟩) (by first | (simp; done) | (simp; omega) | omega)).trans (by go_simp)
  clear hb5 B4 c4_0_0 c4_0_1 c4_0_2 c4_1_0 c4_1_1 c4_1_2 c4_2_0 c4_2_1 c4_2_2
  go_wp2_with fail
  refine (h5 _).mono ?_
  rintro e w6 ⟨rfl, hb6⟩
  have B6 : Below w.heap.size w w6 := by (focus (repeat' (first | assumption | exact Below.refl _ _ | refine Below.alloc ?_ ?_ _ | refine Below.setCell ?_ ?_ _ | refine Below.drew ?_ | refine below_drewN ?_ _ | refine Below.trans ?_ (Below.mono (by assumption) ?_) | refine Below.trans ?_ (Below.mono (BW.below _) ?_) | (simp; done) | (simp; omega) | omega)))
  have n6 : w.heap.size ≤ w6.heap.size := B6.size
  have s6_0 : w1.heap.size < w6.heap.size := Nat.lt_of_lt_of_le (by first | (simp; done) | (simp; omega) | omega) hb6.size
  have c6_0_0 : w6.cell? ⟨w1.heap.size, 0, none⟩ = some (.int .i64 (2020)) := (hb6.cell (p := ⟨w1.heap.size, 0, none⟩) (by first | (simp; done) | (simp; omega) | omega)).trans (by go_simp)
  have c6_0_1 : w6.cell? ⟨w1.heap.size, 1, none⟩ = some (.int .i64 (53)) := (hb6.cell (p := ⟨w1.heap.size, 1, none⟩) (by first | (simp; done) | (simp; omega) | omega)).trans (by go_simp)
  have c6_0_2 : w6.cell? ⟨w1.heap.size, 2, none⟩ = some (.int .i64 (5)) := (hb6.cell (p := ⟨w1.heap.size, 2, none⟩) (by first | (simp; done) | (simp; omega) | omega)).trans (by go_simp)
  have s6_1 : w2.heap.size < w6.heap.size := Nat.lt_of_lt_of_le (by first | (simp; done) | (simp; omega) | omega) hb6.size
  have c6_1_0 : w6.cell? ⟨w2.heap.size, 0, none⟩ = some (.int .i64 (2025)) := (hb6.cell (p := ⟨w2.heap.size, 0, none⟩) (by first | (simp; done) | (simp; omega) | omega)).trans (by go_simp)
  have c6_1_1 : w6.cell? ⟨w2.heap.size, 1, none⟩ = some (.int .i64 (1)) := (hb6.cell (p := ⟨w2.heap.size, 1, none⟩) (by first | (simp; done) | (simp; omega) | omega)).trans (by go_simp)
  have c6_1_2 : w6.cell? ⟨w2.heap.size, 2, none⟩ = some (.int .i64 (1)) := (hb6.cell (p := ⟨w2.heap.size, 2, none⟩) (by first | (simp; done) | (simp; omega) | omega)).trans (by go_simp)
  have s6_2 : w3.heap.size < w6.heap.size := Nat.lt_of_lt_of_le (by first | (simp; done) | (simp; omega) | omega) hb6.size
  have c6_2_0 : w6.cell? ⟨w3.heap.size, 0, none⟩ = some (.int .i64 (2021)) := (hb6.cell (p := ⟨w3.heap.size, 0, none⟩) (by first | (simp; done) | (simp; omega) | omega)).trans (by go_simp)
  have c6_2_1 : w6.cell? ⟨w3.heap.size, 1, none⟩ = some (.int .i64 (1)) := (hb6.cell (p := ⟨w3.heap.size, 1, none⟩) (by first | (simp; done) | (simp; omega) | omega)).trans (by go_simp)
  have c6_2_2 : w6.cell? ⟨w3.heap.size, 2, none⟩ = some (.int .i64 (1)) := (hb6.cell (p := ⟨w3.heap.size, 2, none⟩) (by first | (simp; done) | (simp; omega) | omega)).trans (by go_simp)
  clear hb6 B5 c5_0_0 c5_0_1 c5_0_2 c5_1_0 c5_1_1 c5_1_2 c5_2_0 c5_2_1 c5_2_2
  go_wp2_with fail
  refine (hT0 _ (by (focus (repeat' (first | assumption | exact Below.refl _ _ | refine Below.alloc ?_ ?_ _ | refine Below.setCell ?_ ?_ _ | refine Below.drew ?_ | refine below_drewN ?_ _ | refine Below.trans ?_ (Below.mono (by assumption) ?_) | refine Below.trans ?_ (Below.mono (BW.below _) ?_) | (simp; done) | (simp; omega) | omega))))).mono ?_
  rintro e w7 ⟨rfl, hb7⟩
  have B7 : Below w.heap.size w w7 := by (focus (repeat' (first | assumption | exact Below.refl _ _ | refine Below.alloc ?_ ?_ _ | refine Below.setCell ?_ ?_ _ | refine Below.drew ?_ | refine below_drewN ?_ _ | refine Below.trans ?_ (Below.mono (by assumption) ?_) | refine Below.trans ?_ (Below.mono (BW.below _) ?_) | (simp; done) | (simp; omega) | omega)))
  have n7 : w.heap.size ≤ w7.heap.size := B7.size
  have s7_0 : w1.heap.size < w7.heap.size := Nat.lt_of_lt_of_le (by first | (simp; done) | (simp; omega) | omega) hb7.size
  have c7_0_0 : w7.cell? ⟨w1.heap.size, 0, none⟩ = some (.int .i64 (2020)) := (hb7.cell (p := ⟨w1.heap.size, 0, none⟩) (by first | (simp; done) | (simp; omega) | omega)).trans (by go_simp)
  have c7_0_1 : w7.cell? ⟨w1.heap.size, 1, none⟩ = some (.int .i64 (53)) := (hb7.cell (p := ⟨w1.heap.size, 1, none⟩) (by first | (simp; done) | (simp; omega) | omega)).trans (by go_simp)
  have c7_0_2 : w7.cell? ⟨w1.heap.size, 2, none⟩ = some (.int .i64 (5)) := (hb7.cell (p := ⟨w1.heap.size, 2, none⟩) (by first | (simp; done) | (simp; omega) | omega)).trans (by go_simp)
  have s7_1 : w2.heap.size < w7.heap.size := Nat.lt_of_lt_of_le (by first | (simp; done) | (simp; omega) | omega) hb7.size
  have c7_1_0 : w7.cell? ⟨w2.heap.size, 0, none⟩ = some (.int .i64 (2025)) := (hb7.cell (p := ⟨w2.heap.size, 0, none⟩) (by first | (simp; done) | (simp; omega) | omega)).trans (by go_simp)
  have c7_1_1 : w7.cell? ⟨w2.heap.size, 1, none⟩ = some (.int .i64 (1)) := (hb7.cell (p := ⟨w2.heap.size, 1, none⟩) (by first | (simp; done) | (simp; omega) | omega)).trans (by go_simp)
  have c7_1_2 : w7.cell? ⟨w2.heap.size, 2, none⟩ = some (.int .i64 (1)) := (hb7.cell (p := ⟨w2.heap.size, 2, none⟩) (by first | (simp; done) | (simp; omega) | omega)).trans (by go_simp)
  have s7_2 : w3.heap.size < w7.heap.size := Nat.lt_of_lt_of_le (by first | (simp; done) | (simp; omega) | omega) hb7.size
  have c7_2_0 : w7.cell? ⟨w3.heap.size, 0, none⟩ = some (.int .i64 (2021)) := (hb7.cell (p := ⟨w3.heap.size, 0, none⟩) (by first | (simp; done) | (simp; omega) | omega)).trans (by go_simp)
  have c7_2_1 : w7.cell? ⟨w3.heap.size, 1, none⟩ = some (.int .i64 (1)) := (hb7.cell (p := ⟨w3.heap.size, 1, none⟩) (by first | (simp; done) | (simp; omega) | omega)).trans (by go_simp)
  have c7_2_2 : w7.cell? ⟨w3.heap.size, 2, none⟩ = some (.int .i64 (1)) := (hb7.cell (p := ⟨w3.heap.size, 2, none⟩) (by first | (simp; done) | (simp; omega) | omega)).trans (by go_simp)
  clear hb7 B6 c6_0_0 c6_0_1 c6_0_2 c6_1_0 c6_1_1 c6_1_2 c6_2_0 c6_2_1 c6_2_2
  go_wp2_with fail
  refine (hT1 _ (by (focus (repeat' (first | assumption | exact Below.refl _ _ | refine Below.alloc ?_ ?_ _ | refine Below.setCell ?_ ?_ _ | refine Below.drew ?_ | refine below_drewN ?_ _ | refine Below.trans ?_ (Below.mono (by assumption) ?_) | refine Below.trans ?_ (Below.mono (BW.below _) ?_) | (simp; done) | (simp; omega) | omega))))).mono ?_
  rintro e w8 ⟨rfl, hb8⟩
  have B8 : Below w.heap.size w w8 := by (focus (repeat' (first | assumption | exact Below.refl _ _ | refine Below.alloc ?_ ?_ _ | refine Below.setCell ?_ ?_ _ | refine Below.drew ?_ | refine below_drewN ?_ _ | refine Below.trans ?_ (Below.mono (by assumption) ?_) | refine Below.trans ?_ (Below.mono (BW.below _) ?_) | (simp; done) | (simp; omega) | omega)))
  have n8 : w.heap.size ≤ w8.heap.size := B8.size
  have s8_0 : w1.heap.size < w8.heap.size := Nat.lt_of_lt_of_le (by first | (simp; done) | (simp; omega) | omega) hb8.size
  have c8_0_0 : w8.cell? ⟨w1.heap.size, 0, none⟩ = some (.int .i64 (2020)) := (hb8.cell (p := ⟨w1.heap.size, 0, none⟩) (by first | (simp; done) | (simp; omega) | omega)).trans (by go_simp)
  have c8_0_1 : w8.cell? ⟨w1.heap.size, 1, none⟩ = some (.int .i64 (53)) := (hb8.cell (p := ⟨w1.heap.size, 1, none⟩) (by first | (simp; done) | (simp; omega) | omega)).trans (by go_simp)
  have c8_0_2 : w8.cell? ⟨w1.heap.size, 2, none⟩ = some (.int .i64 (5)) := (hb8.cell (p := ⟨w1.heap.size, 2, none⟩) (by first | (simp; done) | (simp; omega) | omega)).trans (by go_simp)
  have s8_1 : w3.heap.size < w8.heap.size := Nat.lt_of_lt_of_le (by first | (simp; done) | (simp; omega) | omega) hb8.size
  have c8_1_0 : w8.cell? ⟨w3.heap.size, 0, none⟩ = some (.int .i64 (2021)) := (hb8.cell (p := ⟨w3.heap.size, 0, none⟩) (by first | (simp; done) | (simp; omega) | omega)).trans (by go_simp)
  have c8_1_1 : w8.cell? ⟨w3.heap.size, 1, none⟩ = some (.int .i64 (1)) := (hb8.cell (p := ⟨w3.heap.size, 1, none⟩) (by first | (simp; done) | (simp; omega) | omega)).trans (by go_simp)
  have c8_1_2 : w8.cell? ⟨w3.heap.size, 2, none⟩ = some (.int .i64 (1)) := (hb8.cell (p := ⟨w3.heap.size, 2, none⟩) (by first | (simp; done) | (simp; omega) | omega)).trans (by go_simp)
  clear hb8 B7 c7_0_0 c7_0_1 c7_0_2 c7_1_0 c7_1_1 c7_1_2 c7_2_0 c7_2_1 c7_2_2
  go_wp2_with fail
  refine (h6 _).mono ?_
  rintro e w9 ⟨rfl, hb9⟩
  have B9 : Below w.heap.size w w9 := by (focus (repeat' (first | assumption | exact Below.refl _ _ | refine Below.alloc ?_ ?_ _ | refine Below.setCell ?_ ?_ _ | refine Below.drew ?_ | refine below_drewN ?_ _ | refine Below.trans ?_ (Below.mono (by assumption) ?_) | refine Below.trans ?_ (Below.mono (BW.below _) ?_) | (simp; done) | (simp; omega) | omega)))
  have n9 : w.heap.size ≤ w9.heap.size := B9.size
  have s9_0 : w1.heap.size < w9.heap.size := Nat.lt_of_lt_of_le (by first | (simp; done) | (simp; omega) | omega) hb9.size
  have c9_0_0 : w9.cell? ⟨w1.heap.size, 0, none⟩ = some (.int .i64 (2020)) := (hb9.cell (p := ⟨w1.heap.size, 0, none⟩) (by first | (simp; done) | (simp; omega) | omega)).trans (by go_simp)
  have c9_0_1 : w9.cell? ⟨w1.heap.size, 1, none⟩ = some (.int .i64 (53)) := (hb9.cell (p := ⟨w1.heap.size, 1, none⟩) (by first | (simp; done) | (simp; omega) | omega)).trans (by go_simp)
  have c9_0_2 : w9.cell? ⟨w1.heap.size, 2, none⟩ = some (.int .i64 (5)) := (hb9.cell (p := ⟨w1.heap.size, 2, none⟩) (by first | (simp; done) | (simp; omega) | omega)).trans (by go_simp)
  clear hb9 B8 c8_0_0 c8_0_1 c8_0_2 c8_1_0 c8_1_1 c8_1_2
  go_wp2_with fail
  refine (h7 _).mono ?_
  rintro e w10 ⟨rfl, hb10⟩
  have B10 : Below w.heap.size w w10 := by (focus (repeat' (first | assumption | exact Below.refl _ _ | refine Below.alloc ?_ ?_ _ | refine Below.setCell ?_ ?_ _ | refine Below.drew ?_ | refine below_drewN ?_ _ | refine Below.trans ?_ (Below.mono (by assumption) ?_) | refine Below.trans ?_ (Below.mono (BW.below _) ?_) | (simp; done) | (simp; omega) | omega)))
  have n10 : w.heap.size ≤ w10.heap.size := B10.size
  have s10_0 : w1.heap.size < w10.heap.size := Nat.lt_of_lt_of_le (by first | (simp; done) | (simp; omega) | omega) hb10.size
  have c10_0_0 : w10.cell? ⟨w1.heap.size, 0, none⟩ = some (.int .i64 (2020)) := (hb10.cell (p := ⟨w1.heap.size, 0, none⟩) (by first | (simp; done) | (simp; omega) | omega)).trans (by go_simp)
  have c10_0_1 : w10.cell? ⟨w1.heap.size, 1, none⟩ = some (.int .i64 (53)) := (hb10.cell (p := ⟨w1.heap.size, 1, none⟩) (by first | (simp; done) | (simp; omega) | omega)).trans (by go_simp)
  have c10_0_2 : w10.cell? ⟨w1.heap.size, 2, none⟩ = some (.int .i64 (5)) := (hb10.cell (p := ⟨w1.heap.size, 2, none⟩) (by first | (simp; done) | (simp; omega) | omega)).trans (by go_simp)
  clear hb10 B9 c9_0_0 c9_0_1 c9_0_2
  go_wp2_with fail
  refine (h8 _).mono ?_
  rintro e w11 ⟨rfl, hb11⟩
  have B11 : Below w.heap.size w w11 := by (focus (repeat' (first | assumption | exact Below.refl _ _ | refine Below.alloc ?_ ?_ _ | refine Below.setCell ?_ ?_ _ | refine Below.drew ?_ | refine below_drewN ?_ _ | refine Below.trans ?_ (Below.mono (by assumption) ?_) | refine Below.trans ?_ (Below.mono (BW.below _) ?_) | (simp; done) | (simp; omega) | omega)))
  have n11 : w.heap.size ≤ w11.heap.size := B11.size
  have s11_0 : w1.heap.size < w11.heap.size := Nat.lt_of_lt_of_le (by first | (simp; done) | (simp; omega) | omega) hb11.size
  have c11_0_0 : w11.cell? ⟨w1.heap.size, 0, none⟩ = some (.int .i64 (2020)) := (hb11.cell (p := ⟨w1.heap.size, 0, none⟩) (by first | (simp; done) | (simp; omega) | omega)).trans (by go_simp)
  have c11_0_1 : w11.cell? ⟨w1.heap.size, 1, none⟩ = some (.int .i64 (53)) := (hb11.cell (p := ⟨w1.heap.size, 1, none⟩) (by first | (simp; done) | (simp; omega) | omega)).trans (by go_simp)
  have c11_0_2 : w11.cell? ⟨w1.heap.size, 2, none⟩ = some (.int .i64 (5)) := (hb11.cell (p := ⟨w1.heap.size, 2, none⟩) (by first | (simp; done) | (simp; omega) | omega)).trans (by go_simp)
  clear hb11 B10 c10_0_0 c10_0_1 c10_0_2
  go_wp2_with fail
  refine (h9 _).mono ?_
  rintro e w12 ⟨rfl, hb12⟩
  have B12 : Below w.heap.size w w12 := by (focus (repeat' (first | assumption | exact Below.refl _ _ | refine Below.alloc ?_ ?_ _ | refine Below.setCell ?_ ?_ _ | refine Below.drew ?_ | refine below_drewN ?_ _ | refine Below.trans ?_ (Below.mono (by assumption) ?_) | refine Below.trans ?_ (Below.mono (BW.below _) ?_) | (simp; done) | (simp; omega) | omega)))
  have n12 : w.heap.size ≤ w12.heap.size := B12.size
  clear hb12 B11 c11_0_0 c11_0_1 c11_0_2
  go_wp2_with fail
  refine (h10 _).mono ?_
  rintro e w13 ⟨rfl, hb13⟩
  have B13 : Below w.heap.size w w13 := by (focus (repeat' (first | assumption | exact Below.refl _ _ | refine Below.alloc ?_ ?_ _ | refine Below.setCell ?_ ?_ _ | refine Below.drew ?_ | refine below_drewN ?_ _ | refine Below.trans ?_ (Below.mono (by assumption) ?_) | refine Below.trans ?_ (Below.mono (BW.below _) ?_) | (simp; done) | (simp; omega) | omega)))
  have n13 : w.heap.size ≤ w13.heap.size := B13.size
  clear hb13 B12
  go_wp2_with fail
  refine (hT2 _ (by (focus (repeat' (first | assumption | exact Below.refl _ _ | refine Below.alloc ?_ ?_ _ | refine Below.setCell ?_ ?_ _ | refine Below.drew ?_ | refine below_drewN ?_ _ | refine Below.trans ?_ (Below.mono (by assumption) ?_) | refine Below.trans ?_ (Below.mono (BW.below _) ?_) | (simp; done) | (simp; omega) | omega))))).mono ?_
  rintro e w14 ⟨rfl, hb14⟩
  have B14 : Below w.heap.size w w14 := by (focus (repeat' (first | assumption | exact Below.refl _ _ | refine Below.alloc ?_ ?_ _ | refine Below.setCell ?_ ?_ _ | refine Below.drew ?_ | refine below_drewN ?_ _ | refine Below.trans ?_ (Below.mono (by assumption) ?_) | refine Below.trans ?_ (Below.mono (BW.below _) ?_) | (simp; done) | (simp; omega) | omega)))
  have n14 : w.heap.size ≤ w14.heap.size := B14.size
  clear hb14 B13
  go_wp2_with fail
  go_ret
  exact ⟨rfl, by (focus (repeat' (first | assumption | exact Below.refl _ _ | refine Below.alloc ?_ ?_ _ | refine Below.setCell ?_ ?_ _ | refine Below.drew ?_ | refine below_drewN ?_ _ | refine Below.trans ?_ (Below.mono (by assumption) ?_) | refine Below.trans ?_ (Below.mono (BW.below _) ?_) | (simp; done) | (simp; omega) | omega)))⟩
end Go.Proofs.YtblmlglkjmilkacDoor
