/-
  The document's texts of stamps and weeks.
-/
import Derived.Test.YtblmlglkjmilkacDoorWeeH
import Derived.Test.YtblmlglkjmilkacDoorWeeE
import Derived.Test.YtblmlglkjmilkacDoorWeeV
import Derived.Test.YtblmlglkjmilkacDoorCutP
namespace Go.Proofs.YtblmlglkjmilkacDoor
open Go.RowKit Go.Lib Cal
attribute [local go_sem] BW.cell BW.frozen
theorem ref04_Right (y : Int) (ky : I64 y) (h : rightB y 1 1 = true) (w : World) : Calls Tryd.prog 102 #[stp y 1 1 0 0 0] w fun e w' => e = .returned (.bool true) ∧ Below w.heap.size w w' := by
  have hR := fun w => ref03_Right y 1 1 ky w
  rw [h] at hR
  go_enter Tryd.func102, Tryd.ntmps102
  go_wp2_with (go_at_call 142; refine (hR _).mono ?_; rintro e w1 ⟨rfl, hb⟩; obtain ⟨hc, hf⟩ := bcell hb; have z := hb.size; (try simp at z); have z0 : w.heap.size < w1.heap.size := (by omega))
  go_ret
  exact ⟨rfl, by (focus (repeat' (first | exact Below.refl _ _ | refine Below.alloc ?_ ?_ _ | refine Below.setCell ?_ ?_ _ | refine Below.drew ?_ | refine below_drewN ?_ _ | refine Below.trans ?_ (Below.mono (by assumption) ?_) | refine Below.trans ?_ (Below.mono (BW.below _) ?_) | (simp; done) | (simp; omega) | omega)))⟩
/-- The year of a stamp's text, and what follows it. -/
def yrText (y : Int) : List UInt8 := (if y < 0 then [45] else []) ++ pads y.natAbs 4
def rest11 : List UInt8 := [45, 48, 49, 45, 48, 49, 84, 48, 48, 58, 48, 48, 58, 48, 48]
theorem st_11 (y : Int) : stText y 1 1 0 0 0 = yrText y ++ rest11 := by
  unfold stText pads yrText rest11 pads
  rw [dec_1, dec_0]
  simp only [List.append_assoc]
  rfl
theorem dec_pos (n : Nat) : 1 ≤ (dec n).length := by
  rw [dec]
  split <;> simp
theorem yr_len {y : Int} (h0 : -40000 ≤ y) (h1 : y ≤ 40000) : (yrText y).length ≤ 30 := by
  have := pads_len (n := y.natAbs) (k := 4) (by omega) (by omega)
  unfold yrText
  rw [List.length_append]
  split <;> simp <;> omega
theorem txt_abs {n : Int} (h : 0 ≤ n) (k : Nat) : List.replicate (k - (txt n).length) 48 ++ txt n = pads n.natAbs k := by
  unfold pads txt
  rw [if_neg (by omega)]
  rfl
set_option maxRecDepth 100000 in
set_option maxHeartbeats 2000000 in
theorem ref04_Text (y : Int) (y0 : -40000 ≤ y) (y1 : y ≤ 40000) (w : World) : Calls Tryd.prog 53 #[stp y 1 1 0 0 0] w fun e w' => e = .returned (.string (bs (stText y 1 1 0 0 0))) ∧ Below w.heap.size w w' := by
  have hR := fun w => ref04_Right y (I64.sm (by omega)) (day_14 y0 y1 (by omega) (by omega)) w
  have hW := fun w => ref04_wide y 4 (Or.inr rfl) (by omega) (by omega) w
  have hN := fun w => ref04_wide (-y) 4 (Or.inr rfl) (by omega) (by omega) w
  have h1 := fun w => ref04_wide 1 2 (Or.inl rfl) (by omega) (by omega) w
  have h0 := fun w => ref04_wide 0 2 (Or.inl rfl) (by omega) (by omega) w
  rw [show List.replicate ((2 : Int).toNat - (txt 1).length) 48 ++ txt 1 = [48, 49] by rw [show (1 : Int) = ((1 : Nat) : Int) from rfl, txt_dig 1 (by omega)]; rfl] at h1
  rw [show List.replicate ((2 : Int).toNat - (txt 0).length) 48 ++ txt 0 = [48, 48] by rw [show (0 : Int) = ((0 : Nat) : Int) from rfl, txt_dig 0 (by omega)]; rfl] at h0
  change ∀ w : World, Calls _ _ _ w (fun e w' => e = .returned (.string ⟨#[48, 49]⟩) ∧ Below w.heap.size w w') at h1
  change ∀ w : World, Calls _ _ _ w (fun e w' => e = .returned (.string ⟨#[48, 48]⟩) ∧ Below w.heap.size w w') at h0
  have za : ∀ n : Int, -100000 ≤ n → n ≤ 100000 → (bs (List.replicate ((4 : Int).toNat - (txt n).length) 48 ++ txt n)).size ≤ 20 := fun n a b => by
    have := txt_len a b
    rw [bs_size, List.length_append, List.length_replicate]
    simp
    omega
  have zW := za y (by omega) (by omega)
  have zN := za (-y) (by omega) (by omega)
  clear za
  by_cases hy : y < 0
  · have e : bs (yrText y ++ rest11) = ⟨#[45]⟩ ++ bs (List.replicate ((4 : Int).toNat - (txt (-y)).length) 48 ++ txt (-y)) ++ ⟨#[45]⟩ ++ ⟨#[48, 49]⟩ ++ ⟨#[45]⟩ ++ ⟨#[48, 49]⟩ ++ ⟨#[84]⟩ ++ ⟨#[48, 48]⟩ ++ ⟨#[58]⟩ ++ ⟨#[48, 48]⟩ ++ ⟨#[58]⟩ ++ ⟨#[48, 48]⟩ := by
      rw [show (4 : Int).toNat = 4 from rfl, txt_abs (by omega)]
      unfold yrText rest11
      rw [if_pos hy, show (-y).natAbs = y.natAbs by omega]
      change _ = bs [45] ++ bs _ ++ bs [45] ++ bs [48, 49] ++ bs [45] ++ bs [48, 49] ++ bs [84] ++ bs [48, 48] ++ bs [58] ++ bs [48, 48] ++ bs [58] ++ bs [48, 48]
      simp only [bs_app, List.append_assoc, List.cons_append, List.nil_append]
    rw [st_11, e]
    clear e
    generalize bs (List.replicate ((4 : Int).toNat - (txt y).length) 48 ++ txt y) = A at *
    generalize bs (List.replicate ((4 : Int).toNat - (txt (-y)).length) 48 ++ txt (-y)) = B at *
    go_enter Tryd.func53, Tryd.ntmps53
    go_wp2_with fail
    refine (hR _).mono ?_
    rintro e w1 ⟨rfl, hb⟩
    have cw1_0 : w1.cell? ⟨w.heap.size, 0, none⟩ = some (.int .i64 y) := (hb.cell (p := ⟨w.heap.size, 0, none⟩) (by simp)).trans (by go_simp)
    have cw1_1 : w1.cell? ⟨w.heap.size, 1, none⟩ = some (.int .i64 1) := (hb.cell (p := ⟨w.heap.size, 1, none⟩) (by simp)).trans (by go_simp)
    have cw1_2 : w1.cell? ⟨w.heap.size, 2, none⟩ = some (.int .i64 1) := (hb.cell (p := ⟨w.heap.size, 2, none⟩) (by simp)).trans (by go_simp)
    have cw1_3 : w1.cell? ⟨w.heap.size, 3, none⟩ = some (.int .i64 0) := (hb.cell (p := ⟨w.heap.size, 3, none⟩) (by simp)).trans (by go_simp)
    have cw1_4 : w1.cell? ⟨w.heap.size, 4, none⟩ = some (.int .i64 0) := (hb.cell (p := ⟨w.heap.size, 4, none⟩) (by simp)).trans (by go_simp)
    have cw1_5 : w1.cell? ⟨w.heap.size, 5, none⟩ = some (.int .i64 0) := (hb.cell (p := ⟨w.heap.size, 5, none⟩) (by simp)).trans (by go_simp)
    have B1 : Below w.heap.size w w1 := by (focus (repeat' (first | exact Below.refl _ _ | refine Below.alloc ?_ ?_ _ | refine Below.setCell ?_ ?_ _ | refine Below.drew ?_ | refine below_drewN ?_ _ | refine Below.trans ?_ (Below.mono (by assumption) ?_) | refine Below.trans ?_ (Below.mono (BW.below _) ?_) | (simp; done) | (simp; omega) | omega)))
    have zw1 : w.heap.size < w1.heap.size := by have := hb.size; simp at this; omega
    clear hb hR
    go_wp2_with fail
    refine (hW _).mono ?_
    rintro e w2 ⟨rfl, hb⟩
    have cw2_0 : w2.cell? ⟨w.heap.size, 0, none⟩ = some (.int .i64 y) := (hb.cell (p := ⟨w.heap.size, 0, none⟩) zw1).trans cw1_0
    have cw2_1 : w2.cell? ⟨w.heap.size, 1, none⟩ = some (.int .i64 1) := (hb.cell (p := ⟨w.heap.size, 1, none⟩) zw1).trans cw1_1
    have cw2_2 : w2.cell? ⟨w.heap.size, 2, none⟩ = some (.int .i64 1) := (hb.cell (p := ⟨w.heap.size, 2, none⟩) zw1).trans cw1_2
    have cw2_3 : w2.cell? ⟨w.heap.size, 3, none⟩ = some (.int .i64 0) := (hb.cell (p := ⟨w.heap.size, 3, none⟩) zw1).trans cw1_3
    have cw2_4 : w2.cell? ⟨w.heap.size, 4, none⟩ = some (.int .i64 0) := (hb.cell (p := ⟨w.heap.size, 4, none⟩) zw1).trans cw1_4
    have cw2_5 : w2.cell? ⟨w.heap.size, 5, none⟩ = some (.int .i64 0) := (hb.cell (p := ⟨w.heap.size, 5, none⟩) zw1).trans cw1_5
    have zw2 : w.heap.size < w2.heap.size := Nat.lt_of_lt_of_le zw1 hb.size
    have B2 : Below w.heap.size w w2 := B1.trans (hb.mono (by omega))
    clear hb hW cw1_0 cw1_1 cw1_2 cw1_3 cw1_4 cw1_5
    go_wp2_with fail
    refine (hN _).mono ?_
    rintro e w3 ⟨rfl, hb⟩
    have cw3_0 : w3.cell? ⟨w.heap.size, 0, none⟩ = some (.int .i64 y) := (hb.cell (p := ⟨w.heap.size, 0, none⟩) zw2).trans cw2_0
    have cw3_1 : w3.cell? ⟨w.heap.size, 1, none⟩ = some (.int .i64 1) := (hb.cell (p := ⟨w.heap.size, 1, none⟩) zw2).trans cw2_1
    have cw3_2 : w3.cell? ⟨w.heap.size, 2, none⟩ = some (.int .i64 1) := (hb.cell (p := ⟨w.heap.size, 2, none⟩) zw2).trans cw2_2
    have cw3_3 : w3.cell? ⟨w.heap.size, 3, none⟩ = some (.int .i64 0) := (hb.cell (p := ⟨w.heap.size, 3, none⟩) zw2).trans cw2_3
    have cw3_4 : w3.cell? ⟨w.heap.size, 4, none⟩ = some (.int .i64 0) := (hb.cell (p := ⟨w.heap.size, 4, none⟩) zw2).trans cw2_4
    have cw3_5 : w3.cell? ⟨w.heap.size, 5, none⟩ = some (.int .i64 0) := (hb.cell (p := ⟨w.heap.size, 5, none⟩) zw2).trans cw2_5
    have zw3 : w.heap.size < w3.heap.size := Nat.lt_of_lt_of_le zw2 hb.size
    have B3 : Below w.heap.size w w3 := B2.trans (hb.mono (by omega))
    clear hb hN cw2_0 cw2_1 cw2_2 cw2_3 cw2_4 cw2_5
    go_wp2_with fail
    try dsimp only [List.append]
    refine wp_region_bw (by kernel_rfl) (by kernel_rfl) ?_; (repeat (go_big_quiet_step ((go_at_call 103; first | with_reducible exact bw_call (h1 _) | with_reducible exact bw_call (h0 _))))); refine wpQuiet_nil ?_; intro _ hw'; obtain ⟨xq, hw''⟩ := hw'; subst hw''
    go_wp2_with fail
    go_ret
    exact ⟨rfl, B3.trans (xq.below.mono (by omega))⟩
  · have e : bs (yrText y ++ rest11) = bs (List.replicate ((4 : Int).toNat - (txt y).length) 48 ++ txt y) ++ ⟨#[45]⟩ ++ ⟨#[48, 49]⟩ ++ ⟨#[45]⟩ ++ ⟨#[48, 49]⟩ ++ ⟨#[84]⟩ ++ ⟨#[48, 48]⟩ ++ ⟨#[58]⟩ ++ ⟨#[48, 48]⟩ ++ ⟨#[58]⟩ ++ ⟨#[48, 48]⟩ := by
      rw [show (4 : Int).toNat = 4 from rfl, txt_abs (by omega)]
      unfold yrText rest11
      rw [if_neg hy]
      change _ = bs _ ++ bs [45] ++ bs [48, 49] ++ bs [45] ++ bs [48, 49] ++ bs [84] ++ bs [48, 48] ++ bs [58] ++ bs [48, 48] ++ bs [58] ++ bs [48, 48]
      simp only [bs_app, List.append_assoc, List.cons_append, List.nil_append]
    rw [st_11, e]
    clear e
    generalize bs (List.replicate ((4 : Int).toNat - (txt y).length) 48 ++ txt y) = A at *
    clear hN zN
    go_enter Tryd.func53, Tryd.ntmps53
    go_wp2_with fail
    refine (hR _).mono ?_
    rintro e w1 ⟨rfl, hb⟩
    have cw1_0 : w1.cell? ⟨w.heap.size, 0, none⟩ = some (.int .i64 y) := (hb.cell (p := ⟨w.heap.size, 0, none⟩) (by simp)).trans (by go_simp)
    have cw1_1 : w1.cell? ⟨w.heap.size, 1, none⟩ = some (.int .i64 1) := (hb.cell (p := ⟨w.heap.size, 1, none⟩) (by simp)).trans (by go_simp)
    have cw1_2 : w1.cell? ⟨w.heap.size, 2, none⟩ = some (.int .i64 1) := (hb.cell (p := ⟨w.heap.size, 2, none⟩) (by simp)).trans (by go_simp)
    have cw1_3 : w1.cell? ⟨w.heap.size, 3, none⟩ = some (.int .i64 0) := (hb.cell (p := ⟨w.heap.size, 3, none⟩) (by simp)).trans (by go_simp)
    have cw1_4 : w1.cell? ⟨w.heap.size, 4, none⟩ = some (.int .i64 0) := (hb.cell (p := ⟨w.heap.size, 4, none⟩) (by simp)).trans (by go_simp)
    have cw1_5 : w1.cell? ⟨w.heap.size, 5, none⟩ = some (.int .i64 0) := (hb.cell (p := ⟨w.heap.size, 5, none⟩) (by simp)).trans (by go_simp)
    have B1 : Below w.heap.size w w1 := by (focus (repeat' (first | exact Below.refl _ _ | refine Below.alloc ?_ ?_ _ | refine Below.setCell ?_ ?_ _ | refine Below.drew ?_ | refine below_drewN ?_ _ | refine Below.trans ?_ (Below.mono (by assumption) ?_) | refine Below.trans ?_ (Below.mono (BW.below _) ?_) | (simp; done) | (simp; omega) | omega)))
    have zw1 : w.heap.size < w1.heap.size := by have := hb.size; simp at this; omega
    clear hb hR
    go_wp2_with fail
    refine (hW _).mono ?_
    rintro e w2 ⟨rfl, hb⟩
    have cw2_0 : w2.cell? ⟨w.heap.size, 0, none⟩ = some (.int .i64 y) := (hb.cell (p := ⟨w.heap.size, 0, none⟩) zw1).trans cw1_0
    have cw2_1 : w2.cell? ⟨w.heap.size, 1, none⟩ = some (.int .i64 1) := (hb.cell (p := ⟨w.heap.size, 1, none⟩) zw1).trans cw1_1
    have cw2_2 : w2.cell? ⟨w.heap.size, 2, none⟩ = some (.int .i64 1) := (hb.cell (p := ⟨w.heap.size, 2, none⟩) zw1).trans cw1_2
    have cw2_3 : w2.cell? ⟨w.heap.size, 3, none⟩ = some (.int .i64 0) := (hb.cell (p := ⟨w.heap.size, 3, none⟩) zw1).trans cw1_3
    have cw2_4 : w2.cell? ⟨w.heap.size, 4, none⟩ = some (.int .i64 0) := (hb.cell (p := ⟨w.heap.size, 4, none⟩) zw1).trans cw1_4
    have cw2_5 : w2.cell? ⟨w.heap.size, 5, none⟩ = some (.int .i64 0) := (hb.cell (p := ⟨w.heap.size, 5, none⟩) zw1).trans cw1_5
    have zw2 : w.heap.size < w2.heap.size := Nat.lt_of_lt_of_le zw1 hb.size
    have B2 : Below w.heap.size w w2 := B1.trans (hb.mono (by omega))
    clear hb hW cw1_0 cw1_1 cw1_2 cw1_3 cw1_4 cw1_5
    go_wp2_with fail
    try dsimp only [List.append]
    refine wp_region_bw (by kernel_rfl) (by kernel_rfl) ?_; (repeat (go_big_quiet_step ((go_at_call 103; first | with_reducible exact bw_call (h1 _) | with_reducible exact bw_call (h0 _))))); refine wpQuiet_nil ?_; intro _ hw'; obtain ⟨xq, hw''⟩ := hw'; subst hw''
    go_wp2_with fail
    go_ret
    exact ⟨rfl, B2.trans (xq.below.mono (by omega))⟩

theorem ref07_Text_n (y k d : Int) (h : wkB y k d = false) (w : World) : Calls Tryd.prog 20 #[dat y k d] w fun e w' => e = .returned (.string ⟨#[]⟩) ∧ Below w.heap.size w w' := by
  have hR := fun w => ref07_Right y k d w
  rw [h] at hR
  clear h
  go_enter Tryd.func20, Tryd.ntmps20
  go_wp2_with (go_at_call 18; refine (hR _).mono ?_; rintro e w1 ⟨rfl, hb⟩; obtain ⟨hc, hf⟩ := bcell hb; have z := hb.size; (try simp at z); have z0 : w.heap.size < w1.heap.size := (by omega))
  go_ret
  exact ⟨rfl, by (focus (repeat' (first | exact Below.refl _ _ | refine Below.alloc ?_ ?_ _ | refine Below.setCell ?_ ?_ _ | refine Below.drew ?_ | refine below_drewN ?_ _ | refine Below.trans ?_ (Below.mono (by assumption) ?_) | refine Below.trans ?_ (Below.mono (BW.below _) ?_) | (simp; done) | (simp; omega) | omega)))⟩
theorem ext_take (a t : List UInt8) (h : t.length = 15) : (bs (a ++ t)).size = a.length + 15 ∧ (bs (a ++ t)).extract 0 a.length = bs a := by
  refine ⟨by show (a ++ t).length = _; simp [h], ?_⟩
  apply ByteArray.ext
  simp [bs, ByteArray.data_extract]
theorem txt_two {k : Int} (h0 : 1 ≤ k) (h1 : k ≤ 53) : bs (txt (k / 10)) ++ bs (txt (k % 10)) = if k < 10 then ⟨#[48]⟩ ++ bs (txt k) else bs (txt k) := by
  obtain ⟨n, rfl⟩ : ∃ n : Nat, k = (n : Int) := ⟨k.toNat, by omega⟩
  have e1 : (n : Int) / 10 = ((n / 10 : Nat) : Int) := by omega
  have e2 : (n : Int) % 10 = ((n % 10 : Nat) : Int) := by omega
  rw [e1, e2, txt_dig _ (by omega), txt_dig _ (by omega)]
  by_cases h : n < 10
  · rw [if_pos (by omega), txt_dig n h, show n / 10 = 0 by omega, show n % 10 = n by omega]
    rfl
  · rw [if_neg (by omega), bs_app, txt_nat, dec_ge (by omega), dec_lt (u := n / 10) (by omega)]
set_option maxRecDepth 100000 in
set_option maxHeartbeats 2000000 in
theorem ref07_Text (y k d : Int) (h : wkB y k d = true) (w : World) : Calls Tryd.prog 20 #[dat y k d] w fun e w' => e = .returned (.string (wkText (yrText y) k d)) ∧ Below w.heap.size w w' := by
  have hR := fun w => ref07_Right y k d w
  rw [h] at hR
  obtain ⟨f0, f1, k0, k1, d0, d1, y0, y1⟩ := wk_small h
  have hT := fun w => ref04_Text y y0 y1 w
  rw [st_11] at hT
  obtain ⟨sz, ex⟩ := ext_take (yrText y) rest11 rfl
  have hl := yr_len y0 y1
  have hsY : (bs (yrText y)).size ≤ 30 := hl
  have hK := fun w => ref01_Text k (by omega) (by omega) w
  have hD := fun w => ref01_Text d (by omega) (by omega) w
  have two := txt_two k0 k1
  have zK : (bs (txt k)).size ≤ 20 := by have := txt_len (n := k) (by omega) (by omega); rw [bs_size]; omega
  have zD : (bs (txt d)).size ≤ 20 := by have := txt_len (n := d) (by omega) (by omega); rw [bs_size]; omega
  unfold wkText
  rw [show bs (yrText y) ++ bs [45, 87] ++ bs (txt (k / 10)) ++ bs (txt (k % 10)) ++ bs [45] ++ bs (txt d) = bs (yrText y) ++ bs [45, 87] ++ (bs (txt (k / 10)) ++ bs (txt (k % 10))) ++ bs [45] ++ bs (txt d) by simp only [ByteArray.append_assoc], two]
  clear two f0 f1 h
  generalize bs (yrText y ++ rest11) = s at *
  generalize bs (yrText y) = Y at *
  generalize (yrText y).length = na at *
  generalize bs (txt k) = tk at *
  generalize bs (txt d) = td at *
  by_cases hk : k < 10
  · rw [if_pos hk]
    go_enter Tryd.func20, Tryd.ntmps20
    go_wp2_with fail
    refine (hR _).mono ?_
    rintro e w1 ⟨rfl, hb⟩
    have cw1_0 : w1.cell? ⟨w.heap.size, 0, none⟩ = some (.int .i64 y) := (hb.cell (p := ⟨w.heap.size, 0, none⟩) (by simp)).trans (by go_simp)
    have cw1_1 : w1.cell? ⟨w.heap.size, 1, none⟩ = some (.int .i64 k) := (hb.cell (p := ⟨w.heap.size, 1, none⟩) (by simp)).trans (by go_simp)
    have cw1_2 : w1.cell? ⟨w.heap.size, 2, none⟩ = some (.int .i64 d) := (hb.cell (p := ⟨w.heap.size, 2, none⟩) (by simp)).trans (by go_simp)
    have B1 : Below w.heap.size w w1 := by (focus (repeat' (first | exact Below.refl _ _ | refine Below.alloc ?_ ?_ _ | refine Below.setCell ?_ ?_ _ | refine Below.drew ?_ | refine below_drewN ?_ _ | refine Below.trans ?_ (Below.mono (by assumption) ?_) | refine Below.trans ?_ (Below.mono (BW.below _) ?_) | (simp; done) | (simp; omega) | omega)))
    have zw1 : w.heap.size < w1.heap.size := by have := hb.size; simp at this; omega
    clear hb hR
    go_wp2_with fail
    refine (hT _).mono ?_
    rintro e w2 ⟨rfl, hb⟩
    have cw2_0 : w2.cell? ⟨w.heap.size, 0, none⟩ = some (.int .i64 y) := (hb.cell (p := ⟨w.heap.size, 0, none⟩) zw1).trans cw1_0
    have cw2_1 : w2.cell? ⟨w.heap.size, 1, none⟩ = some (.int .i64 k) := (hb.cell (p := ⟨w.heap.size, 1, none⟩) zw1).trans cw1_1
    have cw2_2 : w2.cell? ⟨w.heap.size, 2, none⟩ = some (.int .i64 d) := (hb.cell (p := ⟨w.heap.size, 2, none⟩) zw1).trans cw1_2
    have zw2 : w.heap.size < w2.heap.size := Nat.lt_of_lt_of_le zw1 hb.size
    have B2 : Below w.heap.size w w2 := B1.trans (hb.mono (by omega))
    clear hb hT cw1_0 cw1_1 cw1_2
    go_wp2_with fail
    refine (hK _).mono ?_
    rintro e w3 ⟨rfl, hb⟩
    have cw3_0 : w3.cell? ⟨w.heap.size, 0, none⟩ = some (.int .i64 y) := (hb.cell (p := ⟨w.heap.size, 0, none⟩) zw2).trans cw2_0
    have cw3_1 : w3.cell? ⟨w.heap.size, 1, none⟩ = some (.int .i64 k) := (hb.cell (p := ⟨w.heap.size, 1, none⟩) zw2).trans cw2_1
    have cw3_2 : w3.cell? ⟨w.heap.size, 2, none⟩ = some (.int .i64 d) := (hb.cell (p := ⟨w.heap.size, 2, none⟩) zw2).trans cw2_2
    have zw3 : w.heap.size < w3.heap.size := Nat.lt_of_lt_of_le zw2 hb.size
    have B3 : Below w.heap.size w w3 := B2.trans (hb.mono (by omega))
    clear hb hK cw2_0 cw2_1 cw2_2
    go_wp2_with fail
    try dsimp only [List.append]
    refine wp_region_bw (by kernel_rfl) (by kernel_rfl) ?_; (repeat (go_big_quiet_step ((go_at_call 54; with_reducible exact bw_call (hD _))))); refine wpQuiet_nil ?_; intro _ hw'; obtain ⟨xq, hw''⟩ := hw'; subst hw''
    go_wp2_with fail
    go_ret
    exact ⟨rfl, B3.trans (xq.below.mono (by omega))⟩
  · rw [if_neg hk]
    go_enter Tryd.func20, Tryd.ntmps20
    go_wp2_with fail
    refine (hR _).mono ?_
    rintro e w1 ⟨rfl, hb⟩
    have cw1_0 : w1.cell? ⟨w.heap.size, 0, none⟩ = some (.int .i64 y) := (hb.cell (p := ⟨w.heap.size, 0, none⟩) (by simp)).trans (by go_simp)
    have cw1_1 : w1.cell? ⟨w.heap.size, 1, none⟩ = some (.int .i64 k) := (hb.cell (p := ⟨w.heap.size, 1, none⟩) (by simp)).trans (by go_simp)
    have cw1_2 : w1.cell? ⟨w.heap.size, 2, none⟩ = some (.int .i64 d) := (hb.cell (p := ⟨w.heap.size, 2, none⟩) (by simp)).trans (by go_simp)
    have B1 : Below w.heap.size w w1 := by (focus (repeat' (first | exact Below.refl _ _ | refine Below.alloc ?_ ?_ _ | refine Below.setCell ?_ ?_ _ | refine Below.drew ?_ | refine below_drewN ?_ _ | refine Below.trans ?_ (Below.mono (by assumption) ?_) | refine Below.trans ?_ (Below.mono (BW.below _) ?_) | (simp; done) | (simp; omega) | omega)))
    have zw1 : w.heap.size < w1.heap.size := by have := hb.size; simp at this; omega
    clear hb hR
    go_wp2_with fail
    refine (hT _).mono ?_
    rintro e w2 ⟨rfl, hb⟩
    have cw2_0 : w2.cell? ⟨w.heap.size, 0, none⟩ = some (.int .i64 y) := (hb.cell (p := ⟨w.heap.size, 0, none⟩) zw1).trans cw1_0
    have cw2_1 : w2.cell? ⟨w.heap.size, 1, none⟩ = some (.int .i64 k) := (hb.cell (p := ⟨w.heap.size, 1, none⟩) zw1).trans cw1_1
    have cw2_2 : w2.cell? ⟨w.heap.size, 2, none⟩ = some (.int .i64 d) := (hb.cell (p := ⟨w.heap.size, 2, none⟩) zw1).trans cw1_2
    have zw2 : w.heap.size < w2.heap.size := Nat.lt_of_lt_of_le zw1 hb.size
    have B2 : Below w.heap.size w w2 := B1.trans (hb.mono (by omega))
    clear hb hT cw1_0 cw1_1 cw1_2
    go_wp2_with fail
    refine (hK _).mono ?_
    rintro e w3 ⟨rfl, hb⟩
    have cw3_0 : w3.cell? ⟨w.heap.size, 0, none⟩ = some (.int .i64 y) := (hb.cell (p := ⟨w.heap.size, 0, none⟩) zw2).trans cw2_0
    have cw3_1 : w3.cell? ⟨w.heap.size, 1, none⟩ = some (.int .i64 k) := (hb.cell (p := ⟨w.heap.size, 1, none⟩) zw2).trans cw2_1
    have cw3_2 : w3.cell? ⟨w.heap.size, 2, none⟩ = some (.int .i64 d) := (hb.cell (p := ⟨w.heap.size, 2, none⟩) zw2).trans cw2_2
    have zw3 : w.heap.size < w3.heap.size := Nat.lt_of_lt_of_le zw2 hb.size
    have B3 : Below w.heap.size w w3 := B2.trans (hb.mono (by omega))
    clear hb hK cw2_0 cw2_1 cw2_2
    go_wp2_with fail
    try dsimp only [List.append]
    refine wp_region_bw (by kernel_rfl) (by kernel_rfl) ?_; (repeat (go_big_quiet_step ((go_at_call 54; with_reducible exact bw_call (hD _))))); refine wpQuiet_nil ?_; intro _ hw'; obtain ⟨xq, hw''⟩ := hw'; subst hw''
    go_wp2_with fail
    go_ret
    exact ⟨rfl, B3.trans (xq.below.mono (by omega))⟩
end Go.Proofs.YtblmlglkjmilkacDoor
