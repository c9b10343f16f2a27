/-
  Contracts of Days (rules), of the program.
-/
import Derived.Test.YtjddmcecllhlhaaDoorDayA
namespace Go.Proofs.YtjddmcecllhlhaaDoor
open Go.RowKit Cal
attribute [local go_sem] BW.cell BW.frozen
/-- What a named day leans on: the first of the month, and its length. -/
theorem rule_base {k w d y m : Int} (h : onFits k w d m = true) (hy : inB y (-39999) 39999 = true) : rightB y m 1 = true ∧ dayV y m 1 = numb y m 1 ∧ dayE y m 1 = 0 ∧ -100000000 ≤ numb y m 1 ∧ numb y m 1 ≤ 100000000 ∧ 28 ≤ mlen y m ∧ mlen y m ≤ 31 := by
  obtain ⟨m0, m1, d0, d1, k0, k1, _, hk⟩ := fit_kinds h
  obtain ⟨l0, l1, l2, l3, l4⟩ := mlen_le y m m0 m1
  have hy := inB_iff.1 hy
  have hr : rightB y m 1 = true := (right_iff _ _ _).2 (by omega)
  obtain ⟨n0, n1⟩ := numb_bd y m 1 (by omega)
  exact ⟨hr, by simp [dayV, hr], by simp [dayE, hr], n0, n1, by omega, by omega⟩

theorem dayrule_Days_n (k wk d y m : Int) (h : onFits k wk d m = false) (w : World) : Calls Tryd.prog 63 #[dat k wk d, .int .i64 y, .int .i64 m] w fun e w' => e = .returned (.tuple #[.int .i64 (ruleV k wk d y m), .int .i64 (ruleE k wk d y m)]) ∧ Below w.heap.size w w' := by
  have hF := fun w => dayrule_Fits k wk d m w
  rw [h] at hF
  obtain ⟨e1, e2⟩ := rule_n (y := y) h
  rw [e1, e2]
  clear e1 e2 h
  go_enter Tryd.func63, Tryd.ntmps63
  go_wp2_with (go_at_call 40; refine (hF _).mono ?_; rintro e w1 ⟨rfl, hb⟩; obtain ⟨hc, hf⟩ := bcell hb; have z := hb.size; (try simp at z); have z0 : w.heap.size < w1.heap.size := (by omega))
  go_ret2
  exact ⟨rfl, by (focus (repeat' (first | exact Below.refl _ _ | refine Below.alloc ?_ ?_ _ | refine Below.setCell ?_ ?_ _ | refine Below.drew ?_ | refine below_drewN ?_ _ | refine Below.trans ?_ (Below.mono (by assumption) ?_) | refine Below.trans ?_ (Below.mono (BW.below _) ?_) | (simp; done) | (simp; omega) | omega)))⟩
theorem dayrule_Days_r (k wk d y m : Int) (h : onFits k wk d m = true) (hy : inB y (-39999) 39999 = false) (w : World) : Calls Tryd.prog 63 #[dat k wk d, .int .i64 y, .int .i64 m] w fun e w' => e = .returned (.tuple #[.int .i64 (ruleV k wk d y m), .int .i64 (ruleE k wk d y m)]) ∧ Below w.heap.size w w' := by
  have hF := fun w => dayrule_Fits k wk d m w
  have hI := fun w => dayrule_within y (-39999) 39999 w
  rw [h] at hF
  rw [hy] at hI
  obtain ⟨e1, e2⟩ := rule_r h hy
  rw [e1, e2]
  clear e1 e2 h hy
  go_enter Tryd.func63, Tryd.ntmps63
  go_wp2_with (first | (go_at_call 40; refine (hF _).mono ?_; rintro e w1 ⟨rfl, hb⟩; obtain ⟨hc, hf⟩ := bcell hb; have z := hb.size; (try simp at z); have z0 : w.heap.size < w1.heap.size := (by omega)) | (go_at_call 68; refine (hI _).mono ?_; rintro e w' ⟨rfl, rfl⟩))
  go_ret2
  exact ⟨rfl, by (focus (repeat' (first | exact Below.refl _ _ | refine Below.alloc ?_ ?_ _ | refine Below.setCell ?_ ?_ _ | refine Below.drew ?_ | refine below_drewN ?_ _ | refine Below.trans ?_ (Below.mono (by assumption) ?_) | refine Below.trans ?_ (Below.mono (BW.below _) ?_) | (simp; done) | (simp; omega) | omega)))⟩
set_option maxHeartbeats 2000000 in
theorem dayrule_Days_y (k wk d y m : Int) (ky : I64 y) (h : onFits k wk d m = true) (hy : inB y (-39999) 39999 = true) (w : World) : Calls Tryd.prog 63 #[dat k wk d, .int .i64 y, .int .i64 m] w fun e w' => e = .returned (.tuple #[.int .i64 (ruleV k wk d y m), .int .i64 (ruleE k wk d y m)]) ∧ Below w.heap.size w w' := by
  have hF := fun w => dayrule_Fits k wk d m w
  have hI := fun w => dayrule_within y (-39999) 39999 w
  have hD := fun w => civil_Days y m 1 ky w
  have hL := fun w => civil_Len y m ky w
  obtain ⟨hr, v1, v2, n0, n1, l0, l1⟩ := rule_base h hy
  obtain ⟨m0, m1, d0, d1, k0, k1, _, hk⟩ := fit_kinds h
  obtain ⟨e1, e2⟩ := rule_y h hy
  rw [h] at hF
  rw [hy] at hI
  rw [v1, v2] at hD
  rw [e1, e2]
  clear e1 e2 h hy hr v1 v2
  have eN : ruleN k wk d y m = if k = 1 then (numb y m 1 + mlen y m - 1) - backI (numb y m 1 + mlen y m - 1) wk
    else if k = 2 then numb y m 1 + d - 1 + (6 - backI (numb y m 1 + d - 1 + 6) wk)
    else if k = 3 then numb y m 1 + d - 1 - backI (numb y m 1 + d - 1) wk
    else numb y m 1 + d - 1 := rfl
  rw [eN]
  clear eN
  generalize numb y m 1 = f at *
  generalize mlen y m = L at *
  rcases hk with rfl | rfl | rfl | rfl
  · have kn : I64 (f + L - 1) := I64.sm (by omega)
    have hB := fun w => dayrule_back (f + L - 1) wk kn k0 k1 w
    obtain ⟨b0, b1⟩ := backI_bd (f + L - 1) wk
    rw [if_pos rfl]
    generalize backI (f + L - 1) wk = b at *
    go_enter Tryd.func63, Tryd.ntmps63
    go_wp2_with (first | (go_at_call 40; refine (hF _).mono ?_; rintro e w1 ⟨rfl, hb⟩; obtain ⟨hc, hf⟩ := bcell hb; have z := hb.size; (try simp at z); have z0 : w.heap.size < w1.heap.size := (by omega)) | (go_at_call 68; refine (hI _).mono ?_; rintro e w' ⟨rfl, rfl⟩) | (go_at_call 97; refine (hD _).mono ?_; rintro e w2 ⟨rfl, hb⟩; obtain ⟨hc, hf⟩ := bcell hb; have z := hb.size; (try simp at z); have z0 : w.heap.size < w2.heap.size := (by omega)) | (go_at_call 69; refine (hL _).mono ?_; rintro e w' ⟨rfl, rfl⟩) | (go_at_call 98; refine (hB _).mono ?_; rintro e w3 ⟨rfl, hb⟩; obtain ⟨hc, hf⟩ := bcell hb; have z := hb.size; (try simp at z); have z0 : w.heap.size < w3.heap.size := (by omega)))
    go_ret2
    exact ⟨rfl, by (focus (repeat' (first | exact Below.refl _ _ | refine Below.alloc ?_ ?_ _ | refine Below.setCell ?_ ?_ _ | refine Below.drew ?_ | refine below_drewN ?_ _ | refine Below.trans ?_ (Below.mono (by assumption) ?_) | refine Below.trans ?_ (Below.mono (BW.below _) ?_) | (simp; done) | (simp; omega) | omega)))⟩
  · go_enter Tryd.func63, Tryd.ntmps63
    go_wp2_with (first | (go_at_call 40; refine (hF _).mono ?_; rintro e w1 ⟨rfl, hb⟩; obtain ⟨hc, hf⟩ := bcell hb; have z := hb.size; (try simp at z); have z0 : w.heap.size < w1.heap.size := (by omega)) | (go_at_call 68; refine (hI _).mono ?_; rintro e w' ⟨rfl, rfl⟩) | (go_at_call 97; refine (hD _).mono ?_; rintro e w2 ⟨rfl, hb⟩; obtain ⟨hc, hf⟩ := bcell hb; have z := hb.size; (try simp at z); have z0 : w.heap.size < w2.heap.size := (by omega)) | (go_at_call 69; refine (hL _).mono ?_; rintro e w' ⟨rfl, rfl⟩))
    go_ret2
    exact ⟨rfl, by (focus (repeat' (first | exact Below.refl _ _ | refine Below.alloc ?_ ?_ _ | refine Below.setCell ?_ ?_ _ | refine Below.drew ?_ | refine below_drewN ?_ _ | refine Below.trans ?_ (Below.mono (by assumption) ?_) | refine Below.trans ?_ (Below.mono (BW.below _) ?_) | (simp; done) | (simp; omega) | omega)))⟩
  · have kn : I64 (f + d - 1 + 6) := I64.sm (by omega)
    have hB := fun w => dayrule_back (f + d - 1 + 6) wk kn k0 k1 w
    rw [show f + d - 1 + 6 = f + d - 1 + 7 - 1 from by omega] at hB
    obtain ⟨b0, b1⟩ := backI_bd (f + d - 1 + 6) wk
    rw [if_neg (by omega), if_pos rfl]
    rw [show f + d - 1 + 6 = f + d - 1 + 7 - 1 from by omega] at b0 b1
    rw [show f + d - 1 + 6 = f + d - 1 + 7 - 1 from by omega]
    generalize backI (f + d - 1 + 7 - 1) wk = b at *
    go_enter Tryd.func63, Tryd.ntmps63
    go_wp2_with (first | (go_at_call 40; refine (hF _).mono ?_; rintro e w1 ⟨rfl, hb⟩; obtain ⟨hc, hf⟩ := bcell hb; have z := hb.size; (try simp at z); have z0 : w.heap.size < w1.heap.size := (by omega)) | (go_at_call 68; refine (hI _).mono ?_; rintro e w' ⟨rfl, rfl⟩) | (go_at_call 97; refine (hD _).mono ?_; rintro e w2 ⟨rfl, hb⟩; obtain ⟨hc, hf⟩ := bcell hb; have z := hb.size; (try simp at z); have z0 : w.heap.size < w2.heap.size := (by omega)) | (go_at_call 69; refine (hL _).mono ?_; rintro e w' ⟨rfl, rfl⟩) | (go_at_call 98; refine (hB _).mono ?_; rintro e w3 ⟨rfl, hb⟩; obtain ⟨hc, hf⟩ := bcell hb; have z := hb.size; (try simp at z); have z0 : w.heap.size < w3.heap.size := (by omega)))
    go_ret2
    exact ⟨rfl, by (focus (repeat' (first | exact Below.refl _ _ | refine Below.alloc ?_ ?_ _ | refine Below.setCell ?_ ?_ _ | refine Below.drew ?_ | refine below_drewN ?_ _ | refine Below.trans ?_ (Below.mono (by assumption) ?_) | refine Below.trans ?_ (Below.mono (BW.below _) ?_) | (simp; done) | (simp; omega) | omega)))⟩
  · have kn : I64 (f + d - 1) := I64.sm (by omega)
    have hB := fun w => dayrule_back (f + d - 1) wk kn k0 k1 w
    obtain ⟨b0, b1⟩ := backI_bd (f + d - 1) wk
    rw [if_neg (by omega), if_neg (by omega), if_pos rfl]
    generalize backI (f + d - 1) wk = b at *
    go_enter Tryd.func63, Tryd.ntmps63
    go_wp2_with (first | (go_at_call 40; refine (hF _).mono ?_; rintro e w1 ⟨rfl, hb⟩; obtain ⟨hc, hf⟩ := bcell hb; have z := hb.size; (try simp at z); have z0 : w.heap.size < w1.heap.size := (by omega)) | (go_at_call 68; refine (hI _).mono ?_; rintro e w' ⟨rfl, rfl⟩) | (go_at_call 97; refine (hD _).mono ?_; rintro e w2 ⟨rfl, hb⟩; obtain ⟨hc, hf⟩ := bcell hb; have z := hb.size; (try simp at z); have z0 : w.heap.size < w2.heap.size := (by omega)) | (go_at_call 69; refine (hL _).mono ?_; rintro e w' ⟨rfl, rfl⟩) | (go_at_call 98; refine (hB _).mono ?_; rintro e w3 ⟨rfl, hb⟩; obtain ⟨hc, hf⟩ := bcell hb; have z := hb.size; (try simp at z); have z0 : w.heap.size < w3.heap.size := (by omega)))
    go_ret2
    exact ⟨rfl, by (focus (repeat' (first | exact Below.refl _ _ | refine Below.alloc ?_ ?_ _ | refine Below.setCell ?_ ?_ _ | refine Below.drew ?_ | refine below_drewN ?_ _ | refine Below.trans ?_ (Below.mono (by assumption) ?_) | refine Below.trans ?_ (Below.mono (BW.below _) ?_) | (simp; done) | (simp; omega) | omega)))⟩
theorem dayrule_Days (k wk d y m : Int) (ky : I64 y) (w : World) : Calls Tryd.prog 63 #[dat k wk d, .int .i64 y, .int .i64 m] w fun e w' => e = .returned (.tuple #[.int .i64 (ruleV k wk d y m), .int .i64 (ruleE k wk d y m)]) ∧ Below w.heap.size w w' := by
  cases h : onFits k wk d m
  · exact dayrule_Days_n k wk d y m h w
  · cases hy : inB y (-39999) 39999
    · exact dayrule_Days_r k wk d y m h hy w
    · exact dayrule_Days_y k wk d y m ky h hy w
end Go.Proofs.YtjddmcecllhlhaaDoor
