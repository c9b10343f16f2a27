/-
  Contracts of the names of days, of the reference.
-/
import Derived.Test.YtblmlglkjmilkaaDayB
namespace Go.Proofs.Ytblmlglkjmilkaa
open Go.RowKit Cal
attribute [local go_sem] BW.cell BW.frozen

theorem three (n l h : Int) (hlh : l ≤ h + 1) : (∃ (_ : l ≤ n) (_ : n ≤ h), inB n l h = true) ∨ (∃ (_ : decide (l ≤ n) = false), inB n l h = false) ∨ (∃ (_ : l ≤ n) (_ : decide (n ≤ h) = false), inB n l h = false) := by
  by_cases h1 : l ≤ n
  · by_cases h2 : n ≤ h
    · exact .inl ⟨h1, h2, inB_iff.2 ⟨h1, h2⟩⟩
    · exact .inr (.inr ⟨h1, decide_eq_false h2, inB_no.2 (by omega)⟩)
  · exact .inr (.inl ⟨decide_eq_false h1, inB_no.2 (by omega)⟩)
theorem onOk_1 (w d : Int) : onOk 1 w d = (inB w 0 6 && (d == 0)) := by
  rw [Bool.eq_iff_iff]; simp [onOk, inB]; omega
theorem onOk_00 (w d : Int) : onOk 0 w d = (inB d 1 31 && (w == 0)) := by
  rw [Bool.eq_iff_iff]; simp [onOk, inB]; omega
theorem onOk_23 (k w d : Int) (h : k = 2 ∨ k = 3) : onOk k w d = (inB w 0 6 && inB d 1 31) := onOk_n k w d (inB_iff.2 (by omega)) (by omega) (by omega)
theorem onOk_no (k w d : Int) (h0 : k ≠ 0) (h1 : k ≠ 1) (h2 : k ≠ 2) (h3 : k ≠ 3) : onOk k w d = false := by simp [onOk]; omega
theorem onOk_v (k w d : Int) (a b : Bool) (ha : inB w 0 6 = a) (hb : inB d 1 31 = b) : onOk k w d = if k = 0 then (b && (w == 0)) else if k = 1 then (a && (d == 0)) else if k = 2 then (a && b) else if k = 3 then (a && b) else false := by
  subst ha; subst hb
  by_cases h0 : k = 0
  · subst h0; rw [if_pos rfl, onOk_00]
  by_cases h1 : k = 1
  · subst h1; rw [if_neg (by omega), if_pos rfl, onOk_1]
  by_cases h2 : k = 2
  · subst h2; rw [if_neg (by omega), if_neg (by omega), if_pos rfl, onOk_23 _ _ _ (.inl rfl)]
  by_cases h3 : k = 3
  · subst h3; rw [if_neg (by omega), if_neg (by omega), if_neg (by omega), if_pos rfl, onOk_23 _ _ _ (.inr rfl)]
  rw [if_neg h0, if_neg h1, if_neg h2, if_neg h3, onOk_no k w d h0 h1 h2 h3]
theorem five (k : Int) : k = 0 ∨ k = 1 ∨ k = 2 ∨ k = 3 ∨ ((k == 0) = false ∧ (k == 1) = false ∧ (k == 2) = false ∧ (k == 3) = false) := by
  simp; omega

set_option maxHeartbeats 2000000 in
theorem ref05_Right (k wk d : Int) (w : World) : Calls Try.prog 40 #[dat k wk d] w fun e w' => e = .returned (.bool (onOk k wk d)) ∧ Below w.heap.size w w' := by
  rcases three wk 0 6 (by omega) with ⟨h1, h2, e1⟩ | ⟨h1, e1⟩ | ⟨h1, h2, e1⟩
  all_goals
    rcases three d 1 31 (by omega) with ⟨g1, g2, e2⟩ | ⟨g1, e2⟩ | ⟨g1, g2, e2⟩
  all_goals
    rw [onOk_v k wk d _ _ e1 e2]
    clear e1 e2
    rcases five k with rfl | rfl | rfl | rfl | ⟨k0, k1, k2, k3⟩
  all_goals
    go_enter Try.func40, Try.ntmps40
    go_wp2
    all_goals go_ret
    all_goals exact ⟨ret_bool (by first | rfl | (simp at *; done) | (simp at *; omega)), by (focus (repeat' (first | exact Below.refl _ _ | refine Below.alloc ?_ ?_ _ | refine Below.setCell ?_ ?_ _ | refine Below.drew ?_ | refine below_drewN ?_ _ | refine Below.trans ?_ (Below.mono (by assumption) ?_) | refine Below.trans ?_ (Below.mono (BW.below _) ?_) | (simp; done) | (simp; omega) | omega)))⟩
set_option maxHeartbeats 2000000 in
theorem ref05_Fits (k wk d m : Int) (w : World) : Calls Try.prog 42 #[dat k wk d, .int .i64 m] w fun e w' => e = .returned (.bool (onFits k wk d m)) ∧ Below w.heap.size w w' := by
  have hR := fun w => ref05_Right k wk d w
  have hL := fun w => ref03_Len 2001 m (I64.sm (by omega)) w
  rw [mlen_cm] at hL
  have e : onFits k wk d m = (onOk k wk d && (inB m 1 12 && decide (d ≤ mlen 1 m))) := rfl
  rw [e]
  clear e
  generalize onOk k wk d = a at *
  generalize mlen 1 m = L at *
  rcases three m 1 12 (by omega) with ⟨h1, h2, e1⟩ | ⟨h1, e1⟩ | ⟨h1, h2, e1⟩
  all_goals
    rw [e1]
    clear e1
    cases a
  all_goals
    go_enter Try.func42, Try.ntmps42
    go_wp2_with (fail)
    refine wp_region_bw (by kernel_rfl) (by kernel_rfl) ?_; (repeat (go_big_quiet_step ((first | (go_at_call 40; exact bw_call (hR _)) | (go_at_call 53; exact bw_call (hL _)))))); refine wpQuiet_nil ?_; intro _ hw'; obtain ⟨xq, hw''⟩ := hw'; subst hw''
    go_wp2_with (fail)
    go_ret
    exact ⟨rfl, by (focus (repeat' (first | exact Below.refl _ _ | refine Below.alloc ?_ ?_ _ | refine Below.setCell ?_ ?_ _ | refine Below.drew ?_ | refine below_drewN ?_ _ | refine Below.trans ?_ (Below.mono (by assumption) ?_) | refine Below.trans ?_ (Below.mono (BW.below _) ?_) | (simp; done) | (simp; omega) | omega)))⟩

theorem ref05_Window (k wk d m : Int) (w : World) : Calls Try.prog 38 #[dat k wk d, .int .i64 m] w fun e w' => e = .returned (.tuple #[.int .i64 (winL k wk d m), .int .i64 (winH k wk d m), .int .i64 (winE k wk d m)]) ∧ Below w.heap.size w w' := by
  have hF := fun w => ref05_Fits k wk d m w
  have hL := fun w => ref03_Len 2001 m (I64.sm (by omega)) w
  have hL4 := fun w => ref03_Len 2000 m (I64.sm (by omega)) w
  rw [mlen_cm] at hL
  rw [mlen_lp] at hL4
  cases h : onFits k wk d m
  · rw [h] at hF
    obtain ⟨e1, e2, e3⟩ := win_n h
    rw [e1, e2, e3]
    clear e1 e2 e3 h
    go_enter Try.func38, Try.ntmps38
    go_wp2_with (go_at_call 42; refine (hF _).mono ?_; rintro e w1 ⟨rfl, hb⟩; obtain ⟨hc, hf⟩ := bcell hb; have z := hb.size; (try simp at z); have z0 : w.heap.size < w1.heap.size := (by omega))
    go_ret3
    exact ⟨rfl, by (focus (repeat' (first | exact Below.refl _ _ | refine Below.alloc ?_ ?_ _ | refine Below.setCell ?_ ?_ _ | refine Below.drew ?_ | refine below_drewN ?_ _ | refine Below.trans ?_ (Below.mono (by assumption) ?_) | refine Below.trans ?_ (Below.mono (BW.below _) ?_) | (simp; done) | (simp; omega) | omega)))⟩
  · rw [h] at hF
    obtain ⟨e1, e2, e3⟩ := win_y h
    rw [e1, e2, e3]
    clear e1 e2 e3
    obtain ⟨m0, m1, d0, d1, k0, k1, _, hk⟩ := fit_kinds h
    obtain ⟨l0, l1, l2, l3, l4⟩ := mlen_le 1 m m0 m1
    clear h
    generalize mlen 1 m = L at *
    generalize mlen 4 m = L4 at *
    rcases hk with rfl | rfl | rfl | rfl
    · go_enter Try.func38, Try.ntmps38
      go_wp2_with (first | (go_at_call 42; refine (hF _).mono ?_; rintro e w1 ⟨rfl, hb⟩; obtain ⟨hc, hf⟩ := bcell hb; have z := hb.size; (try simp at z); have z0 : w.heap.size < w1.heap.size := (by omega)) | (go_at_call 53; with_reducible refine (hL _).mono ?_; rintro e w2 ⟨rfl, hb⟩; obtain ⟨hc, hf⟩ := bcell hb; have z := hb.size; (try simp at z)) | (go_at_call 53; with_reducible refine (hL4 _).mono ?_; rintro e w3 ⟨rfl, hb⟩; obtain ⟨hc, hf⟩ := bcell hb; have z := hb.size; (try simp at z)))
      go_ret3
      exact ⟨ret3 (by first | rfl | omega) (by first | rfl | omega) rfl, by (focus (repeat' (first | exact Below.refl _ _ | refine Below.alloc ?_ ?_ _ | refine Below.setCell ?_ ?_ _ | refine Below.drew ?_ | refine below_drewN ?_ _ | refine Below.trans ?_ (Below.mono (by assumption) ?_) | refine Below.trans ?_ (Below.mono (BW.below _) ?_) | (simp; done) | (simp; omega) | omega)))⟩
    all_goals
      go_enter Try.func38, Try.ntmps38
      go_wp2_with (go_at_call 42; refine (hF _).mono ?_; rintro e w1 ⟨rfl, hb⟩; obtain ⟨hc, hf⟩ := bcell hb; have z := hb.size; (try simp at z); have z0 : w.heap.size < w1.heap.size := (by omega))
      refine wp_region_bw (by kernel_rfl) (by kernel_rfl) ?_; (repeat (go_big_quiet_step (fail))); refine wpQuiet_nil ?_; intro _ hw'; obtain ⟨xq, hw''⟩ := hw'; subst hw''
      go_wp2_with fail
      go_ret3
      exact ⟨ret3 (by first | rfl | omega) (by first | rfl | omega) rfl, by (focus (repeat' (first | exact Below.refl _ _ | refine Below.alloc ?_ ?_ _ | refine Below.setCell ?_ ?_ _ | refine Below.drew ?_ | refine below_drewN ?_ _ | refine Below.trans ?_ (Below.mono (by assumption) ?_) | refine Below.trans ?_ (Below.mono (BW.below _) ?_) | (simp; done) | (simp; omega) | omega)))⟩
end Go.Proofs.Ytblmlglkjmilkaa
