/-
  When a rule changes something: nom, Nom, near, Less.
-/
import Derived.Test.YtjddmcecllhlhaaDoorEyC
import Derived.Test.YtjddmcecllhlhaaDoorEyS
import Derived.Test.YtjddmcecllhlhaaDoorDayB
namespace Go.Proofs.YtjddmcecllhlhaaDoor
open Go.RowKit Cal
attribute [local go_sem] BW.cell BW.frozen
set_option maxRecDepth 100000 in
theorem occur_nom (r : Ru) (hr : RuFine r) (y : Int) (h0 : -32767 ≤ y) (h1 : y ≤ 32767) (w : World) : Calls Tryd.prog 35 #[ruV r, .int .i64 y] w fun e w' => e = .returned (.int .i64 (nomV r y)) ∧ Below w.heap.size w w' := by
  have hD := fun w => dayrule_Days r.k r.wk r.d y r.m (by unfold I64; omega) w
  rw [rule_val hr h0 h1] at hD
  have hb := nom_bd hr y h0 h1
  have hs := hour_bd hr.2.2.2.2.1
  have e : nomV r y = ruleN r.k r.wk r.d y r.m * 86400 + r.s := rfl
  rw [e] at hb ⊢
  generalize ruleN r.k r.wk r.d y r.m = N at *
  clear hr e
  obtain ⟨nm, f, t, m, k, wk, d, s, b, sv, l⟩ := r
  dsimp only at hD hb hs ⊢
  generalize ruleE k wk d y m = E at *
  have e1 : wrap64 (N * 86400) = N * 86400 := by unfold wrap64; omega
  have e2 : wrap64 (N * 86400 + s) = N * 86400 + s := by unfold wrap64; omega
  have e3 : wrap64 (wrap64 (N * 86400) + s) = N * 86400 + s := by rw [e1, e2]
  go_enter Tryd.func35, Tryd.ntmps35
  go_wp2_with (go_at_call 63; refine (hD _).mono ?_; rintro e w1 ⟨rfl, hb⟩; obtain ⟨hc, hf⟩ := bcell hb; have z := hb.size; (try simp at z); have z0 : w.heap.size < w1.heap.size := (by omega))
  go_ret
  exact ⟨rfl, by (focus (repeat' (first | exact Below.refl _ _ | refine Below.alloc ?_ ?_ _ | refine Below.setCell ?_ ?_ _ | refine Below.drew ?_ | refine below_drewN ?_ _ | refine Below.trans ?_ (Below.mono (by assumption) ?_) | refine Below.trans ?_ (Below.mono (BW.below _) ?_) | (simp; done) | (simp; omega) | omega)))⟩
theorem occur_Nom_no (r : Ru) (hR : RightIs r true) (y : Int) (h : y < r.f ∨ r.t < y) (w : World) : Calls Tryd.prog 13 #[ruV r, .int .i64 y] w fun e w' => e = .returned (.tuple #[.int .i64 0, .int .i64 1]) ∧ Below w.heap.size w w' := by
  unfold RightIs at hR
  obtain ⟨nm, f, t, m, k, wk, d, s, b, sv, l⟩ := r
  dsimp only at hR h ⊢
  rcases Classical.em (y < f) with h1 | h1
  · go_enter Tryd.func13, Tryd.ntmps13
    go_wp2_with (go_at_call 15; refine (hR _).mono ?_; rintro e w1 ⟨rfl, hb⟩; obtain ⟨hc, hf⟩ := bcell hb; have z := hb.size; (try simp at z); have z0 : w.heap.size < w1.heap.size := (by omega))
    go_ret2
    exact ⟨rfl, by (focus (repeat' (first | exact Below.refl _ _ | refine Below.alloc ?_ ?_ _ | refine Below.setCell ?_ ?_ _ | refine Below.drew ?_ | refine below_drewN ?_ _ | refine Below.trans ?_ (Below.mono (by assumption) ?_) | refine Below.trans ?_ (Below.mono (BW.below _) ?_) | (simp; done) | (simp; omega) | omega)))⟩
  · have h2 : t < y := by omega
    go_enter Tryd.func13, Tryd.ntmps13
    go_wp2_with (go_at_call 15; refine (hR _).mono ?_; rintro e w1 ⟨rfl, hb⟩; obtain ⟨hc, hf⟩ := bcell hb; have z := hb.size; (try simp at z); have z0 : w.heap.size < w1.heap.size := (by omega))
    go_ret2
    exact ⟨rfl, by (focus (repeat' (first | exact Below.refl _ _ | refine Below.alloc ?_ ?_ _ | refine Below.setCell ?_ ?_ _ | refine Below.drew ?_ | refine below_drewN ?_ _ | refine Below.trans ?_ (Below.mono (by assumption) ?_) | refine Below.trans ?_ (Below.mono (BW.below _) ?_) | (simp; done) | (simp; omega) | omega)))⟩
theorem occur_Nom (r : Ru) (hR : RightIs r true) (hr : RuFine r) (y : Int) (h0 : r.f ≤ y) (h1 : y ≤ r.t) (w : World) : Calls Tryd.prog 13 #[ruV r, .int .i64 y] w fun e w' => e = .returned (.tuple #[.int .i64 (nomV r y), .int .i64 0]) ∧ Below w.heap.size w w' := by
  have hN := fun w => occur_nom r hr y (by have := hr.1; omega) (by have := hr.2.2.1; omega) w
  unfold RightIs at hR
  generalize nomV r y = N at *
  clear hr
  obtain ⟨nm, f, t, m, k, wk, d, s, b, sv, l⟩ := r
  dsimp only at hR hN h0 h1 ⊢
  have h0' : ¬ y < f := by omega
  have h1' : ¬ t < y := by omega
  go_enter Tryd.func13, Tryd.ntmps13
  go_wp2_with (first | (go_at_call 15; refine (hR _).mono ?_; rintro e w1 ⟨rfl, hb⟩; obtain ⟨hc, hf⟩ := bcell hb; have z := hb.size; (try simp at z); have z0 : w.heap.size < w1.heap.size := (by omega)) | (go_at_call 35; refine (hN _).mono ?_; rintro e w2 ⟨rfl, hb⟩; obtain ⟨hc, hf⟩ := bcell hb; have z := hb.size; (try simp at z); have z0 : w.heap.size < w2.heap.size := (by omega)))
  go_ret2
  exact ⟨rfl, by (focus (repeat' (first | exact Below.refl _ _ | refine Below.alloc ?_ ?_ _ | refine Below.setCell ?_ ?_ _ | refine Below.drew ?_ | refine below_drewN ?_ _ | refine Below.trans ?_ (Below.mono (by assumption) ?_) | refine Below.trans ?_ (Below.mono (BW.below _) ?_) | (simp; done) | (simp; omega) | omega)))⟩
theorem occur_near (t : Int) (kt : I64 t) (w : World) : Calls Tryd.prog 74 #[.int .i64 t] w fun e w' => e = .returned (.int .i64 (nearV t)) ∧ Below w.heap.size w w' := by
  have hC := fun w => num_Clamp t (-1099511627776) 1099511627776 (by omega) w
  have hS := fun w => stamp_Of (max (-1099511627776) (min t 1099511627776)) (by unfold I64; omega) (clamp_ok t) w
  have e : nearV t = dateY (max (-1099511627776) (min t 1099511627776) / 86400) := rfl
  rw [e]
  clear e
  generalize max (-1099511627776) (min t 1099511627776) = c at *
  generalize dateY (c / 86400) = y at *
  generalize dateM (c / 86400) = m at *
  generalize dateD (c / 86400) = d at *
  generalize c % 86400 / 3600 = h at *
  generalize c % 86400 % 3600 / 60 = i at *
  generalize c % 86400 % 60 = s at *
  go_enter Tryd.func74, Tryd.ntmps74
  go_wp2_with (first | (go_at_call 104; refine (hC _).mono ?_; rintro e w' ⟨rfl, rfl⟩) | (go_at_call 103; refine (hS _).mono ?_; rintro e w1 ⟨rfl, hb⟩; obtain ⟨hc, hf⟩ := bcell hb; have z := hb.size; (try simp at z)))
  go_ret
  exact ⟨rfl, by (focus (repeat' (first | exact Below.refl _ _ | refine Below.alloc ?_ ?_ _ | refine Below.setCell ?_ ?_ _ | refine Below.drew ?_ | refine below_drewN ?_ _ | refine Below.trans ?_ (Below.mono (by assumption) ?_) | refine Below.trans ?_ (Below.mono (BW.below _) ?_) | (simp; done) | (simp; omega) | omega)))⟩
def cmpE (a b : Int) : Int := if a < b then -1 else if b < a then 1 else 0
theorem cmpE_cases (a b : Int) : (a < b ∧ cmpE a b = -1) ∨ (b < a ∧ cmpE a b = 1) ∨ (a = b ∧ cmpE a b = 0) := by
  unfold cmpE; split
  · omega
  · split <;> omega
theorem ey_isNaN (a : Int) (w : World) : Calls Tryd.prog 125 #[.int .i64 a] w fun e w' => e = .returned (.bool false) ∧ w = w' := by
  go_enter Tryd.func125, Tryd.ntmps125
  go_wp2
  go_ret
  exact ⟨rfl, rfl⟩
theorem ey_Compare64 (a b : Int) (w : World) : Calls Tryd.prog 106 #[.int .i64 a, .int .i64 b] w fun e w' => e = .returned (.int .i64 (cmpE a b)) ∧ w = w' := by
  rcases cmpE_cases a b with ⟨h, e⟩ | ⟨h, e⟩ | ⟨rfl, e⟩
  all_goals
    rw [e]
    clear e
    go_enter Tryd.func106, Tryd.ntmps106
    go_wp2_with (go_at_call 125; refine (ey_isNaN _ _).mono ?_; rintro e w' ⟨rfl, rfl⟩)
    go_ret
    exact ⟨rfl, rfl⟩
def or2 (a b : Int) : Int := if a ≠ 0 then a else b
theorem ey_Or (a b : Int) (g : Nat) (w : World) (h0 : w.cell? ⟨g, 0, none⟩ = some (.int .i64 a)) (h1 : w.cell? ⟨g, 1, none⟩ = some (.int .i64 b)) :
    Calls Tryd.prog 105 #[.slice (some ⟨g, 0, none⟩) 2 2] w fun e w' => e = .returned (.int .i64 (or2 a b)) ∧ w = w' := by
  by_cases ha : a = 0
  · by_cases hb : b = 0
    · subst ha hb
      rw [show or2 0 0 = 0 from rfl]
      go_enter Tryd.func105, Tryd.ntmps105
      go_wp2
      refine wp_loop_rounds 3 ?_
      rw [rounds_succ]
      go_wp2
      rw [rounds_succ]
      go_wp2
      rw [rounds_succ]
      go_wp2
      go_ret
      exact ⟨rfl, rfl⟩
    · subst ha
      have hb' : (b != 0) = true := by simpa using hb
      rw [show or2 0 b = b by simp [or2]]
      clear hb
      go_enter Tryd.func105, Tryd.ntmps105
      go_wp2
      refine wp_loop_rounds 3 ?_
      rw [rounds_succ]
      go_wp2
      rw [rounds_succ]
      go_wp2
      go_ret
      exact ⟨rfl, rfl⟩
  · have ha' : (a != 0) = true := by simpa using ha
    rw [show or2 a b = a by simp [or2, ha]]
    clear ha
    go_enter Tryd.func105, Tryd.ntmps105
    go_wp2
    refine wp_loop_rounds 3 ?_
    rw [rounds_succ]
    go_wp2
    go_ret
    exact ⟨rfl, rfl⟩
theorem or2_less (n1 r1 n2 r2 : Int) : decide (or2 (cmpE n1 n2) (cmpI r1 r2) < 0) = lessB n1 r1 n2 r2 := by
  rw [Bool.eq_iff_iff]
  unfold lessB or2
  simp only [decide_eq_true_eq]
  rcases cmpE_cases n1 n2 with ⟨h, e⟩ | ⟨h, e⟩ | ⟨h, e⟩ <;> rcases cmpI_cases r1 r2 with ⟨h', e'⟩ | ⟨h', e'⟩ | ⟨h', e'⟩ <;> rw [e, e'] <;> simp <;> omega
/-- An occurrence. -/
abbrev occ (r y n : Int) : Value := .agg #[.int .i64 r, .int .i64 y, .int .i64 n]
theorem occur_Less (r1 y1 n1 r2 y2 n2 : Int) (w : World) : Calls Tryd.prog 77 #[occ r1 y1 n1, occ r2 y2 n2] w fun e w' => e = .returned (.bool (lessB n1 r1 n2 r2)) ∧ Below w.heap.size w w' := by
  rw [← or2_less]
  go_enter Tryd.func77, Tryd.ntmps77
  go_wp2_with fail
  have B0 : Below w.heap.size w ((w.alloc (.cells #[.int .i64 r1, .int .i64 y1, .int .i64 n1] 53)).alloc (.cells #[.int .i64 r2, .int .i64 y2, .int .i64 n2] 53)) := by (focus (repeat' (first | exact Below.refl _ _ | refine Below.alloc ?_ ?_ _ | refine Below.setCell ?_ ?_ _ | refine Below.drew ?_ | refine below_drewN ?_ _ | refine Below.trans ?_ (Below.mono (by assumption) ?_) | refine Below.trans ?_ (Below.mono (BW.below _) ?_) | (simp; done) | (simp; omega) | omega)))
  have a0 : ((w.alloc (.cells #[.int .i64 r1, .int .i64 y1, .int .i64 n1] 53)).alloc (.cells #[.int .i64 r2, .int .i64 y2, .int .i64 n2] 53)).cell? ⟨w.heap.size, 0, none⟩ = some (.int .i64 r1) := by go_simp
  have a2 : ((w.alloc (.cells #[.int .i64 r1, .int .i64 y1, .int .i64 n1] 53)).alloc (.cells #[.int .i64 r2, .int .i64 y2, .int .i64 n2] 53)).cell? ⟨w.heap.size, 2, none⟩ = some (.int .i64 n1) := by go_simp
  have b0 : ((w.alloc (.cells #[.int .i64 r1, .int .i64 y1, .int .i64 n1] 53)).alloc (.cells #[.int .i64 r2, .int .i64 y2, .int .i64 n2] 53)).cell? ⟨w.heap.size + 1, 0, none⟩ = some (.int .i64 r2) := by go_simp
  have b2 : ((w.alloc (.cells #[.int .i64 r1, .int .i64 y1, .int .i64 n1] 53)).alloc (.cells #[.int .i64 r2, .int .i64 y2, .int .i64 n2] 53)).cell? ⟨w.heap.size + 1, 2, none⟩ = some (.int .i64 n2) := by go_simp
  have z0 : w.heap.size < ((w.alloc (.cells #[.int .i64 r1, .int .i64 y1, .int .i64 n1] 53)).alloc (.cells #[.int .i64 r2, .int .i64 y2, .int .i64 n2] 53)).heap.size := by simp; try omega
  have z1 : w.heap.size + 1 < ((w.alloc (.cells #[.int .i64 r1, .int .i64 y1, .int .i64 n1] 53)).alloc (.cells #[.int .i64 r2, .int .i64 y2, .int .i64 n2] 53)).heap.size := by simp; try omega
  generalize (w.alloc (.cells #[.int .i64 r1, .int .i64 y1, .int .i64 n1] 53)).alloc (.cells #[.int .i64 r2, .int .i64 y2, .int .i64 n2] 53) = W at *
  go_region_held3 (fun w' => (∀ b o, b < W.heap.size → w'.cell? ⟨b, o, none⟩ = W.cell? ⟨b, o, none⟩) ∧ Below W.heap.size W w') (first | exact held_drew _ | exact held_alloc (by assumption) _ | assumption)
    (first
      | (go_at_call 106; refine (ey_Compare64 _ _ _).mono ?_; rintro e wr ⟨rfl, rfl⟩)
      | (go_at_call 107; refine (cmp_Compare _ _ _).mono ?_; rintro e wr ⟨rfl, rfl⟩)
      | (go_at_call 105; refine (ey_Or (cmpE n1 n2) (cmpI r1 r2) _ _ ?_ ?_).mono ?_; (go_simp); (go_simp); rintro e wr ⟨rfl, rfl⟩))
  go_wp2_with fail
  go_ret
  exact ⟨rfl, Below.trans B0 (Below.mono (And.right (by assumption : (∀ b o, b < W.heap.size → World.cell? _ ⟨b, o, none⟩ = W.cell? ⟨b, o, none⟩) ∧ _)) (by omega))⟩
end Go.Proofs.YtjddmcecllhlhaaDoor
