/-
  The next occurrence and the one before, in plain words; what is saved, the instant.
-/
import Derived.Test.YtjddmcecllhlhaaDoorEyF
namespace Go.Proofs.YtjddmcecllhlhaaDoor
open Go.RowKit Cal
attribute [local go_sem] BW.cell BW.frozen
abbrev tabV (bl : Nat) : Value := .slice (some ⟨bl, 0, none⟩) 1 1
theorem first_less {r : Ru} (hr : RuFine r) (y : Int) (h0 : r.f ≤ y) (h1 : y ≤ r.t) : lessB (-2192387558400) (-1) (nomV r y) 0 = true := by
  have b := nom_bd hr y (by have := hr.1; omega) (by have := hr.2.2.1; omega)
  unfold lessB
  simp only [decide_eq_true_eq]
  omega
theorem Next_first (r : Ru) (hR : RightIs r true) (hr : RuFine r) (bl : Nat) (w : World) (hT : TabAt w bl r) :
    Calls Tryd.prog 71 #[tabV bl, .string r.nm, occ (-1) 0 (-2192387558400)] w fun e w' => e = .returned (.tuple #[occ 0 r.f (nomV r r.f), .bool true]) ∧ Below w.heap.size w w' := by
  have hn := near_first
  have i0 := hr.1
  have i1 := hr.2.1
  refine (occur_Next r hR hr bl (-1) 0 (-2192387558400) (by unfold I64; omega) w hT).mono ?_
  rintro e w' ⟨⟨y, e0, e1, e2, e3, rfl⟩ | ⟨e3, rfl⟩, hb⟩
  · have : y = r.f := by
      apply Classical.byContradiction
      intro h
      have := e3 r.f (by omega) (by omega)
      rw [first_less hr r.f (by omega) (by omega)] at this
      cases this
    subst this
    exact ⟨rfl, hb⟩
  · have := e3 r.f (by omega) (by omega)
    rw [first_less hr r.f (by omega) (by omega)] at this
    cases this
/-- What comes behind a year's occurrence. -/
def nextV (r : Ru) (y : Int) : Value := if y < r.t then .tuple #[occ 0 (y + 1) (nomV r (y + 1)), .bool true] else .tuple #[occ 0 0 0, .bool false]
def prevV (r : Ru) (y : Int) : Value := if r.f < y then .tuple #[occ 0 (y - 1) (nomV r (y - 1)), .bool true] else .tuple #[occ 0 0 0, .bool false]
theorem Next_at (r : Ru) (hR : RightIs r true) (hr : RuFine r) (bl : Nat) (y : Int) (h0 : r.f ≤ y) (h1 : y ≤ r.t) (w : World) (hT : TabAt w bl r) :
    Calls Tryd.prog 71 #[tabV bl, .string r.nm, occ 0 y (nomV r y)] w fun e w' => e = .returned (nextV r y) ∧ Below w.heap.size w w' := by
  have i0 := hr.1
  have i2 := hr.2.2.1
  have hn := near_nom hr y (by omega) (by omega)
  have hb := nom_bd hr y (by omega) (by omega)
  refine (occur_Next r hR hr bl 0 y (nomV r y) (by unfold I64; omega) w hT).mono ?_
  rintro e w' ⟨⟨z, e0, e1, e2, e3, rfl⟩ | ⟨e3, rfl⟩, hb⟩
  · rw [less_ruled hr] at e2
    have e2' := of_decide_eq_true e2
    have : z = y + 1 := by
      apply Classical.byContradiction
      intro h
      have := e3 (y + 1) (by omega) (by omega)
      rw [less_ruled hr] at this
      have := of_decide_eq_false this
      omega
    subst this
    refine ⟨?_, hb⟩
    unfold nextV
    rw [if_pos (by omega)]
  · refine ⟨?_, hb⟩
    unfold nextV
    rw [if_neg]
    intro h
    have := e3 (y + 1) (by omega) (by omega)
    rw [less_ruled hr] at this
    have := of_decide_eq_false this
    omega
theorem Prev_at (r : Ru) (hR : RightIs r true) (hr : RuFine r) (bl : Nat) (y : Int) (h0 : r.f ≤ y) (h1 : y ≤ r.t) (w : World) (hT : TabAt w bl r) :
    Calls Tryd.prog 47 #[tabV bl, .string r.nm, occ 0 y (nomV r y)] w fun e w' => e = .returned (prevV r y) ∧ Below w.heap.size w w' := by
  have i0 := hr.1
  have i2 := hr.2.2.1
  have hn := near_nom hr y (by omega) (by omega)
  have hb := nom_bd hr y (by omega) (by omega)
  refine (occur_Prev r hR hr bl 0 y (nomV r y) (by unfold I64; omega) w hT).mono ?_
  rintro e w' ⟨⟨z, e0, e1, e2, e3, rfl⟩ | ⟨e3, rfl⟩, hb⟩
  · rw [less_ruled hr] at e2
    have e2' := of_decide_eq_true e2
    have : z = y - 1 := by
      apply Classical.byContradiction
      intro h
      have := e3 (y - 1) (by omega) (by omega)
      rw [less_ruled hr] at this
      have := of_decide_eq_false this
      omega
    subst this
    refine ⟨?_, hb⟩
    unfold prevV
    rw [if_pos (by omega)]
  · refine ⟨?_, hb⟩
    unfold prevV
    rw [if_neg]
    intro h
    have := e3 (y - 1) (by omega) (by omega)
    rw [less_ruled hr] at this
    have := of_decide_eq_false this
    omega
/-- What is saved ahead of a year's occurrence. -/
def savedV (r : Ru) (y : Int) : Int := if r.f < y then r.sv else 0
set_option maxRecDepth 100000 in
theorem chain_Saved (r : Ru) (hR : RightIs r true) (hr : RuFine r) (bl : Nat) (y : Int) (h0 : r.f ≤ y) (h1 : y ≤ r.t) (w : World) (hT : TabAt w bl r) :
    Calls Tryd.prog 18 #[tabV bl, .string r.nm, occ 0 y (nomV r y)] w fun e w' => e = .returned (.int .i64 (savedV r y)) ∧ Below w.heap.size w w' := by
  have hP := fun w h => Prev_at r hR hr bl y h0 h1 w h
  have hlt := hT.lt
  have hT0 := hT
  have T9 := hT.c9
  clear hR hT
  by_cases hy : r.f < y
  · rw [show savedV r y = r.sv by unfold savedV; rw [if_pos hy]]
    rw [show prevV r y = .tuple #[occ 0 (y - 1) (nomV r (y - 1)), .bool true] by unfold prevV; rw [if_pos hy]] at hP
    clear hy hr h0 h1
    generalize nomV r y = N at *
    generalize nomV r (y - 1) = N' at *
    generalize y - 1 = Y at *
    go_enter Tryd.func18, Tryd.ntmps18
    go_wp2_with (go_at_call 47; refine (hP _ (hT0.below (Below.alloc (Below.refl _ _) (Nat.le_refl _) _) hlt (Nat.le_refl _))).mono ?_; rintro e w1 ⟨rfl, hb⟩; have B1 : Below w.heap.size w w1 := (Below.alloc (Below.refl _ _) (Nat.le_refl _) _).trans (hb.mono (by simp)); have z1 := B1.size; have t9 := (B1.cell (p := ⟨bl, 9, none⟩) hlt).trans T9; have hlt1 : bl < w1.heap.size := (by omega); clear hb T9)
    go_ret
    exact ⟨rfl, by (focus (repeat' (first | exact Below.refl _ _ | refine Below.alloc ?_ ?_ _ | refine Below.setCell ?_ ?_ _ | refine Below.drew ?_ | refine below_drewN ?_ _ | refine Below.trans ?_ (Below.mono (by assumption) ?_) | refine Below.trans ?_ (Below.mono (BW.below _) ?_) | (simp; done) | (simp; omega) | omega)))⟩
  · rw [show savedV r y = 0 by unfold savedV; rw [if_neg hy]]
    rw [show prevV r y = .tuple #[occ 0 0 0, .bool false] by unfold prevV; rw [if_neg hy]] at hP
    clear hy hr h0 h1
    generalize nomV r y = N at *
    go_enter Tryd.func18, Tryd.ntmps18
    go_wp2_with (go_at_call 47; refine (hP _ (hT0.below (Below.alloc (Below.refl _ _) (Nat.le_refl _) _) hlt (Nat.le_refl _))).mono ?_; rintro e w1 ⟨rfl, hb⟩; have B1 : Below w.heap.size w w1 := (Below.alloc (Below.refl _ _) (Nat.le_refl _) _).trans (hb.mono (by simp)); have z1 := B1.size; clear hb T9)
    go_ret
    exact ⟨rfl, by (focus (repeat' (first | exact Below.refl _ _ | refine Below.alloc ?_ ?_ _ | refine Below.setCell ?_ ?_ _ | refine Below.drew ?_ | refine below_drewN ?_ _ | refine Below.trans ?_ (Below.mono (by assumption) ?_) | refine Below.trans ?_ (Below.mono (BW.below _) ?_) | (simp; done) | (simp; omega) | omega)))⟩
end Go.Proofs.YtjddmcecllhlhaaDoor
