/-
  The first occurrence that is fit, and the last one.
-/
import Derived.Test.YtjddmcecllhlhaaDoorEyD
namespace Go.Proofs.YtjddmcecllhlhaaDoor
open Go.RowKit Cal
attribute [local go_sem] BW.cell BW.frozen
set_option maxHeartbeats 1000000 in
theorem occur_Next1 (q : Nat) (fr fy fn r y n : Int) (w : World) (h0 : w.cell? ⟨q, 0, none⟩ = some (.int .i64 fr)) (h1 : w.cell? ⟨q, 1, none⟩ = some (.int .i64 fy)) (h2 : w.cell? ⟨q, 2, none⟩ = some (.int .i64 fn)) (hq : q < w.heap.size) :
    Calls Tryd.prog 102 #[occ r y n, .pointer (some ⟨q, 0, none⟩)] w fun e w' => e = .returned (.bool (lessB fn fr n r)) ∧ Below w.heap.size w w' := by
  have hL := fun w => occur_Less fr fy fn r y n w
  go_enter Tryd.func102, Tryd.ntmps102
  go_wp2_with (go_at_call 77; refine (hL _).mono ?_; rintro e w1 ⟨rfl, hb⟩; obtain ⟨hc, hf⟩ := bcell hb; have z := hb.size; (try simp at z))
  go_ret
  exact ⟨rfl, by (focus (repeat' (first | exact Below.refl _ _ | refine Below.alloc ?_ ?_ _ | refine Below.setCell ?_ ?_ _ | refine Below.drew ?_ | refine below_drewN ?_ _ | refine Below.trans ?_ (Below.mono (by assumption) ?_) | refine Below.trans ?_ (Below.mono (BW.below _) ?_) | (simp; done) | (simp; omega) | omega)))⟩
set_option maxHeartbeats 1000000 in
theorem occur_Prev1 (q : Nat) (fr fy fn r y n : Int) (w : World) (h0 : w.cell? ⟨q, 0, none⟩ = some (.int .i64 fr)) (h1 : w.cell? ⟨q, 1, none⟩ = some (.int .i64 fy)) (h2 : w.cell? ⟨q, 2, none⟩ = some (.int .i64 fn)) (hq : q < w.heap.size) :
    Calls Tryd.prog 76 #[occ r y n, .pointer (some ⟨q, 0, none⟩)] w fun e w' => e = .returned (.bool (lessB n r fn fr)) ∧ Below w.heap.size w w' := by
  have hL := fun w => occur_Less r y n fr fy fn w
  go_enter Tryd.func76, Tryd.ntmps76
  go_wp2_with (go_at_call 77; refine (hL _).mono ?_; rintro e w1 ⟨rfl, hb⟩; obtain ⟨hc, hf⟩ := bcell hb; have z := hb.size; (try simp at z))
  go_ret
  exact ⟨rfl, by (focus (repeat' (first | exact Below.refl _ _ | refine Below.alloc ?_ ?_ _ | refine Below.setCell ?_ ?_ _ | refine Below.drew ?_ | refine below_drewN ?_ _ | refine Below.trans ?_ (Below.mono (by assumption) ?_) | refine Below.trans ?_ (Below.mono (BW.below _) ?_) | (simp; done) | (simp; omega) | omega)))⟩
set_option maxRecDepth 100000 in
set_option maxHeartbeats 4000000 in
theorem occur_next (r : Ru) (hr : RuFine r) (place yr : Int) (k0 : -60000 ≤ yr) (k1 : yr ≤ 59999) (q : Nat) (fr fy fn : Int) (w : World) (h0 : w.cell? ⟨q, 0, none⟩ = some (.int .i64 fr)) (h1 : w.cell? ⟨q, 1, none⟩ = some (.int .i64 fy)) (h2 : w.cell? ⟨q, 2, none⟩ = some (.int .i64 fn)) (hq : q < w.heap.size) :
    Calls Tryd.prog 101 #[ruV r, .int .i64 place, .int .i64 yr, .func (.func 102) #[] #[.pointer (some ⟨q, 0, none⟩)]] w fun e w' => ((∃ y, r.f ≤ y ∧ y ≤ r.t ∧ lessB fn fr (nomV r y) place = true ∧ (∀ y', max r.f (yr - 2) ≤ y' → y' < y → lessB fn fr (nomV r y') place = false) ∧ e = .returned (.tuple #[occ place y (nomV r y), .bool true])) ∨ ((∀ y', max r.f (yr - 2) ≤ y' → y' ≤ r.t → lessB fn fr (nomV r y') place = false) ∧ e = .returned (.tuple #[occ 0 0 0, .bool false]))) ∧ Below w.heap.size w w' := by
  have hN := Lib.hid (fun y h0 h1 w => occur_nom r hr y h0 h1 w)
  have hb := hr
  obtain ⟨i0, i1, i2, -⟩ := hb
  obtain ⟨L, hL⟩ : ∃ L : Int → Bool, L = fun y => lessB fn fr (nomV r y) place := ⟨_, rfl⟩
  obtain ⟨NV, hNV⟩ : ∃ NV : Int → Int, NV = nomV r := ⟨_, rfl⟩
  have hLN : ∀ y, L y = lessB fn fr (NV y) place := fun y => by rw [hL, hNV]
  have HLN := Lib.hid hLN
  suffices hs : Calls Tryd.prog 101 #[ruV r, .int .i64 place, .int .i64 yr, .func (.func 102) #[] #[.pointer (some ⟨q, 0, none⟩)]] w fun e w' => ((∃ y, r.f ≤ y ∧ y ≤ r.t ∧ L y = true ∧ (∀ y', max r.f (yr - 2) ≤ y' → y' < y → L y' = false) ∧ e = .returned (.tuple #[occ place y (NV y), .bool true])) ∨ ((∀ y', max r.f (yr - 2) ≤ y' → y' ≤ r.t → L y' = false) ∧ e = .returned (.tuple #[occ 0 0 0, .bool false]))) ∧ Below w.heap.size w w' by
    rw [hL, hNV] at hs
    exact hs
  rw [← hNV] at hN
  clear hL hNV hr hLN
  obtain ⟨nm, f, t, m, k, wk, d, s, b, sv, l⟩ := r
  dsimp only at hN i0 i1 i2 ⊢
  obtain ⟨S, hS⟩ : ∃ S, S = max f (yr - 2) := ⟨_, rfl⟩
  rw [← hS]
  have s0 : f ≤ S ∧ S ≤ 60000 := by omega
  have HS : Hid (S = max f (yr - 2)) := Lib.hid hS
  have HS2 : Hid (∀ y, S ≤ y → f ≤ y) := Lib.hid (fun y h => by omega)
  have ew : wrap64 (yr - 2) = yr - 2 := by unfold wrap64; omega
  have em : max f (yr - 2) = S := hS.symm
  clear hS
  go_enter Tryd.func101, Tryd.ntmps101
  go_wp2_with fail
  have c0 : ((w.alloc (.cells #[.string nm, .int .i64 f, .int .i64 t, .int .i64 m, .int .i64 k, .int .i64 wk, .int .i64 d, .int .i64 s, .int .i64 b, .int .i64 sv, .string l] 43)).alloc (.cells #[.int .i64 0, .int .i64 0, .int .i64 0] 53)).cell? ⟨w.heap.size, 0, none⟩ = some (.string nm) := by go_simp
  have c1 : ((w.alloc (.cells #[.string nm, .int .i64 f, .int .i64 t, .int .i64 m, .int .i64 k, .int .i64 wk, .int .i64 d, .int .i64 s, .int .i64 b, .int .i64 sv, .string l] 43)).alloc (.cells #[.int .i64 0, .int .i64 0, .int .i64 0] 53)).cell? ⟨w.heap.size, 1, none⟩ = some (.int .i64 f) := by go_simp
  have c2 : ((w.alloc (.cells #[.string nm, .int .i64 f, .int .i64 t, .int .i64 m, .int .i64 k, .int .i64 wk, .int .i64 d, .int .i64 s, .int .i64 b, .int .i64 sv, .string l] 43)).alloc (.cells #[.int .i64 0, .int .i64 0, .int .i64 0] 53)).cell? ⟨w.heap.size, 2, none⟩ = some (.int .i64 t) := by go_simp
  have c3 : ((w.alloc (.cells #[.string nm, .int .i64 f, .int .i64 t, .int .i64 m, .int .i64 k, .int .i64 wk, .int .i64 d, .int .i64 s, .int .i64 b, .int .i64 sv, .string l] 43)).alloc (.cells #[.int .i64 0, .int .i64 0, .int .i64 0] 53)).cell? ⟨w.heap.size, 3, none⟩ = some (.int .i64 m) := by go_simp
  have c4 : ((w.alloc (.cells #[.string nm, .int .i64 f, .int .i64 t, .int .i64 m, .int .i64 k, .int .i64 wk, .int .i64 d, .int .i64 s, .int .i64 b, .int .i64 sv, .string l] 43)).alloc (.cells #[.int .i64 0, .int .i64 0, .int .i64 0] 53)).cell? ⟨w.heap.size, 4, none⟩ = some (.int .i64 k) := by go_simp
  have c5 : ((w.alloc (.cells #[.string nm, .int .i64 f, .int .i64 t, .int .i64 m, .int .i64 k, .int .i64 wk, .int .i64 d, .int .i64 s, .int .i64 b, .int .i64 sv, .string l] 43)).alloc (.cells #[.int .i64 0, .int .i64 0, .int .i64 0] 53)).cell? ⟨w.heap.size, 5, none⟩ = some (.int .i64 wk) := by go_simp
  have c6 : ((w.alloc (.cells #[.string nm, .int .i64 f, .int .i64 t, .int .i64 m, .int .i64 k, .int .i64 wk, .int .i64 d, .int .i64 s, .int .i64 b, .int .i64 sv, .string l] 43)).alloc (.cells #[.int .i64 0, .int .i64 0, .int .i64 0] 53)).cell? ⟨w.heap.size, 6, none⟩ = some (.int .i64 d) := by go_simp
  have c7 : ((w.alloc (.cells #[.string nm, .int .i64 f, .int .i64 t, .int .i64 m, .int .i64 k, .int .i64 wk, .int .i64 d, .int .i64 s, .int .i64 b, .int .i64 sv, .string l] 43)).alloc (.cells #[.int .i64 0, .int .i64 0, .int .i64 0] 53)).cell? ⟨w.heap.size, 7, none⟩ = some (.int .i64 s) := by go_simp
  have c8 : ((w.alloc (.cells #[.string nm, .int .i64 f, .int .i64 t, .int .i64 m, .int .i64 k, .int .i64 wk, .int .i64 d, .int .i64 s, .int .i64 b, .int .i64 sv, .string l] 43)).alloc (.cells #[.int .i64 0, .int .i64 0, .int .i64 0] 53)).cell? ⟨w.heap.size, 8, none⟩ = some (.int .i64 b) := by go_simp
  have c9 : ((w.alloc (.cells #[.string nm, .int .i64 f, .int .i64 t, .int .i64 m, .int .i64 k, .int .i64 wk, .int .i64 d, .int .i64 s, .int .i64 b, .int .i64 sv, .string l] 43)).alloc (.cells #[.int .i64 0, .int .i64 0, .int .i64 0] 53)).cell? ⟨w.heap.size, 9, none⟩ = some (.int .i64 sv) := by go_simp
  have c10 : ((w.alloc (.cells #[.string nm, .int .i64 f, .int .i64 t, .int .i64 m, .int .i64 k, .int .i64 wk, .int .i64 d, .int .i64 s, .int .i64 b, .int .i64 sv, .string l] 43)).alloc (.cells #[.int .i64 0, .int .i64 0, .int .i64 0] 53)).cell? ⟨w.heap.size, 10, none⟩ = some (.string l) := by go_simp
  have o0 : ((w.alloc (.cells #[.string nm, .int .i64 f, .int .i64 t, .int .i64 m, .int .i64 k, .int .i64 wk, .int .i64 d, .int .i64 s, .int .i64 b, .int .i64 sv, .string l] 43)).alloc (.cells #[.int .i64 0, .int .i64 0, .int .i64 0] 53)).cell? ⟨w.heap.size + 1, 0, none⟩ = some (.int .i64 0) := by go_simp
  have g0 : ((w.alloc (.cells #[.string nm, .int .i64 f, .int .i64 t, .int .i64 m, .int .i64 k, .int .i64 wk, .int .i64 d, .int .i64 s, .int .i64 b, .int .i64 sv, .string l] 43)).alloc (.cells #[.int .i64 0, .int .i64 0, .int .i64 0] 53)).frozen? ⟨w.heap.size + 1, 0, none⟩ = false := by go_simp
  have o1 : ((w.alloc (.cells #[.string nm, .int .i64 f, .int .i64 t, .int .i64 m, .int .i64 k, .int .i64 wk, .int .i64 d, .int .i64 s, .int .i64 b, .int .i64 sv, .string l] 43)).alloc (.cells #[.int .i64 0, .int .i64 0, .int .i64 0] 53)).cell? ⟨w.heap.size + 1, 1, none⟩ = some (.int .i64 0) := by go_simp
  have g1 : ((w.alloc (.cells #[.string nm, .int .i64 f, .int .i64 t, .int .i64 m, .int .i64 k, .int .i64 wk, .int .i64 d, .int .i64 s, .int .i64 b, .int .i64 sv, .string l] 43)).alloc (.cells #[.int .i64 0, .int .i64 0, .int .i64 0] 53)).frozen? ⟨w.heap.size + 1, 1, none⟩ = false := by go_simp
  have o2 : ((w.alloc (.cells #[.string nm, .int .i64 f, .int .i64 t, .int .i64 m, .int .i64 k, .int .i64 wk, .int .i64 d, .int .i64 s, .int .i64 b, .int .i64 sv, .string l] 43)).alloc (.cells #[.int .i64 0, .int .i64 0, .int .i64 0] 53)).cell? ⟨w.heap.size + 1, 2, none⟩ = some (.int .i64 0) := by go_simp
  have g2 : ((w.alloc (.cells #[.string nm, .int .i64 f, .int .i64 t, .int .i64 m, .int .i64 k, .int .i64 wk, .int .i64 d, .int .i64 s, .int .i64 b, .int .i64 sv, .string l] 43)).alloc (.cells #[.int .i64 0, .int .i64 0, .int .i64 0] 53)).frozen? ⟨w.heap.size + 1, 2, none⟩ = false := by go_simp
  have p0 : ((w.alloc (.cells #[.string nm, .int .i64 f, .int .i64 t, .int .i64 m, .int .i64 k, .int .i64 wk, .int .i64 d, .int .i64 s, .int .i64 b, .int .i64 sv, .string l] 43)).alloc (.cells #[.int .i64 0, .int .i64 0, .int .i64 0] 53)).cell? ⟨q, 0, none⟩ = some (.int .i64 fr) := by go_simp
  have p1 : ((w.alloc (.cells #[.string nm, .int .i64 f, .int .i64 t, .int .i64 m, .int .i64 k, .int .i64 wk, .int .i64 d, .int .i64 s, .int .i64 b, .int .i64 sv, .string l] 43)).alloc (.cells #[.int .i64 0, .int .i64 0, .int .i64 0] 53)).cell? ⟨q, 1, none⟩ = some (.int .i64 fy) := by go_simp
  have p2 : ((w.alloc (.cells #[.string nm, .int .i64 f, .int .i64 t, .int .i64 m, .int .i64 k, .int .i64 wk, .int .i64 d, .int .i64 s, .int .i64 b, .int .i64 sv, .string l] 43)).alloc (.cells #[.int .i64 0, .int .i64 0, .int .i64 0] 53)).cell? ⟨q, 2, none⟩ = some (.int .i64 fn) := by go_simp
  have zW : ((w.alloc (.cells #[.string nm, .int .i64 f, .int .i64 t, .int .i64 m, .int .i64 k, .int .i64 wk, .int .i64 d, .int .i64 s, .int .i64 b, .int .i64 sv, .string l] 43)).alloc (.cells #[.int .i64 0, .int .i64 0, .int .i64 0] 53)).heap.size = w.heap.size + 2 := by simp
  have B0 : Below w.heap.size w ((w.alloc (.cells #[.string nm, .int .i64 f, .int .i64 t, .int .i64 m, .int .i64 k, .int .i64 wk, .int .i64 d, .int .i64 s, .int .i64 b, .int .i64 sv, .string l] 43)).alloc (.cells #[.int .i64 0, .int .i64 0, .int .i64 0] 53)) := by (focus (repeat' (first | exact Below.refl _ _ | refine Below.alloc ?_ ?_ _ | refine Below.setCell ?_ ?_ _ | refine Below.drew ?_ | refine below_drewN ?_ _ | refine Below.trans ?_ (Below.mono (by assumption) ?_) | refine Below.trans ?_ (Below.mono (BW.below _) ?_) | (simp; done) | (simp; omega) | omega)))
  generalize ((w.alloc (.cells #[.string nm, .int .i64 f, .int .i64 t, .int .i64 m, .int .i64 k, .int .i64 wk, .int .i64 d, .int .i64 s, .int .i64 b, .int .i64 sv, .string l] 43)).alloc (.cells #[.int .i64 0, .int .i64 0, .int .i64 0] 53)) = W0 at *
  go_loopw [10, 11] (fun i _ wr => ∃ y : Int, i = .int .i64 y ∧ S ≤ y ∧ y ≤ 60001 ∧ Hid (∀ y', S ≤ y' → y' < y → L y' = false) ∧ Below W0.heap.size W0 wr) (fun i _ _ => (t + 1 - intOf i).toNat)
  case atStart => exact ⟨S, by first | rfl | (rw [em]) | (simp only [em]) | trace_state, by omega, by omega, Lib.hid (fun y' h h' => by omega), Below.refl _ _⟩
  case round =>
    obtain ⟨y, rfl, hy0, hy1, HY, hB⟩ := hrel
    have hsz := hB.size
    have d0 := (hB.cell (p := ⟨w.heap.size, 0, none⟩) (show w.heap.size < _ by omega)).trans c0
    have d1 := (hB.cell (p := ⟨w.heap.size, 1, none⟩) (show w.heap.size < _ by omega)).trans c1
    have d2 := (hB.cell (p := ⟨w.heap.size, 2, none⟩) (show w.heap.size < _ by omega)).trans c2
    have d3 := (hB.cell (p := ⟨w.heap.size, 3, none⟩) (show w.heap.size < _ by omega)).trans c3
    have d4 := (hB.cell (p := ⟨w.heap.size, 4, none⟩) (show w.heap.size < _ by omega)).trans c4
    have d5 := (hB.cell (p := ⟨w.heap.size, 5, none⟩) (show w.heap.size < _ by omega)).trans c5
    have d6 := (hB.cell (p := ⟨w.heap.size, 6, none⟩) (show w.heap.size < _ by omega)).trans c6
    have d7 := (hB.cell (p := ⟨w.heap.size, 7, none⟩) (show w.heap.size < _ by omega)).trans c7
    have d8 := (hB.cell (p := ⟨w.heap.size, 8, none⟩) (show w.heap.size < _ by omega)).trans c8
    have d9 := (hB.cell (p := ⟨w.heap.size, 9, none⟩) (show w.heap.size < _ by omega)).trans c9
    have d10 := (hB.cell (p := ⟨w.heap.size, 10, none⟩) (show w.heap.size < _ by omega)).trans c10
    have a0 := (hB.cell (p := ⟨w.heap.size + 1, 0, none⟩) (show w.heap.size + 1 < _ by omega)).trans o0
    have e0 := (hB.frozen (p := ⟨w.heap.size + 1, 0, none⟩) (show w.heap.size + 1 < _ by omega)).trans g0
    have a1 := (hB.cell (p := ⟨w.heap.size + 1, 1, none⟩) (show w.heap.size + 1 < _ by omega)).trans o1
    have e1 := (hB.frozen (p := ⟨w.heap.size + 1, 1, none⟩) (show w.heap.size + 1 < _ by omega)).trans g1
    have a2 := (hB.cell (p := ⟨w.heap.size + 1, 2, none⟩) (show w.heap.size + 1 < _ by omega)).trans o2
    have e2 := (hB.frozen (p := ⟨w.heap.size + 1, 2, none⟩) (show w.heap.size + 1 < _ by omega)).trans g2
    have r0 := (hB.cell (p := ⟨q, 0, none⟩) (show q < _ by omega)).trans p0
    have r1 := (hB.cell (p := ⟨q, 1, none⟩) (show q < _ by omega)).trans p1
    have r2 := (hB.cell (p := ⟨q, 2, none⟩) (show q < _ by omega)).trans p2
    have rz : q < wr.heap.size := by omega
    have BW := B0.trans (hB.mono B0.size)
    by_cases hc : y ≤ t
    · have hNy := hN.out y (by have := HS2.out y hy0; omega) (by have := HS2.out y hy0; omega)
      have hly := HLN.out y
      obtain ⟨N, hNN⟩ : ∃ N, N = NV y := ⟨_, rfl⟩
      rw [← hNN] at hNy hly
      have HNN := Lib.hid hNN
      clear hNN
      have hX := fun u h0 h1 h2 h3 => occur_Next1 q fr fy fn place y N u h0 h1 h2 h3
      rw [← hly] at hX
      obtain ⟨B, hBB⟩ : ∃ B, B = L y := ⟨_, rfl⟩
      rw [← hBB] at hX
      have HBB : Hid (L y = B) := Lib.hid hBB.symm
      clear hly hBB
      go_wp2_with (go_at_call 35; refine (hNy _).mono ?_; rintro e w1 ⟨rfl, hb⟩; obtain ⟨hc, hf⟩ := bcell hb; have z := hb.size; (try simp at z))
      have z1 := hb.size
      have W1 : Below W0.heap.size W0 w1 := hB.trans (hb.mono hsz)
      have A1 : Below w1.heap.size w1 (w1.alloc (.cells #[.int .i64 place, .int .i64 y, .int .i64 N] 53)) := (Below.refl _ _).alloc (Nat.le_refl _) _
      have hq1 : q < w1.heap.size := by omega
      refine (hX _ ((A1.cell (p := ⟨q, 0, none⟩) hq1).trans ((hb.cell (p := ⟨q, 0, none⟩) rz).trans r0)) ((A1.cell (p := ⟨q, 1, none⟩) hq1).trans ((hb.cell (p := ⟨q, 1, none⟩) rz).trans r1)) ((A1.cell (p := ⟨q, 2, none⟩) hq1).trans ((hb.cell (p := ⟨q, 2, none⟩) rz).trans r2)) (by simp; omega)).mono ?_
      rintro e w2 ⟨rfl, hb2⟩
      have z2 := hb2.size
      simp at z2
      have W2 : Below W0.heap.size W0 w2 := W1.trans ((A1.trans (hb2.mono (by simp))).mono W1.size)
      have m0 : w2.cell? ⟨w1.heap.size, 0, none⟩ = some (.int .i64 place) := (hb2.cell (p := ⟨w1.heap.size, 0, none⟩) (by simp)).trans (by go_simp)
      have m1 : w2.cell? ⟨w1.heap.size, 1, none⟩ = some (.int .i64 y) := (hb2.cell (p := ⟨w1.heap.size, 1, none⟩) (by simp)).trans (by go_simp)
      have m2 : w2.cell? ⟨w1.heap.size, 2, none⟩ = some (.int .i64 N) := (hb2.cell (p := ⟨w1.heap.size, 2, none⟩) (by simp)).trans (by go_simp)
      have a0' := (W2.cell (p := ⟨w.heap.size + 1, 0, none⟩) (show w.heap.size + 1 < _ by omega)).trans o0
      have e0' := (W2.frozen (p := ⟨w.heap.size + 1, 0, none⟩) (show w.heap.size + 1 < _ by omega)).trans g0
      have a1' := (W2.cell (p := ⟨w.heap.size + 1, 1, none⟩) (show w.heap.size + 1 < _ by omega)).trans o1
      have e1' := (W2.frozen (p := ⟨w.heap.size + 1, 1, none⟩) (show w.heap.size + 1 < _ by omega)).trans g1
      have a2' := (W2.cell (p := ⟨w.heap.size + 1, 2, none⟩) (show w.heap.size + 1 < _ by omega)).trans o2
      have e2' := (W2.frozen (p := ⟨w.heap.size + 1, 2, none⟩) (show w.heap.size + 1 < _ by omega)).trans g2
      have BW2 := B0.trans (W2.mono B0.size)
      clear hb2 hc hf A1 W1 BW hB hX hNy d0 d1 d2 d3 d4 d5 d6 d7 d8 d9 d10 a0 e0 r0 a1 e1 r1 a2 e2 r2
      cases B with
      | true =>
        go_wp2_with fail
        refine bodyPost_ret (v := .tuple #[occ place y N, .bool true]) (by simp [results, Tryd.results101, go_sem, *]) rfl ⟨.inl ⟨y, by have := HS2.out y hy0; omega, by have := HS2.out y hy0; omega, HBB.out, HY.out, by rw [HNN.out]⟩, ?_⟩
        exact ((BW2.setCell (p := ⟨w.heap.size + 1, 0, none⟩) (by simp) _).setCell (p := ⟨w.heap.size + 1, 1, none⟩) (by simp) _).setCell (p := ⟨w.heap.size + 1, 2, none⟩) (by simp) _
      | false =>
        go_wp2_with fail
        go_roundw
        case rel => exact ⟨y + 1, by go_num, by omega, by omega, Lib.hid (fun y' h h' => by
          rcases Int.lt_or_eq_of_le (show y' ≤ y by omega) with h1 | h1
          · exact HY.out y' h h1
          · rw [h1]; exact HBB.out), W2⟩
        case measure => simp only [intOf]; omega
    · go_wp2_with fail
      refine bodyPost_ret (v := .tuple #[occ 0 0 0, .bool false]) (by simp [results, Tryd.results101, go_sem, *]) rfl ⟨.inr ⟨fun y' h h' => HY.out y' h (by omega), rfl⟩, ?_⟩
      exact ((BW.setCell (p := ⟨w.heap.size + 1, 0, none⟩) (by simp) _).setCell (p := ⟨w.heap.size + 1, 1, none⟩) (by simp) _).setCell (p := ⟨w.heap.size + 1, 2, none⟩) (by simp) _
set_option maxRecDepth 100000 in
set_option maxHeartbeats 4000000 in
theorem occur_prev (r : Ru) (hr : RuFine r) (place yr : Int) (k0 : -60000 ≤ yr) (k1 : yr ≤ 59999) (q : Nat) (fr fy fn : Int) (w : World) (h0 : w.cell? ⟨q, 0, none⟩ = some (.int .i64 fr)) (h1 : w.cell? ⟨q, 1, none⟩ = some (.int .i64 fy)) (h2 : w.cell? ⟨q, 2, none⟩ = some (.int .i64 fn)) (hq : q < w.heap.size) :
    Calls Tryd.prog 75 #[ruV r, .int .i64 place, .int .i64 yr, .func (.func 76) #[] #[.pointer (some ⟨q, 0, none⟩)]] w fun e w' => ((∃ y, r.f ≤ y ∧ y ≤ r.t ∧ lessB (nomV r y) place fn fr = true ∧ (∀ y', y' ≤ min r.t (yr + 2) → y < y' → lessB (nomV r y') place fn fr = false) ∧ e = .returned (.tuple #[occ place y (nomV r y), .bool true])) ∨ ((∀ y', y' ≤ min r.t (yr + 2) → r.f ≤ y' → lessB (nomV r y') place fn fr = false) ∧ e = .returned (.tuple #[occ 0 0 0, .bool false]))) ∧ Below w.heap.size w w' := by
  have hN := Lib.hid (fun y h0 h1 w => occur_nom r hr y h0 h1 w)
  have hb := hr
  obtain ⟨i0, i1, i2, -⟩ := hb
  obtain ⟨L, hL⟩ : ∃ L : Int → Bool, L = fun y => lessB (nomV r y) place fn fr := ⟨_, rfl⟩
  obtain ⟨NV, hNV⟩ : ∃ NV : Int → Int, NV = nomV r := ⟨_, rfl⟩
  have hLN : ∀ y, L y = lessB (NV y) place fn fr := fun y => by rw [hL, hNV]
  have HLN := Lib.hid hLN
  suffices hs : Calls Tryd.prog 75 #[ruV r, .int .i64 place, .int .i64 yr, .func (.func 76) #[] #[.pointer (some ⟨q, 0, none⟩)]] w fun e w' => ((∃ y, r.f ≤ y ∧ y ≤ r.t ∧ L y = true ∧ (∀ y', y' ≤ min r.t (yr + 2) → y < y' → L y' = false) ∧ e = .returned (.tuple #[occ place y (NV y), .bool true])) ∨ ((∀ y', y' ≤ min r.t (yr + 2) → r.f ≤ y' → L y' = false) ∧ e = .returned (.tuple #[occ 0 0 0, .bool false]))) ∧ Below w.heap.size w w' by
    rw [hL, hNV] at hs
    exact hs
  rw [← hNV] at hN
  clear hL hNV hr hLN
  obtain ⟨nm, f, t, m, k, wk, d, s, b, sv, l⟩ := r
  dsimp only at hN i0 i1 i2 ⊢
  obtain ⟨S, hS⟩ : ∃ S, S = min t (yr + 2) := ⟨_, rfl⟩
  rw [← hS]
  have s0 : S ≤ t ∧ -60000 ≤ S := by omega
  have HS : Hid (S = min t (yr + 2)) := Lib.hid hS
  have HS2 : Hid (∀ y, y ≤ S → y ≤ t) := Lib.hid (fun y h => by omega)
  have ew : wrap64 (yr + 2) = yr + 2 := by unfold wrap64; omega
  have em : min t (yr + 2) = S := hS.symm
  clear hS
  go_enter Tryd.func75, Tryd.ntmps75
  go_wp2_with fail
  have c0 : ((w.alloc (.cells #[.string nm, .int .i64 f, .int .i64 t, .int .i64 m, .int .i64 k, .int .i64 wk, .int .i64 d, .int .i64 s, .int .i64 b, .int .i64 sv, .string l] 43)).alloc (.cells #[.int .i64 0, .int .i64 0, .int .i64 0] 53)).cell? ⟨w.heap.size, 0, none⟩ = some (.string nm) := by go_simp
  have c1 : ((w.alloc (.cells #[.string nm, .int .i64 f, .int .i64 t, .int .i64 m, .int .i64 k, .int .i64 wk, .int .i64 d, .int .i64 s, .int .i64 b, .int .i64 sv, .string l] 43)).alloc (.cells #[.int .i64 0, .int .i64 0, .int .i64 0] 53)).cell? ⟨w.heap.size, 1, none⟩ = some (.int .i64 f) := by go_simp
  have c2 : ((w.alloc (.cells #[.string nm, .int .i64 f, .int .i64 t, .int .i64 m, .int .i64 k, .int .i64 wk, .int .i64 d, .int .i64 s, .int .i64 b, .int .i64 sv, .string l] 43)).alloc (.cells #[.int .i64 0, .int .i64 0, .int .i64 0] 53)).cell? ⟨w.heap.size, 2, none⟩ = some (.int .i64 t) := by go_simp
  have c3 : ((w.alloc (.cells #[.string nm, .int .i64 f, .int .i64 t, .int .i64 m, .int .i64 k, .int .i64 wk, .int .i64 d, .int .i64 s, .int .i64 b, .int .i64 sv, .string l] 43)).alloc (.cells #[.int .i64 0, .int .i64 0, .int .i64 0] 53)).cell? ⟨w.heap.size, 3, none⟩ = some (.int .i64 m) := by go_simp
  have c4 : ((w.alloc (.cells #[.string nm, .int .i64 f, .int .i64 t, .int .i64 m, .int .i64 k, .int .i64 wk, .int .i64 d, .int .i64 s, .int .i64 b, .int .i64 sv, .string l] 43)).alloc (.cells #[.int .i64 0, .int .i64 0, .int .i64 0] 53)).cell? ⟨w.heap.size, 4, none⟩ = some (.int .i64 k) := by go_simp
  have c5 : ((w.alloc (.cells #[.string nm, .int .i64 f, .int .i64 t, .int .i64 m, .int .i64 k, .int .i64 wk, .int .i64 d, .int .i64 s, .int .i64 b, .int .i64 sv, .string l] 43)).alloc (.cells #[.int .i64 0, .int .i64 0, .int .i64 0] 53)).cell? ⟨w.heap.size, 5, none⟩ = some (.int .i64 wk) := by go_simp
  have c6 : ((w.alloc (.cells #[.string nm, .int .i64 f, .int .i64 t, .int .i64 m, .int .i64 k, .int .i64 wk, .int .i64 d, .int .i64 s, .int .i64 b, .int .i64 sv, .string l] 43)).alloc (.cells #[.int .i64 0, .int .i64 0, .int .i64 0] 53)).cell? ⟨w.heap.size, 6, none⟩ = some (.int .i64 d) := by go_simp
  have c7 : ((w.alloc (.cells #[.string nm, .int .i64 f, .int .i64 t, .int .i64 m, .int .i64 k, .int .i64 wk, .int .i64 d, .int .i64 s, .int .i64 b, .int .i64 sv, .string l] 43)).alloc (.cells #[.int .i64 0, .int .i64 0, .int .i64 0] 53)).cell? ⟨w.heap.size, 7, none⟩ = some (.int .i64 s) := by go_simp
  have c8 : ((w.alloc (.cells #[.string nm, .int .i64 f, .int .i64 t, .int .i64 m, .int .i64 k, .int .i64 wk, .int .i64 d, .int .i64 s, .int .i64 b, .int .i64 sv, .string l] 43)).alloc (.cells #[.int .i64 0, .int .i64 0, .int .i64 0] 53)).cell? ⟨w.heap.size, 8, none⟩ = some (.int .i64 b) := by go_simp
  have c9 : ((w.alloc (.cells #[.string nm, .int .i64 f, .int .i64 t, .int .i64 m, .int .i64 k, .int .i64 wk, .int .i64 d, .int .i64 s, .int .i64 b, .int .i64 sv, .string l] 43)).alloc (.cells #[.int .i64 0, .int .i64 0, .int .i64 0] 53)).cell? ⟨w.heap.size, 9, none⟩ = some (.int .i64 sv) := by go_simp
  have c10 : ((w.alloc (.cells #[.string nm, .int .i64 f, .int .i64 t, .int .i64 m, .int .i64 k, .int .i64 wk, .int .i64 d, .int .i64 s, .int .i64 b, .int .i64 sv, .string l] 43)).alloc (.cells #[.int .i64 0, .int .i64 0, .int .i64 0] 53)).cell? ⟨w.heap.size, 10, none⟩ = some (.string l) := by go_simp
  have o0 : ((w.alloc (.cells #[.string nm, .int .i64 f, .int .i64 t, .int .i64 m, .int .i64 k, .int .i64 wk, .int .i64 d, .int .i64 s, .int .i64 b, .int .i64 sv, .string l] 43)).alloc (.cells #[.int .i64 0, .int .i64 0, .int .i64 0] 53)).cell? ⟨w.heap.size + 1, 0, none⟩ = some (.int .i64 0) := by go_simp
  have g0 : ((w.alloc (.cells #[.string nm, .int .i64 f, .int .i64 t, .int .i64 m, .int .i64 k, .int .i64 wk, .int .i64 d, .int .i64 s, .int .i64 b, .int .i64 sv, .string l] 43)).alloc (.cells #[.int .i64 0, .int .i64 0, .int .i64 0] 53)).frozen? ⟨w.heap.size + 1, 0, none⟩ = false := by go_simp
  have o1 : ((w.alloc (.cells #[.string nm, .int .i64 f, .int .i64 t, .int .i64 m, .int .i64 k, .int .i64 wk, .int .i64 d, .int .i64 s, .int .i64 b, .int .i64 sv, .string l] 43)).alloc (.cells #[.int .i64 0, .int .i64 0, .int .i64 0] 53)).cell? ⟨w.heap.size + 1, 1, none⟩ = some (.int .i64 0) := by go_simp
  have g1 : ((w.alloc (.cells #[.string nm, .int .i64 f, .int .i64 t, .int .i64 m, .int .i64 k, .int .i64 wk, .int .i64 d, .int .i64 s, .int .i64 b, .int .i64 sv, .string l] 43)).alloc (.cells #[.int .i64 0, .int .i64 0, .int .i64 0] 53)).frozen? ⟨w.heap.size + 1, 1, none⟩ = false := by go_simp
  have o2 : ((w.alloc (.cells #[.string nm, .int .i64 f, .int .i64 t, .int .i64 m, .int .i64 k, .int .i64 wk, .int .i64 d, .int .i64 s, .int .i64 b, .int .i64 sv, .string l] 43)).alloc (.cells #[.int .i64 0, .int .i64 0, .int .i64 0] 53)).cell? ⟨w.heap.size + 1, 2, none⟩ = some (.int .i64 0) := by go_simp
  have g2 : ((w.alloc (.cells #[.string nm, .int .i64 f, .int .i64 t, .int .i64 m, .int .i64 k, .int .i64 wk, .int .i64 d, .int .i64 s, .int .i64 b, .int .i64 sv, .string l] 43)).alloc (.cells #[.int .i64 0, .int .i64 0, .int .i64 0] 53)).frozen? ⟨w.heap.size + 1, 2, none⟩ = false := by go_simp
  have p0 : ((w.alloc (.cells #[.string nm, .int .i64 f, .int .i64 t, .int .i64 m, .int .i64 k, .int .i64 wk, .int .i64 d, .int .i64 s, .int .i64 b, .int .i64 sv, .string l] 43)).alloc (.cells #[.int .i64 0, .int .i64 0, .int .i64 0] 53)).cell? ⟨q, 0, none⟩ = some (.int .i64 fr) := by go_simp
  have p1 : ((w.alloc (.cells #[.string nm, .int .i64 f, .int .i64 t, .int .i64 m, .int .i64 k, .int .i64 wk, .int .i64 d, .int .i64 s, .int .i64 b, .int .i64 sv, .string l] 43)).alloc (.cells #[.int .i64 0, .int .i64 0, .int .i64 0] 53)).cell? ⟨q, 1, none⟩ = some (.int .i64 fy) := by go_simp
  have p2 : ((w.alloc (.cells #[.string nm, .int .i64 f, .int .i64 t, .int .i64 m, .int .i64 k, .int .i64 wk, .int .i64 d, .int .i64 s, .int .i64 b, .int .i64 sv, .string l] 43)).alloc (.cells #[.int .i64 0, .int .i64 0, .int .i64 0] 53)).cell? ⟨q, 2, none⟩ = some (.int .i64 fn) := by go_simp
  have zW : ((w.alloc (.cells #[.string nm, .int .i64 f, .int .i64 t, .int .i64 m, .int .i64 k, .int .i64 wk, .int .i64 d, .int .i64 s, .int .i64 b, .int .i64 sv, .string l] 43)).alloc (.cells #[.int .i64 0, .int .i64 0, .int .i64 0] 53)).heap.size = w.heap.size + 2 := by simp
  have B0 : Below w.heap.size w ((w.alloc (.cells #[.string nm, .int .i64 f, .int .i64 t, .int .i64 m, .int .i64 k, .int .i64 wk, .int .i64 d, .int .i64 s, .int .i64 b, .int .i64 sv, .string l] 43)).alloc (.cells #[.int .i64 0, .int .i64 0, .int .i64 0] 53)) := by (focus (repeat' (first | exact Below.refl _ _ | refine Below.alloc ?_ ?_ _ | refine Below.setCell ?_ ?_ _ | refine Below.drew ?_ | refine below_drewN ?_ _ | refine Below.trans ?_ (Below.mono (by assumption) ?_) | refine Below.trans ?_ (Below.mono (BW.below _) ?_) | (simp; done) | (simp; omega) | omega)))
  generalize ((w.alloc (.cells #[.string nm, .int .i64 f, .int .i64 t, .int .i64 m, .int .i64 k, .int .i64 wk, .int .i64 d, .int .i64 s, .int .i64 b, .int .i64 sv, .string l] 43)).alloc (.cells #[.int .i64 0, .int .i64 0, .int .i64 0] 53)) = W0 at *
  go_loopw [10, 11] (fun i _ wr => ∃ y : Int, i = .int .i64 y ∧ y ≤ S ∧ -60001 ≤ y ∧ Hid (∀ y', y' ≤ S → y < y' → L y' = false) ∧ Below W0.heap.size W0 wr) (fun i _ _ => (intOf i + 1 - f).toNat)
  case atStart => exact ⟨S, by first | rfl | (rw [em]) | (simp only [em]) | trace_state, by omega, by omega, Lib.hid (fun y' h h' => by omega), Below.refl _ _⟩
  case round =>
    obtain ⟨y, rfl, hy0, hy1, HY, hB⟩ := hrel
    have hsz := hB.size
    have d0 := (hB.cell (p := ⟨w.heap.size, 0, none⟩) (show w.heap.size < _ by omega)).trans c0
    have d1 := (hB.cell (p := ⟨w.heap.size, 1, none⟩) (show w.heap.size < _ by omega)).trans c1
    have d2 := (hB.cell (p := ⟨w.heap.size, 2, none⟩) (show w.heap.size < _ by omega)).trans c2
    have d3 := (hB.cell (p := ⟨w.heap.size, 3, none⟩) (show w.heap.size < _ by omega)).trans c3
    have d4 := (hB.cell (p := ⟨w.heap.size, 4, none⟩) (show w.heap.size < _ by omega)).trans c4
    have d5 := (hB.cell (p := ⟨w.heap.size, 5, none⟩) (show w.heap.size < _ by omega)).trans c5
    have d6 := (hB.cell (p := ⟨w.heap.size, 6, none⟩) (show w.heap.size < _ by omega)).trans c6
    have d7 := (hB.cell (p := ⟨w.heap.size, 7, none⟩) (show w.heap.size < _ by omega)).trans c7
    have d8 := (hB.cell (p := ⟨w.heap.size, 8, none⟩) (show w.heap.size < _ by omega)).trans c8
    have d9 := (hB.cell (p := ⟨w.heap.size, 9, none⟩) (show w.heap.size < _ by omega)).trans c9
    have d10 := (hB.cell (p := ⟨w.heap.size, 10, none⟩) (show w.heap.size < _ by omega)).trans c10
    have a0 := (hB.cell (p := ⟨w.heap.size + 1, 0, none⟩) (show w.heap.size + 1 < _ by omega)).trans o0
    have e0 := (hB.frozen (p := ⟨w.heap.size + 1, 0, none⟩) (show w.heap.size + 1 < _ by omega)).trans g0
    have a1 := (hB.cell (p := ⟨w.heap.size + 1, 1, none⟩) (show w.heap.size + 1 < _ by omega)).trans o1
    have e1 := (hB.frozen (p := ⟨w.heap.size + 1, 1, none⟩) (show w.heap.size + 1 < _ by omega)).trans g1
    have a2 := (hB.cell (p := ⟨w.heap.size + 1, 2, none⟩) (show w.heap.size + 1 < _ by omega)).trans o2
    have e2 := (hB.frozen (p := ⟨w.heap.size + 1, 2, none⟩) (show w.heap.size + 1 < _ by omega)).trans g2
    have r0 := (hB.cell (p := ⟨q, 0, none⟩) (show q < _ by omega)).trans p0
    have r1 := (hB.cell (p := ⟨q, 1, none⟩) (show q < _ by omega)).trans p1
    have r2 := (hB.cell (p := ⟨q, 2, none⟩) (show q < _ by omega)).trans p2
    have rz : q < wr.heap.size := by omega
    have BW := B0.trans (hB.mono B0.size)
    by_cases hc : f ≤ y
    · have hNy := hN.out y (by have := HS2.out y hy0; omega) (by have := HS2.out y hy0; omega)
      have hly := HLN.out y
      obtain ⟨N, hNN⟩ : ∃ N, N = NV y := ⟨_, rfl⟩
      rw [← hNN] at hNy hly
      have HNN := Lib.hid hNN
      clear hNN
      have hX := fun u h0 h1 h2 h3 => occur_Prev1 q fr fy fn place y N u h0 h1 h2 h3
      rw [← hly] at hX
      obtain ⟨B, hBB⟩ : ∃ B, B = L y := ⟨_, rfl⟩
      rw [← hBB] at hX
      have HBB : Hid (L y = B) := Lib.hid hBB.symm
      clear hly hBB
      go_wp2_with (go_at_call 35; refine (hNy _).mono ?_; rintro e w1 ⟨rfl, hb⟩; obtain ⟨hc, hf⟩ := bcell hb; have z := hb.size; (try simp at z))
      have z1 := hb.size
      have W1 : Below W0.heap.size W0 w1 := hB.trans (hb.mono hsz)
      have A1 : Below w1.heap.size w1 (w1.alloc (.cells #[.int .i64 place, .int .i64 y, .int .i64 N] 53)) := (Below.refl _ _).alloc (Nat.le_refl _) _
      have hq1 : q < w1.heap.size := by omega
      refine (hX _ ((A1.cell (p := ⟨q, 0, none⟩) hq1).trans ((hb.cell (p := ⟨q, 0, none⟩) rz).trans r0)) ((A1.cell (p := ⟨q, 1, none⟩) hq1).trans ((hb.cell (p := ⟨q, 1, none⟩) rz).trans r1)) ((A1.cell (p := ⟨q, 2, none⟩) hq1).trans ((hb.cell (p := ⟨q, 2, none⟩) rz).trans r2)) (by simp; omega)).mono ?_
      rintro e w2 ⟨rfl, hb2⟩
      have z2 := hb2.size
      simp at z2
      have W2 : Below W0.heap.size W0 w2 := W1.trans ((A1.trans (hb2.mono (by simp))).mono W1.size)
      have m0 : w2.cell? ⟨w1.heap.size, 0, none⟩ = some (.int .i64 place) := (hb2.cell (p := ⟨w1.heap.size, 0, none⟩) (by simp)).trans (by go_simp)
      have m1 : w2.cell? ⟨w1.heap.size, 1, none⟩ = some (.int .i64 y) := (hb2.cell (p := ⟨w1.heap.size, 1, none⟩) (by simp)).trans (by go_simp)
      have m2 : w2.cell? ⟨w1.heap.size, 2, none⟩ = some (.int .i64 N) := (hb2.cell (p := ⟨w1.heap.size, 2, none⟩) (by simp)).trans (by go_simp)
      have a0' := (W2.cell (p := ⟨w.heap.size + 1, 0, none⟩) (show w.heap.size + 1 < _ by omega)).trans o0
      have e0' := (W2.frozen (p := ⟨w.heap.size + 1, 0, none⟩) (show w.heap.size + 1 < _ by omega)).trans g0
      have a1' := (W2.cell (p := ⟨w.heap.size + 1, 1, none⟩) (show w.heap.size + 1 < _ by omega)).trans o1
      have e1' := (W2.frozen (p := ⟨w.heap.size + 1, 1, none⟩) (show w.heap.size + 1 < _ by omega)).trans g1
      have a2' := (W2.cell (p := ⟨w.heap.size + 1, 2, none⟩) (show w.heap.size + 1 < _ by omega)).trans o2
      have e2' := (W2.frozen (p := ⟨w.heap.size + 1, 2, none⟩) (show w.heap.size + 1 < _ by omega)).trans g2
      have BW2 := B0.trans (W2.mono B0.size)
      clear hb2 hc hf A1 W1 BW hB hX hNy d0 d1 d2 d3 d4 d5 d6 d7 d8 d9 d10 a0 e0 r0 a1 e1 r1 a2 e2 r2
      cases B with
      | true =>
        go_wp2_with fail
        refine bodyPost_ret (v := .tuple #[occ place y N, .bool true]) (by simp [results, Tryd.results75, go_sem, *]) rfl ⟨.inl ⟨y, by have := HS2.out y hy0; omega, by have := HS2.out y hy0; omega, HBB.out, HY.out, by rw [HNN.out]⟩, ?_⟩
        exact ((BW2.setCell (p := ⟨w.heap.size + 1, 0, none⟩) (by simp) _).setCell (p := ⟨w.heap.size + 1, 1, none⟩) (by simp) _).setCell (p := ⟨w.heap.size + 1, 2, none⟩) (by simp) _
      | false =>
        go_wp2_with fail
        go_roundw
        case rel => exact ⟨y - 1, by go_num, by omega, by omega, Lib.hid (fun y' h h' => by
          rcases Int.lt_or_eq_of_le (show y ≤ y' by omega) with h1 | h1
          · exact HY.out y' h h1
          · rw [← h1]; exact HBB.out), W2⟩
        case measure => simp only [intOf]; omega
    · go_wp2_with fail
      refine bodyPost_ret (v := .tuple #[occ 0 0 0, .bool false]) (by simp [results, Tryd.results75, go_sem, *]) rfl ⟨.inr ⟨fun y' h h' => HY.out y' h (by omega), rfl⟩, ?_⟩
      exact ((BW.setCell (p := ⟨w.heap.size + 1, 0, none⟩) (by simp) _).setCell (p := ⟨w.heap.size + 1, 1, none⟩) (by simp) _).setCell (p := ⟨w.heap.size + 1, 2, none⟩) (by simp) _
end Go.Proofs.YtjddmcecllhlhaaDoor
