/-
  The next occurrence in a table of one rule, and the one before.
-/
import Derived.Test.YtjddmcecllhlhaaDoorEyE
namespace Go.Proofs.YtjddmcecllhlhaaDoor
open Go.RowKit Cal
attribute [local go_sem] BW.cell BW.frozen
/-- A table of one rule. -/
structure TabAt (w : World) (bl : Nat) (r : Ru) : Prop where
  lt : bl < w.heap.size
  c0 : w.cell? ⟨bl, 0, none⟩ = some (.string r.nm)
  c1 : w.cell? ⟨bl, 1, none⟩ = some (.int .i64 r.f)
  c2 : w.cell? ⟨bl, 2, none⟩ = some (.int .i64 r.t)
  c3 : w.cell? ⟨bl, 3, none⟩ = some (.int .i64 r.m)
  c4 : w.cell? ⟨bl, 4, none⟩ = some (.int .i64 r.k)
  c5 : w.cell? ⟨bl, 5, none⟩ = some (.int .i64 r.wk)
  c6 : w.cell? ⟨bl, 6, none⟩ = some (.int .i64 r.d)
  c7 : w.cell? ⟨bl, 7, none⟩ = some (.int .i64 r.s)
  c8 : w.cell? ⟨bl, 8, none⟩ = some (.int .i64 r.b)
  c9 : w.cell? ⟨bl, 9, none⟩ = some (.int .i64 r.sv)
  c10 : w.cell? ⟨bl, 10, none⟩ = some (.string r.lt)
theorem TabAt.below {w w' : World} {bl : Nat} {r : Ru} (h : TabAt w bl r) {B : Nat} (hb : Below B w w') (hB : bl < B) (hs : B ≤ w.heap.size) : TabAt w' bl r where
  lt := Nat.lt_of_lt_of_le h.lt hb.size
  c0 := (hb.cell (p := ⟨bl, 0, none⟩) hB).trans h.c0
  c1 := (hb.cell (p := ⟨bl, 1, none⟩) hB).trans h.c1
  c2 := (hb.cell (p := ⟨bl, 2, none⟩) hB).trans h.c2
  c3 := (hb.cell (p := ⟨bl, 3, none⟩) hB).trans h.c3
  c4 := (hb.cell (p := ⟨bl, 4, none⟩) hB).trans h.c4
  c5 := (hb.cell (p := ⟨bl, 5, none⟩) hB).trans h.c5
  c6 := (hb.cell (p := ⟨bl, 6, none⟩) hB).trans h.c6
  c7 := (hb.cell (p := ⟨bl, 7, none⟩) hB).trans h.c7
  c8 := (hb.cell (p := ⟨bl, 8, none⟩) hB).trans h.c8
  c9 := (hb.cell (p := ⟨bl, 9, none⟩) hB).trans h.c9
  c10 := (hb.cell (p := ⟨bl, 10, none⟩) hB).trans h.c10
set_option maxRecDepth 100000 in
set_option maxHeartbeats 1000000 in
theorem occur_Next (r : Ru) (hR : RightIs r true) (hr : RuFine r) (bl : Nat) (fr fy fn : Int) (kn : I64 fn) (w : World) (hT : TabAt w bl r) :
    Calls Tryd.prog 71 #[.slice (some ⟨bl, 0, none⟩) 1 1, .string r.nm, occ fr fy fn] w fun e w' => ((∃ y, r.f ≤ y ∧ y ≤ r.t ∧ lessB fn fr (nomV r y) 0 = true ∧ (∀ y', max r.f (nearV fn - 2) ≤ y' → y' < y → lessB fn fr (nomV r y') 0 = false) ∧ e = .returned (.tuple #[occ 0 y (nomV r y), .bool true])) ∨ ((∀ y', max r.f (nearV fn - 2) ≤ y' → y' ≤ r.t → lessB fn fr (nomV r y') 0 = false) ∧ e = .returned (.tuple #[occ 0 0 0, .bool false]))) ∧ Below w.heap.size w w' := by
  have hN := fun w => occur_near fn kn w
  have nb := near_bd fn
  have hX := Lib.hid (fun q u h0 h1 h2 h3 => occur_next r hr 0 (nearV fn) (by omega) (by omega) q fr fy fn u h0 h1 h2 h3)
  unfold RightIs at hR
  clear hr
  have HR := Lib.hid hR
  clear hR
  generalize nearV fn = Y at *
  generalize hNV : nomV r = NV at *
  clear hNV
  obtain ⟨nm, f, t, m, k, wk, d, s, b, sv, lt⟩ := r
  dsimp only at hX HR hT ⊢
  obtain ⟨t0, t1, t2, t3, t4, t5, t6, t7, t8, t9, t10, t11⟩ := hT
  dsimp only at t1 t2 t3 t4 t5 t6 t7 t8 t9 t10 t11
  go_enter Tryd.func71, Tryd.ntmps71
  go_wp2_with (go_at_call 74; refine (hN _).mono ?_; rintro e w1 ⟨rfl, hb⟩; obtain ⟨hc, hf⟩ := bcell hb; have z := hb.size; (try simp at z))
  have B0 : Below w.heap.size w ((w.alloc (.cells #[.int .i64 fr, .int .i64 fy, .int .i64 fn] 53)).alloc (.cells #[.int .i64 0, .int .i64 0, .int .i64 0] 53)) := by (focus (repeat' (first | exact Below.refl _ _ | refine Below.alloc ?_ ?_ _ | refine Below.setCell ?_ ?_ _ | refine Below.drew ?_ | refine below_drewN ?_ _ | refine Below.trans ?_ (Below.mono (by assumption) ?_) | refine Below.trans ?_ (Below.mono (BW.below _) ?_) | (simp; done) | (simp; omega) | omega)))
  have s0 : ((w.alloc (.cells #[.int .i64 fr, .int .i64 fy, .int .i64 fn] 53)).alloc (.cells #[.int .i64 0, .int .i64 0, .int .i64 0] 53)).heap.size = w.heap.size + 2 := by simp
  have p0 : w1.cell? ⟨w.heap.size, 0, none⟩ = some (.int .i64 fr) := (hb.cell (p := ⟨w.heap.size, 0, none⟩) (by first | (simp; done) | (simp; omega))).trans (by go_simp)
  have p1 : w1.cell? ⟨w.heap.size, 1, none⟩ = some (.int .i64 fy) := (hb.cell (p := ⟨w.heap.size, 1, none⟩) (by first | (simp; done) | (simp; omega))).trans (by go_simp)
  have p2 : w1.cell? ⟨w.heap.size, 2, none⟩ = some (.int .i64 fn) := (hb.cell (p := ⟨w.heap.size, 2, none⟩) (by first | (simp; done) | (simp; omega))).trans (by go_simp)
  have o0 : w1.cell? ⟨w.heap.size + 1, 0, none⟩ = some (.int .i64 0) := (hb.cell (p := ⟨w.heap.size + 1, 0, none⟩) (by first | (simp; done) | (simp; omega))).trans (by go_simp)
  have g0 : w1.frozen? ⟨w.heap.size + 1, 0, none⟩ = false := (hb.frozen (p := ⟨w.heap.size + 1, 0, none⟩) (by first | (simp; done) | (simp; omega))).trans (by go_simp)
  have o1 : w1.cell? ⟨w.heap.size + 1, 1, none⟩ = some (.int .i64 0) := (hb.cell (p := ⟨w.heap.size + 1, 1, none⟩) (by first | (simp; done) | (simp; omega))).trans (by go_simp)
  have g1 : w1.frozen? ⟨w.heap.size + 1, 1, none⟩ = false := (hb.frozen (p := ⟨w.heap.size + 1, 1, none⟩) (by first | (simp; done) | (simp; omega))).trans (by go_simp)
  have o2 : w1.cell? ⟨w.heap.size + 1, 2, none⟩ = some (.int .i64 0) := (hb.cell (p := ⟨w.heap.size + 1, 2, none⟩) (by first | (simp; done) | (simp; omega))).trans (by go_simp)
  have g2 : w1.frozen? ⟨w.heap.size + 1, 2, none⟩ = false := (hb.frozen (p := ⟨w.heap.size + 1, 2, none⟩) (by first | (simp; done) | (simp; omega))).trans (by go_simp)
  have B1 : Below w.heap.size w w1 := B0.trans (hb.mono (by omega))
  have z1 : w.heap.size + 2 ≤ w1.heap.size := by have := hb.size; omega
  have c0 := (B1.cell (p := ⟨bl, 0, none⟩) t0).trans t1
  have c1 := (B1.cell (p := ⟨bl, 1, none⟩) t0).trans t2
  have c2 := (B1.cell (p := ⟨bl, 2, none⟩) t0).trans t3
  have c3 := (B1.cell (p := ⟨bl, 3, none⟩) t0).trans t4
  have c4 := (B1.cell (p := ⟨bl, 4, none⟩) t0).trans t5
  have c5 := (B1.cell (p := ⟨bl, 5, none⟩) t0).trans t6
  have c6 := (B1.cell (p := ⟨bl, 6, none⟩) t0).trans t7
  have c7 := (B1.cell (p := ⟨bl, 7, none⟩) t0).trans t8
  have c8 := (B1.cell (p := ⟨bl, 8, none⟩) t0).trans t9
  have c9 := (B1.cell (p := ⟨bl, 9, none⟩) t0).trans t10
  have c10 := (B1.cell (p := ⟨bl, 10, none⟩) t0).trans t11
  clear hb hc hf z B0 s0 hN t1 t2 t3 t4 t5 t6 t7 t8 t9 t10 t11
  refine wp_loop_rounds 2 ?_
  rw [rounds_succ]
  have A1 : Below w1.heap.size w1 (w1.alloc (.cells #[.string nm, .int .i64 f, .int .i64 t, .int .i64 m, .int .i64 k, .int .i64 wk, .int .i64 d, .int .i64 s, .int .i64 b, .int .i64 sv, .string lt] 43)) := (Below.refl _ _).alloc (Nat.le_refl _) _
  go_wp2_with (go_at_call 15; refine (HR.out _).mono ?_; rintro e w2 ⟨rfl, hb⟩; have z2 := hb.size; simp at z2; have B12 : Below w1.heap.size w1 w2 := A1.trans (hb.mono (by simp)); have d0 : w2.cell? ⟨w1.heap.size, 0, none⟩ = some (.string nm) := (hb.cell (p := ⟨w1.heap.size, 0, none⟩) (by simp)).trans (by go_simp); have d1 : w2.cell? ⟨w1.heap.size, 1, none⟩ = some (.int .i64 f) := (hb.cell (p := ⟨w1.heap.size, 1, none⟩) (by simp)).trans (by go_simp); have d2 : w2.cell? ⟨w1.heap.size, 2, none⟩ = some (.int .i64 t) := (hb.cell (p := ⟨w1.heap.size, 2, none⟩) (by simp)).trans (by go_simp); have d3 : w2.cell? ⟨w1.heap.size, 3, none⟩ = some (.int .i64 m) := (hb.cell (p := ⟨w1.heap.size, 3, none⟩) (by simp)).trans (by go_simp); have d4 : w2.cell? ⟨w1.heap.size, 4, none⟩ = some (.int .i64 k) := (hb.cell (p := ⟨w1.heap.size, 4, none⟩) (by simp)).trans (by go_simp); have d5 : w2.cell? ⟨w1.heap.size, 5, none⟩ = some (.int .i64 wk) := (hb.cell (p := ⟨w1.heap.size, 5, none⟩) (by simp)).trans (by go_simp); have d6 : w2.cell? ⟨w1.heap.size, 6, none⟩ = some (.int .i64 d) := (hb.cell (p := ⟨w1.heap.size, 6, none⟩) (by simp)).trans (by go_simp); have d7 : w2.cell? ⟨w1.heap.size, 7, none⟩ = some (.int .i64 s) := (hb.cell (p := ⟨w1.heap.size, 7, none⟩) (by simp)).trans (by go_simp); have d8 : w2.cell? ⟨w1.heap.size, 8, none⟩ = some (.int .i64 b) := (hb.cell (p := ⟨w1.heap.size, 8, none⟩) (by simp)).trans (by go_simp); have d9 : w2.cell? ⟨w1.heap.size, 9, none⟩ = some (.int .i64 sv) := (hb.cell (p := ⟨w1.heap.size, 9, none⟩) (by simp)).trans (by go_simp); have d10 : w2.cell? ⟨w1.heap.size, 10, none⟩ = some (.string lt) := (hb.cell (p := ⟨w1.heap.size, 10, none⟩) (by simp)).trans (by go_simp); have p0' := (B12.cell (p := ⟨w.heap.size, 0, none⟩) (show w.heap.size < _ by omega)).trans p0; have p1' := (B12.cell (p := ⟨w.heap.size, 1, none⟩) (show w.heap.size < _ by omega)).trans p1; have p2' := (B12.cell (p := ⟨w.heap.size, 2, none⟩) (show w.heap.size < _ by omega)).trans p2)
  clear c0 c1 c2 c3 c4 c5 c6 c7 c8 c9 c10
  refine (hX.out w.heap.size w2 p0' p1' p2' (by omega)).mono ?_
  rintro e w3 ⟨hE, hb3⟩
  have z3 := hb3.size
  have B23 : Below w1.heap.size w1 w3 := B12.trans (hb3.mono (by omega))
  have o0' := (B23.cell (p := ⟨w.heap.size + 1, 0, none⟩) (show w.heap.size + 1 < _ by omega)).trans o0
  have g0' := (B23.frozen (p := ⟨w.heap.size + 1, 0, none⟩) (show w.heap.size + 1 < _ by omega)).trans g0
  have o1' := (B23.cell (p := ⟨w.heap.size + 1, 1, none⟩) (show w.heap.size + 1 < _ by omega)).trans o1
  have g1' := (B23.frozen (p := ⟨w.heap.size + 1, 1, none⟩) (show w.heap.size + 1 < _ by omega)).trans g1
  have o2' := (B23.cell (p := ⟨w.heap.size + 1, 2, none⟩) (show w.heap.size + 1 < _ by omega)).trans o2
  have g2' := (B23.frozen (p := ⟨w.heap.size + 1, 2, none⟩) (show w.heap.size + 1 < _ by omega)).trans g2
  have BW := B1.trans (B23.mono (by omega))
  clear hX HR hb hb3 A1 B12 B23 o0 o1 o2 g0 g1 g2 p0 p1 p2 p0' p1' p2' d0 d1 d2 d3 d4 d5 d6 d7 d8 d9 d10
  have zq : w.heap.size + 1 < w3.heap.size := by omega
  rcases hE with ⟨y, e0, e1, e2, e3, rfl⟩ | ⟨e3, rfl⟩
  · have HE := Lib.hid (And.intro e0 (And.intro e1 (And.intro e2 e3)))
    obtain ⟨N, hN⟩ : ∃ N, N = NV y := ⟨_, rfl⟩
    rw [← hN]
    have HNN := Lib.hid hN
    clear e0 e1 e2 e3 hN
    go_wp2_with fail
    have x0 : ((((w3.setCell ⟨w.heap.size + 1, 0, none⟩ (.int .i64 0)).setCell ⟨w.heap.size + 1, 1, none⟩ (.int .i64 y)).setCell ⟨w.heap.size + 1, 2, none⟩ (.int .i64 N)).alloc (.cells #[.int .i64 0, .int .i64 y, .int .i64 N] 53)).cell? ⟨w.heap.size + 1, 0, none⟩ = some (.int .i64 0) := by go_simp
    have y0 : ((((w3.setCell ⟨w.heap.size + 1, 0, none⟩ (.int .i64 0)).setCell ⟨w.heap.size + 1, 1, none⟩ (.int .i64 y)).setCell ⟨w.heap.size + 1, 2, none⟩ (.int .i64 N)).alloc (.cells #[.int .i64 0, .int .i64 y, .int .i64 N] 53)).frozen? ⟨w.heap.size + 1, 0, none⟩ = false := by go_simp
    have x1 : ((((w3.setCell ⟨w.heap.size + 1, 0, none⟩ (.int .i64 0)).setCell ⟨w.heap.size + 1, 1, none⟩ (.int .i64 y)).setCell ⟨w.heap.size + 1, 2, none⟩ (.int .i64 N)).alloc (.cells #[.int .i64 0, .int .i64 y, .int .i64 N] 53)).cell? ⟨w.heap.size + 1, 1, none⟩ = some (.int .i64 y) := by go_simp
    have y1 : ((((w3.setCell ⟨w.heap.size + 1, 0, none⟩ (.int .i64 0)).setCell ⟨w.heap.size + 1, 1, none⟩ (.int .i64 y)).setCell ⟨w.heap.size + 1, 2, none⟩ (.int .i64 N)).alloc (.cells #[.int .i64 0, .int .i64 y, .int .i64 N] 53)).frozen? ⟨w.heap.size + 1, 1, none⟩ = false := by go_simp
    have x2 : ((((w3.setCell ⟨w.heap.size + 1, 0, none⟩ (.int .i64 0)).setCell ⟨w.heap.size + 1, 1, none⟩ (.int .i64 y)).setCell ⟨w.heap.size + 1, 2, none⟩ (.int .i64 N)).alloc (.cells #[.int .i64 0, .int .i64 y, .int .i64 N] 53)).cell? ⟨w.heap.size + 1, 2, none⟩ = some (.int .i64 N) := by go_simp
    have y2 : ((((w3.setCell ⟨w.heap.size + 1, 0, none⟩ (.int .i64 0)).setCell ⟨w.heap.size + 1, 1, none⟩ (.int .i64 y)).setCell ⟨w.heap.size + 1, 2, none⟩ (.int .i64 N)).alloc (.cells #[.int .i64 0, .int .i64 y, .int .i64 N] 53)).frozen? ⟨w.heap.size + 1, 2, none⟩ = false := by go_simp
    have BV : Below w.heap.size w ((((w3.setCell ⟨w.heap.size + 1, 0, none⟩ (.int .i64 0)).setCell ⟨w.heap.size + 1, 1, none⟩ (.int .i64 y)).setCell ⟨w.heap.size + 1, 2, none⟩ (.int .i64 N)).alloc (.cells #[.int .i64 0, .int .i64 y, .int .i64 N] 53)) := by (repeat' (first | exact BW | refine Below.setCell ?_ (by first | (simp; done) | (simp; omega)) _ | refine Below.alloc ?_ (by first | (simp; done) | (simp; omega)) _))
    clear BW o0' o1' o2' g0' g1' g2'
    generalize ((((w3.setCell ⟨w.heap.size + 1, 0, none⟩ (.int .i64 0)).setCell ⟨w.heap.size + 1, 1, none⟩ (.int .i64 y)).setCell ⟨w.heap.size + 1, 2, none⟩ (.int .i64 N)).alloc (.cells #[.int .i64 0, .int .i64 y, .int .i64 N] 53)) = W4 at *
    have BW := BV
    clear BV
    rw [rounds_succ]
    go_wp2_with fail
    refine bodyPost_ret (v := .tuple #[occ 0 y N, .bool true]) (by simp [results, Tryd.results71, go_sem, *]) rfl ⟨.inl ⟨y, HE.out.1, HE.out.2.1, HE.out.2.2.1, HE.out.2.2.2, by rw [HNN.out]⟩, ?_⟩
    (repeat' (first | exact BW | refine Below.setCell ?_ (by first | (simp; done) | (simp; omega)) _ | refine Below.alloc ?_ (by first | (simp; done) | (simp; omega)) _))
  · have HE := Lib.hid e3
    clear e3
    go_wp2_with fail
    rw [rounds_succ]
    go_wp2_with fail
    refine bodyPost_ret (v := .tuple #[occ 0 0 0, .bool false]) (by simp [results, Tryd.results71, go_sem, *]) rfl ⟨.inr ⟨HE.out, rfl⟩, ?_⟩
    (repeat' (first | exact BW | refine Below.setCell ?_ (by first | (simp; done) | (simp; omega)) _ | refine Below.alloc ?_ (by first | (simp; done) | (simp; omega)) _))
set_option maxRecDepth 100000 in
set_option maxHeartbeats 1000000 in
theorem occur_Prev (r : Ru) (hR : RightIs r true) (hr : RuFine r) (bl : Nat) (fr fy fn : Int) (kn : I64 fn) (w : World) (hT : TabAt w bl r) :
    Calls Tryd.prog 47 #[.slice (some ⟨bl, 0, none⟩) 1 1, .string r.nm, occ fr fy fn] w fun e w' => ((∃ y, r.f ≤ y ∧ y ≤ r.t ∧ lessB (nomV r y) 0 fn fr = true ∧ (∀ y', y' ≤ min r.t (nearV fn + 2) → y < y' → lessB (nomV r y') 0 fn fr = false) ∧ e = .returned (.tuple #[occ 0 y (nomV r y), .bool true])) ∨ ((∀ y', y' ≤ min r.t (nearV fn + 2) → r.f ≤ y' → lessB (nomV r y') 0 fn fr = false) ∧ e = .returned (.tuple #[occ 0 0 0, .bool false]))) ∧ Below w.heap.size w w' := by
  have hN := fun w => occur_near fn kn w
  have nb := near_bd fn
  have hX := Lib.hid (fun q u h0 h1 h2 h3 => occur_prev r hr 0 (nearV fn) (by omega) (by omega) q fr fy fn u h0 h1 h2 h3)
  unfold RightIs at hR
  clear hr
  have HR := Lib.hid hR
  clear hR
  generalize nearV fn = Y at *
  generalize hNV : nomV r = NV at *
  clear hNV
  obtain ⟨nm, f, t, m, k, wk, d, s, b, sv, lt⟩ := r
  dsimp only at hX HR hT ⊢
  obtain ⟨t0, t1, t2, t3, t4, t5, t6, t7, t8, t9, t10, t11⟩ := hT
  dsimp only at t1 t2 t3 t4 t5 t6 t7 t8 t9 t10 t11
  go_enter Tryd.func47, Tryd.ntmps47
  go_wp2_with (go_at_call 74; refine (hN _).mono ?_; rintro e w1 ⟨rfl, hb⟩; obtain ⟨hc, hf⟩ := bcell hb; have z := hb.size; (try simp at z))
  have B0 : Below w.heap.size w ((w.alloc (.cells #[.int .i64 fr, .int .i64 fy, .int .i64 fn] 53)).alloc (.cells #[.int .i64 0, .int .i64 0, .int .i64 0] 53)) := by (focus (repeat' (first | exact Below.refl _ _ | refine Below.alloc ?_ ?_ _ | refine Below.setCell ?_ ?_ _ | refine Below.drew ?_ | refine below_drewN ?_ _ | refine Below.trans ?_ (Below.mono (by assumption) ?_) | refine Below.trans ?_ (Below.mono (BW.below _) ?_) | (simp; done) | (simp; omega) | omega)))
  have s0 : ((w.alloc (.cells #[.int .i64 fr, .int .i64 fy, .int .i64 fn] 53)).alloc (.cells #[.int .i64 0, .int .i64 0, .int .i64 0] 53)).heap.size = w.heap.size + 2 := by simp
  have p0 : w1.cell? ⟨w.heap.size, 0, none⟩ = some (.int .i64 fr) := (hb.cell (p := ⟨w.heap.size, 0, none⟩) (by first | (simp; done) | (simp; omega))).trans (by go_simp)
  have p1 : w1.cell? ⟨w.heap.size, 1, none⟩ = some (.int .i64 fy) := (hb.cell (p := ⟨w.heap.size, 1, none⟩) (by first | (simp; done) | (simp; omega))).trans (by go_simp)
  have p2 : w1.cell? ⟨w.heap.size, 2, none⟩ = some (.int .i64 fn) := (hb.cell (p := ⟨w.heap.size, 2, none⟩) (by first | (simp; done) | (simp; omega))).trans (by go_simp)
  have o0 : w1.cell? ⟨w.heap.size + 1, 0, none⟩ = some (.int .i64 0) := (hb.cell (p := ⟨w.heap.size + 1, 0, none⟩) (by first | (simp; done) | (simp; omega))).trans (by go_simp)
  have g0 : w1.frozen? ⟨w.heap.size + 1, 0, none⟩ = false := (hb.frozen (p := ⟨w.heap.size + 1, 0, none⟩) (by first | (simp; done) | (simp; omega))).trans (by go_simp)
  have o1 : w1.cell? ⟨w.heap.size + 1, 1, none⟩ = some (.int .i64 0) := (hb.cell (p := ⟨w.heap.size + 1, 1, none⟩) (by first | (simp; done) | (simp; omega))).trans (by go_simp)
  have g1 : w1.frozen? ⟨w.heap.size + 1, 1, none⟩ = false := (hb.frozen (p := ⟨w.heap.size + 1, 1, none⟩) (by first | (simp; done) | (simp; omega))).trans (by go_simp)
  have o2 : w1.cell? ⟨w.heap.size + 1, 2, none⟩ = some (.int .i64 0) := (hb.cell (p := ⟨w.heap.size + 1, 2, none⟩) (by first | (simp; done) | (simp; omega))).trans (by go_simp)
  have g2 : w1.frozen? ⟨w.heap.size + 1, 2, none⟩ = false := (hb.frozen (p := ⟨w.heap.size + 1, 2, none⟩) (by first | (simp; done) | (simp; omega))).trans (by go_simp)
  have B1 : Below w.heap.size w w1 := B0.trans (hb.mono (by omega))
  have z1 : w.heap.size + 2 ≤ w1.heap.size := by have := hb.size; omega
  have c0 := (B1.cell (p := ⟨bl, 0, none⟩) t0).trans t1
  have c1 := (B1.cell (p := ⟨bl, 1, none⟩) t0).trans t2
  have c2 := (B1.cell (p := ⟨bl, 2, none⟩) t0).trans t3
  have c3 := (B1.cell (p := ⟨bl, 3, none⟩) t0).trans t4
  have c4 := (B1.cell (p := ⟨bl, 4, none⟩) t0).trans t5
  have c5 := (B1.cell (p := ⟨bl, 5, none⟩) t0).trans t6
  have c6 := (B1.cell (p := ⟨bl, 6, none⟩) t0).trans t7
  have c7 := (B1.cell (p := ⟨bl, 7, none⟩) t0).trans t8
  have c8 := (B1.cell (p := ⟨bl, 8, none⟩) t0).trans t9
  have c9 := (B1.cell (p := ⟨bl, 9, none⟩) t0).trans t10
  have c10 := (B1.cell (p := ⟨bl, 10, none⟩) t0).trans t11
  clear hb hc hf z B0 s0 hN t1 t2 t3 t4 t5 t6 t7 t8 t9 t10 t11
  refine wp_loop_rounds 2 ?_
  rw [rounds_succ]
  have A1 : Below w1.heap.size w1 (w1.alloc (.cells #[.string nm, .int .i64 f, .int .i64 t, .int .i64 m, .int .i64 k, .int .i64 wk, .int .i64 d, .int .i64 s, .int .i64 b, .int .i64 sv, .string lt] 43)) := (Below.refl _ _).alloc (Nat.le_refl _) _
  go_wp2_with (go_at_call 15; refine (HR.out _).mono ?_; rintro e w2 ⟨rfl, hb⟩; have z2 := hb.size; simp at z2; have B12 : Below w1.heap.size w1 w2 := A1.trans (hb.mono (by simp)); have d0 : w2.cell? ⟨w1.heap.size, 0, none⟩ = some (.string nm) := (hb.cell (p := ⟨w1.heap.size, 0, none⟩) (by simp)).trans (by go_simp); have d1 : w2.cell? ⟨w1.heap.size, 1, none⟩ = some (.int .i64 f) := (hb.cell (p := ⟨w1.heap.size, 1, none⟩) (by simp)).trans (by go_simp); have d2 : w2.cell? ⟨w1.heap.size, 2, none⟩ = some (.int .i64 t) := (hb.cell (p := ⟨w1.heap.size, 2, none⟩) (by simp)).trans (by go_simp); have d3 : w2.cell? ⟨w1.heap.size, 3, none⟩ = some (.int .i64 m) := (hb.cell (p := ⟨w1.heap.size, 3, none⟩) (by simp)).trans (by go_simp); have d4 : w2.cell? ⟨w1.heap.size, 4, none⟩ = some (.int .i64 k) := (hb.cell (p := ⟨w1.heap.size, 4, none⟩) (by simp)).trans (by go_simp); have d5 : w2.cell? ⟨w1.heap.size, 5, none⟩ = some (.int .i64 wk) := (hb.cell (p := ⟨w1.heap.size, 5, none⟩) (by simp)).trans (by go_simp); have d6 : w2.cell? ⟨w1.heap.size, 6, none⟩ = some (.int .i64 d) := (hb.cell (p := ⟨w1.heap.size, 6, none⟩) (by simp)).trans (by go_simp); have d7 : w2.cell? ⟨w1.heap.size, 7, none⟩ = some (.int .i64 s) := (hb.cell (p := ⟨w1.heap.size, 7, none⟩) (by simp)).trans (by go_simp); have d8 : w2.cell? ⟨w1.heap.size, 8, none⟩ = some (.int .i64 b) := (hb.cell (p := ⟨w1.heap.size, 8, none⟩) (by simp)).trans (by go_simp); have d9 : w2.cell? ⟨w1.heap.size, 9, none⟩ = some (.int .i64 sv) := (hb.cell (p := ⟨w1.heap.size, 9, none⟩) (by simp)).trans (by go_simp); have d10 : w2.cell? ⟨w1.heap.size, 10, none⟩ = some (.string lt) := (hb.cell (p := ⟨w1.heap.size, 10, none⟩) (by simp)).trans (by go_simp); have p0' := (B12.cell (p := ⟨w.heap.size, 0, none⟩) (show w.heap.size < _ by omega)).trans p0; have p1' := (B12.cell (p := ⟨w.heap.size, 1, none⟩) (show w.heap.size < _ by omega)).trans p1; have p2' := (B12.cell (p := ⟨w.heap.size, 2, none⟩) (show w.heap.size < _ by omega)).trans p2)
  clear c0 c1 c2 c3 c4 c5 c6 c7 c8 c9 c10
  refine (hX.out w.heap.size w2 p0' p1' p2' (by omega)).mono ?_
  rintro e w3 ⟨hE, hb3⟩
  have z3 := hb3.size
  have B23 : Below w1.heap.size w1 w3 := B12.trans (hb3.mono (by omega))
  have o0' := (B23.cell (p := ⟨w.heap.size + 1, 0, none⟩) (show w.heap.size + 1 < _ by omega)).trans o0
  have g0' := (B23.frozen (p := ⟨w.heap.size + 1, 0, none⟩) (show w.heap.size + 1 < _ by omega)).trans g0
  have o1' := (B23.cell (p := ⟨w.heap.size + 1, 1, none⟩) (show w.heap.size + 1 < _ by omega)).trans o1
  have g1' := (B23.frozen (p := ⟨w.heap.size + 1, 1, none⟩) (show w.heap.size + 1 < _ by omega)).trans g1
  have o2' := (B23.cell (p := ⟨w.heap.size + 1, 2, none⟩) (show w.heap.size + 1 < _ by omega)).trans o2
  have g2' := (B23.frozen (p := ⟨w.heap.size + 1, 2, none⟩) (show w.heap.size + 1 < _ by omega)).trans g2
  have BW := B1.trans (B23.mono (by omega))
  clear hX HR hb hb3 A1 B12 B23 o0 o1 o2 g0 g1 g2 p0 p1 p2 p0' p1' p2' d0 d1 d2 d3 d4 d5 d6 d7 d8 d9 d10
  have zq : w.heap.size + 1 < w3.heap.size := by omega
  rcases hE with ⟨y, e0, e1, e2, e3, rfl⟩ | ⟨e3, rfl⟩
  · have HE := Lib.hid (And.intro e0 (And.intro e1 (And.intro e2 e3)))
    obtain ⟨N, hN⟩ : ∃ N, N = NV y := ⟨_, rfl⟩
    rw [← hN]
    have HNN := Lib.hid hN
    clear e0 e1 e2 e3 hN
    go_wp2_with fail
    have x0 : ((((w3.setCell ⟨w.heap.size + 1, 0, none⟩ (.int .i64 0)).setCell ⟨w.heap.size + 1, 1, none⟩ (.int .i64 y)).setCell ⟨w.heap.size + 1, 2, none⟩ (.int .i64 N)).alloc (.cells #[.int .i64 0, .int .i64 y, .int .i64 N] 53)).cell? ⟨w.heap.size + 1, 0, none⟩ = some (.int .i64 0) := by go_simp
    have y0 : ((((w3.setCell ⟨w.heap.size + 1, 0, none⟩ (.int .i64 0)).setCell ⟨w.heap.size + 1, 1, none⟩ (.int .i64 y)).setCell ⟨w.heap.size + 1, 2, none⟩ (.int .i64 N)).alloc (.cells #[.int .i64 0, .int .i64 y, .int .i64 N] 53)).frozen? ⟨w.heap.size + 1, 0, none⟩ = false := by go_simp
    have x1 : ((((w3.setCell ⟨w.heap.size + 1, 0, none⟩ (.int .i64 0)).setCell ⟨w.heap.size + 1, 1, none⟩ (.int .i64 y)).setCell ⟨w.heap.size + 1, 2, none⟩ (.int .i64 N)).alloc (.cells #[.int .i64 0, .int .i64 y, .int .i64 N] 53)).cell? ⟨w.heap.size + 1, 1, none⟩ = some (.int .i64 y) := by go_simp
    have y1 : ((((w3.setCell ⟨w.heap.size + 1, 0, none⟩ (.int .i64 0)).setCell ⟨w.heap.size + 1, 1, none⟩ (.int .i64 y)).setCell ⟨w.heap.size + 1, 2, none⟩ (.int .i64 N)).alloc (.cells #[.int .i64 0, .int .i64 y, .int .i64 N] 53)).frozen? ⟨w.heap.size + 1, 1, none⟩ = false := by go_simp
    have x2 : ((((w3.setCell ⟨w.heap.size + 1, 0, none⟩ (.int .i64 0)).setCell ⟨w.heap.size + 1, 1, none⟩ (.int .i64 y)).setCell ⟨w.heap.size + 1, 2, none⟩ (.int .i64 N)).alloc (.cells #[.int .i64 0, .int .i64 y, .int .i64 N] 53)).cell? ⟨w.heap.size + 1, 2, none⟩ = some (.int .i64 N) := by go_simp
    have y2 : ((((w3.setCell ⟨w.heap.size + 1, 0, none⟩ (.int .i64 0)).setCell ⟨w.heap.size + 1, 1, none⟩ (.int .i64 y)).setCell ⟨w.heap.size + 1, 2, none⟩ (.int .i64 N)).alloc (.cells #[.int .i64 0, .int .i64 y, .int .i64 N] 53)).frozen? ⟨w.heap.size + 1, 2, none⟩ = false := by go_simp
    have BV : Below w.heap.size w ((((w3.setCell ⟨w.heap.size + 1, 0, none⟩ (.int .i64 0)).setCell ⟨w.heap.size + 1, 1, none⟩ (.int .i64 y)).setCell ⟨w.heap.size + 1, 2, none⟩ (.int .i64 N)).alloc (.cells #[.int .i64 0, .int .i64 y, .int .i64 N] 53)) := by (repeat' (first | exact BW | refine Below.setCell ?_ (by first | (simp; done) | (simp; omega)) _ | refine Below.alloc ?_ (by first | (simp; done) | (simp; omega)) _))
    clear BW o0' o1' o2' g0' g1' g2'
    generalize ((((w3.setCell ⟨w.heap.size + 1, 0, none⟩ (.int .i64 0)).setCell ⟨w.heap.size + 1, 1, none⟩ (.int .i64 y)).setCell ⟨w.heap.size + 1, 2, none⟩ (.int .i64 N)).alloc (.cells #[.int .i64 0, .int .i64 y, .int .i64 N] 53)) = W4 at *
    have BW := BV
    clear BV
    rw [rounds_succ]
    go_wp2_with fail
    refine bodyPost_ret (v := .tuple #[occ 0 y N, .bool true]) (by simp [results, Tryd.results47, go_sem, *]) rfl ⟨.inl ⟨y, HE.out.1, HE.out.2.1, HE.out.2.2.1, HE.out.2.2.2, by rw [HNN.out]⟩, ?_⟩
    (repeat' (first | exact BW | refine Below.setCell ?_ (by first | (simp; done) | (simp; omega)) _ | refine Below.alloc ?_ (by first | (simp; done) | (simp; omega)) _))
  · have HE := Lib.hid e3
    clear e3
    go_wp2_with fail
    rw [rounds_succ]
    go_wp2_with fail
    refine bodyPost_ret (v := .tuple #[occ 0 0 0, .bool false]) (by simp [results, Tryd.results47, go_sem, *]) rfl ⟨.inr ⟨HE.out, rfl⟩, ?_⟩
    (repeat' (first | exact BW | refine Below.setCell ?_ (by first | (simp; done) | (simp; omega)) _ | refine Below.alloc ?_ (by first | (simp; done) | (simp; omega)) _))
end Go.Proofs.YtjddmcecllhlhaaDoor
