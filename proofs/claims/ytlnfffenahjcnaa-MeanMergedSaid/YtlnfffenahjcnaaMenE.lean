/-
  The ends of the values that count.
-/
import Derived.Test.YtlnfffenahjcnaaMenC
namespace Go.Proofs.Ytlnfffenahjcnaa
open Go.RowKit Go.Shelf Flo
attribute [local go_sem] Oper.semAt_some
/-- The walk over the orders of a region, by a name. -/
theorem by_name {F : Fence} {n : Nat} {P : Program} {md : Region.Mode} {ops : Array Oper} {Q : Exit → Act → World → Prop} {fuel : Nat} {L : Array Bool} {a : Act} {w : World} (h : ∀ G, G = wpAnyIn F n P md ops Q → G fuel L a w) : wpAnyIn F n P md ops Q fuel L a w := h _ rfl
/-- One value more. -/
def endF (s : Int × Int × Bool) (v : Int) : Int × Int × Bool := if s.2.2 = true then ((if v < s.1 then v else s.1), (if s.2.1 < v then v else s.2.1), true) else ((if v < v then v else v), (if v < v then v else v), true)
def endL (c : List Ct) : Int × Int × Bool := c.foldl (fun s x => endF s x.1.2) (0, 0, false)
theorem endL_snoc (c : List Ct) (x : Ct) : endL (c ++ [x]) = endF (endL c) x.1.2 := by simp [endL]
def ends (l : List Pt) (a b : Int) : Int × Int × Bool := if rightL l = true then endL (cnt l a b l.length) else (0, 0, false)
set_option maxRecDepth 100000 in
set_option maxHeartbeats 4000000 in
theorem mean_Ends_y {w : World} {p : Option Addr} {l : List Pt} (cap : Nat) (a b : Int) (h : PtS w p l) (hl : l.length ≤ 6000000000000) (hI : ∀ k, k < l.length → PtI (pt l k)) (hr : rightL l = true) : Calls Try.prog 12 #[.slice p l.length cap, spn a b] w (fun e w' => e = .returned (.tuple #[.int .i64 (endL (cnt l a b l.length)).1, .int .i64 (endL (cnt l a b l.length)).2.1, .bool (endL (cnt l a b l.length)).2.2]) ∧ Below w.heap.size w w') := by
  have hR := fun w h => mean_Right (w := w) (p := p) (l := l) cap h (by omega)
  rw [hr] at hR
  have HI := Lib.hid hI
  clear hI hr
  obtain ⟨i0, hi, hz0, hz1, hz2⟩ := info_parts Try.infoFl
  refine (callsIn_wide (n := 9)).1 ?_
  refine callsIn_of_wp_marks Try.func12 rfl trivial ?_ rfl
  simp only [Try.ntmps12, List.size_toArray, List.length_cons, List.length_nil, Nat.reduceAdd, Nat.reduceSub, Array.replicate_succ, Array.replicate_zero, List.push_toArray, List.append_toArray, List.nil_append, List.cons_append]
  gi_wp2_with fail
  refine ⟨trivial, ?_⟩
  have BW : Below w.heap.size w ((((w.alloc (.cells #[.int .i64 a, .int .i64 b] 24)).alloc (.cells #[.int .i64 0] 2)).alloc (.cells #[.int .i64 0] 2)).alloc (.cells #[.bool false] 4)) := ((((Below.refl _ w).alloc (Nat.le_refl _) _).alloc (by simp) _).alloc (by first | (simp; done) | (simp; omega) | omega) _).alloc (by first | (simp; done) | (simp; omega) | omega) _
  have zW : ((((w.alloc (.cells #[.int .i64 a, .int .i64 b] 24)).alloc (.cells #[.int .i64 0] 2)).alloc (.cells #[.int .i64 0] 2)).alloc (.cells #[.bool false] 4)).heap.size = w.heap.size + 1 + 1 + 1 + 1 := by simp
  have x1 : Boxed ((((w.alloc (.cells #[.int .i64 a, .int .i64 b] 24)).alloc (.cells #[.int .i64 0] 2)).alloc (.cells #[.int .i64 0] 2)).alloc (.cells #[.bool false] 4)) (w.heap.size + 1) 2 (.int .i64 0) := by
    have := ((Boxed.new (w.alloc (.cells #[.int .i64 a, .int .i64 b] 24)) 2 (.int .i64 0)).alloc (.cells #[.int .i64 0] 2)).alloc (.cells #[.bool false] 4)
    simpa using this
  have x2 : Boxed ((((w.alloc (.cells #[.int .i64 a, .int .i64 b] 24)).alloc (.cells #[.int .i64 0] 2)).alloc (.cells #[.int .i64 0] 2)).alloc (.cells #[.bool false] 4)) (w.heap.size + 1 + 1) 2 (.int .i64 0) := by
    have := (Boxed.new ((w.alloc (.cells #[.int .i64 a, .int .i64 b] 24)).alloc (.cells #[.int .i64 0] 2)) 2 (.int .i64 0)).alloc (.cells #[.bool false] 4)
    simpa using this
  have x3 : Boxed ((((w.alloc (.cells #[.int .i64 a, .int .i64 b] 24)).alloc (.cells #[.int .i64 0] 2)).alloc (.cells #[.int .i64 0] 2)).alloc (.cells #[.bool false] 4)) (w.heap.size + 1 + 1 + 1) 4 (.bool false) := by
    have := Boxed.new (((w.alloc (.cells #[.int .i64 a, .int .i64 b] 24)).alloc (.cells #[.int .i64 0] 2)).alloc (.cells #[.int .i64 0] 2)) 4 (.bool false)
    simpa using this
  have y0 : ((((w.alloc (.cells #[.int .i64 a, .int .i64 b] 24)).alloc (.cells #[.int .i64 0] 2)).alloc (.cells #[.int .i64 0] 2)).alloc (.cells #[.bool false] 4)).cell? ⟨w.heap.size, 0, none⟩ = some (.int .i64 a) := by go_simp
  have y1 : ((((w.alloc (.cells #[.int .i64 a, .int .i64 b] 24)).alloc (.cells #[.int .i64 0] 2)).alloc (.cells #[.int .i64 0] 2)).alloc (.cells #[.bool false] 4)).cell? ⟨w.heap.size, 1, none⟩ = some (.int .i64 b) := by go_simp
  generalize ((((w.alloc (.cells #[.int .i64 a, .int .i64 b] 24)).alloc (.cells #[.int .i64 0] 2)).alloc (.cells #[.int .i64 0] 2)).alloc (.cells #[.bool false] 4)) = W0 at *
  have h1 := h.below BW
  refine (callsIn_wide.2 (hR _ h1)).mono ?_
  rintro e u ⟨rfl, hb1⟩
  have Bu : Below w.heap.size w u := BW.trans (hb1.mono (by omega))
  have s0 : u.cell? ⟨w.heap.size, 0, none⟩ = some (.int .i64 a) := (hb1.cell (p := ⟨w.heap.size, 0, none⟩) (by first | (simp; done) | (simp; omega) | omega)).trans y0
  have s1 : u.cell? ⟨w.heap.size, 1, none⟩ = some (.int .i64 b) := (hb1.cell (p := ⟨w.heap.size, 1, none⟩) (by first | (simp; done) | (simp; omega) | omega)).trans y1
  have z1 : Boxed u (w.heap.size + 1) 2 (.int .i64 0) := (hb1.block _ (by omega)).trans x1
  have z2 : Boxed u (w.heap.size + 1 + 1) 2 (.int .i64 0) := (hb1.block _ (by omega)).trans x2
  have z3 : Boxed u (w.heap.size + 1 + 1 + 1) 4 (.bool false) := (hb1.block _ (by omega)).trans x3
  have zu : w.heap.size + 1 + 1 + 1 < u.heap.size := z3.lt
  clear hb1 h1 hR x1 x2 x3 y0 y1 BW zW W0
  gi_wp2_with fail
  refine ⟨trivial, ?_⟩
  refine (callsIn_wide.2 (mean_counts _ _ _ _ _ _)).mono ?_
  rintro e w2 ⟨rfl, rfl⟩
  gi_wp2
  have W0sz : ((u.alloc (.cells #[.slice p l.length cap] 22)).alloc (.cells #[.int .i64 a, .int .i64 b] 24)).heap.size = u.heap.size + 1 + 1 := by simp
  have v1 := ((z1.alloc (.cells #[.slice p l.length cap] 22)).alloc (.cells #[.int .i64 a, .int .i64 b] 24))
  have v2 := ((z2.alloc (.cells #[.slice p l.length cap] 22)).alloc (.cells #[.int .i64 a, .int .i64 b] 24))
  have v3 := ((z3.alloc (.cells #[.slice p l.length cap] 22)).alloc (.cells #[.int .i64 a, .int .i64 b] 24))
  have bS : ((u.alloc (.cells #[.slice p l.length cap] 22)).alloc (.cells #[.int .i64 a, .int .i64 b] 24)).heap[u.heap.size + 1]? = some (.cells #[.int .i64 a, .int .i64 b] 24 (0, 0)) := by
    have := World.alloc_heap_new (u.alloc (.cells #[.slice p l.length cap] 22)) (.cells #[.int .i64 a, .int .i64 b] 24)
    simpa using this
  have c1 : ((u.alloc (.cells #[.slice p l.length cap] 22)).alloc (.cells #[.int .i64 a, .int .i64 b] 24)).cell? ⟨u.heap.size, 0, none⟩ = some (.slice p l.length cap) := by go_simp
  have c2 : ((u.alloc (.cells #[.slice p l.length cap] 22)).alloc (.cells #[.int .i64 a, .int .i64 b] 24)).cell? ⟨u.heap.size + 1, 0, none⟩ = some (.int .i64 a) := by go_simp
  have c3 : ((u.alloc (.cells #[.slice p l.length cap] 22)).alloc (.cells #[.int .i64 a, .int .i64 b] 24)).cell? ⟨u.heap.size + 1, 1, none⟩ = some (.int .i64 b) := by go_simp
  have B0 : Below w.heap.size w ((u.alloc (.cells #[.slice p l.length cap] 22)).alloc (.cells #[.int .i64 a, .int .i64 b] 24)) := (Bu.alloc (by omega) _).alloc (by first | (simp; done) | (simp; omega) | omega) _
  have hp : l = [] ∨ ∃ bk off, p = some ⟨bk, off, none⟩ ∧ bk < w.heap.size ∧ PtAt ((u.alloc (.cells #[.slice p l.length cap] 22)).alloc (.cells #[.int .i64 a, .int .i64 b] 24)) bk off l := by
    rcases h with h | ⟨bk, off, e, h1, h2⟩
    · exact .inl h
    · exact .inr ⟨bk, off, e, h1, h2.below B0 h1⟩
  generalize ((u.alloc (.cells #[.slice p l.length cap] 22)).alloc (.cells #[.int .i64 a, .int .i64 b] 24)) = W0 at *
  clear z1 z2 z3 s0 s1
  refine wpIn_rangeFunc_ownG rfl (by omega) (gf := 43) (lb := #[.pointer (some ⟨u.heap.size, 0, none⟩), .pointer (some ⟨u.heap.size + 1, 0, none⟩)]) rfl trivial (enters_of Try.func43 (by kernel_rfl) rfl)
    (counts_stops (9 - 1) (by omega) u.heap.size (u.heap.size + 1) w.heap.size p cap l a b (by omega) HI.out W0 (by omega) (by omega) (by omega) c1 c2 c3 hp) Kb.t (Kb.b (by omega) (by omega)) (Below.refl _ _) (fun _ => rfl)
    (fun pre W => (((Boxed W (w.heap.size + 1) 2 (.int .i64 (endL pre).1) ∧ Boxed W (w.heap.size + 1 + 1) 2 (.int .i64 (endL pre).2.1)) ∧ Boxed W (w.heap.size + 1 + 1 + 1) 4 (.bool (endL pre).2.2)) ∧ Below w.heap.size w W) ∧ W.heap[u.heap.size + 1]? = some (.cells #[.int .i64 a, .int .i64 b] 24 (0, 0)))
    (fun _ _ _ => False)
    (OwnFrom.and (OwnFrom.and (OwnFrom.and (OwnFrom.and (Own.from (boxed_own _ _ (fun pre : List Ct => .int .i64 (endL pre).1)) _) (Own.from (boxed_own _ _ (fun pre : List Ct => .int .i64 (endL pre).2.1)) _)) (Own.from (boxed_own _ _ (fun pre : List Ct => .bool (endL pre).2.2)) _)) (ownFrom_below (Nat.le_refl _) (by omega))) (Own.from (block_own _ _ rfl) _))
    (fun _ _ _ _ _ hs _ _ => hs)
    ⟨⟨⟨⟨v1, v2⟩, v3⟩, B0⟩, bS⟩
    (fun x => { tmps := #[.slice p l.length cap, spn a b, undef, .pointer (some ⟨w.heap.size, 0, none⟩), .pointer (some ⟨w.heap.size + 1, 0, none⟩), .pointer (some ⟨w.heap.size + 1 + 1, 0, none⟩), .pointer (some ⟨w.heap.size + 1 + 1 + 1, 0, none⟩), undef, .int .i64 x.1.2, .slice p l.length cap, .bool true, .bool false, .slice p l.length cap, .agg #[.int .i64 a, .int .i64 b],
      .func (.func 43) #[] #[.pointer (some ⟨u.heap.size, 0, none⟩), .pointer (some ⟨u.heap.size + 1, 0, none⟩)], .float .f64 (Go.floatOfInt .f64 x.1.1), .int .i64 x.1.2, undef, undef, undef, undef, undef, undef, undef, undef, undef, undef, undef, undef, undef], defers := [] }) ?assign ?body ?done ?stop
  case assign =>
    intro lp x W K hK
    unfold ctEnc
    gi_wp2
    exact hK
  case body =>
    rintro lp pre x W ⟨⟨⟨⟨k1, k2⟩, k3⟩, hB⟩, hS⟩ hlt
    have c1 := k1.cell
    have c2 := k2.cell
    have c3 := k3.cell
    have f1 := k1.frozen
    have f2 := k2.frozen
    have f3 := k3.frozen
    have hmx : Try.prog.follows .mixedOrders = true := by kernel_rfl
    have hE := endL_snoc pre x
    generalize endL pre = E at *
    obtain ⟨lo, hi, is⟩ := E
    dsimp only at *
    cases is
    · gi_wp2
      have j1 : Boxed ((W.setCell ⟨w.heap.size + 1, 0, none⟩ (.int .i64 x.1.2)).setCell ⟨w.heap.size + 1 + 1, 0, none⟩ (.int .i64 x.1.2)) (w.heap.size + 1) 2 (.int .i64 x.1.2) := (k1.set _).other (by omega) _
      have j2 : Boxed ((W.setCell ⟨w.heap.size + 1, 0, none⟩ (.int .i64 x.1.2)).setCell ⟨w.heap.size + 1 + 1, 0, none⟩ (.int .i64 x.1.2)) (w.heap.size + 1 + 1) 2 (.int .i64 x.1.2) := (k2.other (by omega) _).set _
      have j3 : Boxed ((W.setCell ⟨w.heap.size + 1, 0, none⟩ (.int .i64 x.1.2)).setCell ⟨w.heap.size + 1 + 1, 0, none⟩ (.int .i64 x.1.2)) (w.heap.size + 1 + 1 + 1) 4 (.bool false) := (k3.other (by omega) _).other (by omega) _
      have kO : KeepsOthers W ((W.setCell ⟨w.heap.size + 1, 0, none⟩ (.int .i64 x.1.2)).setCell ⟨w.heap.size + 1 + 1, 0, none⟩ (.int .i64 x.1.2)) := (KeepsOthers.setCell W _ _).trans (KeepsOthers.setCell _ _ _)
      have kB : Below w.heap.size W ((W.setCell ⟨w.heap.size + 1, 0, none⟩ (.int .i64 x.1.2)).setCell ⟨w.heap.size + 1 + 1, 0, none⟩ (.int .i64 x.1.2)) := ((Below.refl _ W).setCell (p := ⟨w.heap.size + 1, 0, none⟩) (by first | (simp; done) | (simp; omega) | omega) _).setCell (p := ⟨w.heap.size + 1 + 1, 0, none⟩) (by first | (simp; done) | (simp; omega) | omega) _
      have kS : ((W.setCell ⟨w.heap.size + 1, 0, none⟩ (.int .i64 x.1.2)).setCell ⟨w.heap.size + 1 + 1, 0, none⟩ (.int .i64 x.1.2)).heap[u.heap.size + 1]? = W.heap[u.heap.size + 1]? := (Below.heap_setCell _ _ _ _ (by first | (simp; done) | (simp; omega) | omega)).trans (Below.heap_setCell _ _ _ _ (by first | (simp; done) | (simp; omega) | omega))
      rw [show endF (lo, hi, false) x.1.2 = ((if x.1.2 < x.1.2 then x.1.2 else x.1.2), (if x.1.2 < x.1.2 then x.1.2 else x.1.2), true) from rfl] at hE
      clear c1 c2 c3 f1 f2 f3
      generalize (W.setCell ⟨w.heap.size + 1, 0, none⟩ (.int .i64 x.1.2)).setCell ⟨w.heap.size + 1 + 1, 0, none⟩ (.int .i64 x.1.2) = W2 at *
      obtain ⟨is, his⟩ : ∃ is, is = false := ⟨_, rfl⟩
      rw [← his] at j3
      clear his
      obtain ⟨lo2, hlo⟩ : ∃ z, z = x.1.2 := ⟨_, rfl⟩
      obtain ⟨hi2, hhi⟩ : ∃ z, z = x.1.2 := ⟨_, rfl⟩
      have hE : endL (pre ++ [x]) = ((if x.1.2 < lo2 then x.1.2 else lo2), (if hi2 < x.1.2 then x.1.2 else hi2), true) := by rw [hlo, hhi]; exact hE
      have j1 : Boxed W2 (w.heap.size + 1) 2 (.int .i64 lo2) := by rw [hlo]; exact j1
      have j2 : Boxed W2 (w.heap.size + 1 + 1) 2 (.int .i64 hi2) := by rw [hhi]; exact j2
      clear hlo hhi
      obtain ⟨M2, hM⟩ : ∃ M, (if hi2 < x.1.2 then x.1.2 else hi2) = M := ⟨_, rfl⟩
      obtain ⟨N2, hN⟩ : ∃ M, (if x.1.2 < lo2 then x.1.2 else lo2) = M := ⟨_, rfl⟩
      have hE : endL (pre ++ [x]) = (N2, M2, true) := by rw [← hM, ← hN]; exact hE
      have m1 : Boxed W2.drew (w.heap.size + 1) 2 (.int .i64 lo2) := j1
      have m2 : Boxed W2.drew (w.heap.size + 1 + 1) 2 (.int .i64 hi2) := j2
      have m3 : Boxed W2.drew (w.heap.size + 1 + 1 + 1) 4 (.bool is) := j3
      have n1 := m1.set (.int .i64 N2)
      have n2 := m2.other (B' := w.heap.size + 1) (by omega) (.int .i64 N2)
      have n3 := m3.other (B' := w.heap.size + 1) (by omega) (.int .i64 N2)
      have o1 := n1.other (B' := w.heap.size + 1 + 1) (by omega) (.int .i64 M2)
      have o2 := n2.set (.int .i64 M2)
      have o3 := n3.other (B' := w.heap.size + 1 + 1) (by omega) (.int .i64 M2)
      have q1 := o1.other (B' := w.heap.size + 1 + 1 + 1) (by omega) (.bool true)
      have q2 := o2.other (B' := w.heap.size + 1 + 1 + 1) (by omega) (.bool true)
      have q3 := o3.set (.bool true)
      have KO := kO.trans ((KeepsOthers.drew W2).trans ((KeepsOthers.setCell W2.drew ⟨w.heap.size + 1, 0, none⟩ (.int .i64 N2)).trans ((KeepsOthers.setCell _ ⟨w.heap.size + 1 + 1, 0, none⟩ (.int .i64 M2)).trans (KeepsOthers.setCell _ ⟨w.heap.size + 1 + 1 + 1, 0, none⟩ (.bool true)))))
      have BB := (((kB.drew.setCell (p := ⟨w.heap.size + 1, 0, none⟩) (by first | (simp; done) | (simp; omega) | omega) (.int .i64 N2)).setCell (p := ⟨w.heap.size + 1 + 1, 0, none⟩) (by first | (simp; done) | (simp; omega) | omega) (.int .i64 M2)).setCell (p := ⟨w.heap.size + 1 + 1 + 1, 0, none⟩) (by first | (simp; done) | (simp; omega) | omega) (.bool true))
      have HS : (((W2.drew.setCell ⟨w.heap.size + 1, 0, none⟩ (.int .i64 N2)).setCell ⟨w.heap.size + 1 + 1, 0, none⟩ (.int .i64 M2)).setCell ⟨w.heap.size + 1 + 1 + 1, 0, none⟩ (.bool true)).heap[u.heap.size + 1]? = W.heap[u.heap.size + 1]? := (Below.heap_setCell _ _ _ _ (by first | (simp; done) | (simp; omega) | omega)).trans ((Below.heap_setCell _ _ _ _ (by first | (simp; done) | (simp; omega) | omega)).trans ((Below.heap_setCell _ _ _ _ (by first | (simp; done) | (simp; omega) | omega)).trans kS))
      have e1 := j1.cell
      have e2 := j2.cell
      have e3 := j3.cell
      have c3 := m3.cell
      have c1 := m1.cell
      have c2 := m2.cell
      have f1 := m1.frozen
      have f2 := m2.frozen
      have f3 := m3.frozen
      have gc2 : (W2.setCell ⟨w.heap.size + 1, 0, none⟩ (.int .i64 N2)).drew.cell? ⟨w.heap.size + 1 + 1, 0, none⟩ = some (.int .i64 hi2) := n2.cell
      have gf2 : (W2.setCell ⟨w.heap.size + 1, 0, none⟩ (.int .i64 N2)).drew.frozen? ⟨w.heap.size + 1 + 1, 0, none⟩ = false := n2.frozen
      have gf3 : ((W2.setCell ⟨w.heap.size + 1, 0, none⟩ (.int .i64 N2)).setCell ⟨w.heap.size + 1 + 1, 0, none⟩ (.int .i64 M2)).drew.frozen? ⟨w.heap.size + 1 + 1 + 1, 0, none⟩ = false := o3.frozen
      have fin := And.intro (KO.from W0.heap.size) (And.intro (And.intro BB HS) (And.intro (And.intro (And.intro (And.intro q1 q2) q3) (hB.trans BB)) (HS.trans hS)))
      refine wpIn_region_any (by assumption) ?_
      try (change wpAnyIn _ _ _ _ _ _ _ _ _ (World.drew _))
      refine by_name fun G hG => ?_
      have S_012345678 : ∀ L : Array Bool, L = #[true, true, true, true, true, true, true, true, true] → G 0 L { tmps := #[.slice p l.length cap, spn a b, undef, .pointer (some ⟨w.heap.size, 0, none⟩), .pointer (some ⟨w.heap.size + 1, 0, none⟩), .pointer (some ⟨w.heap.size + 1 + 1, 0, none⟩), .pointer (some ⟨w.heap.size + 1 + 1 + 1, 0, none⟩), undef, .int .i64 x.1.2, .slice p l.length cap, .bool true, .bool false, .slice p l.length cap, .agg #[.int .i64 a, .int .i64 b], .func (.func 43) #[] #[.pointer (some ⟨u.heap.size, 0, none⟩), .pointer (some ⟨u.heap.size + 1, 0, none⟩)], .float .f64 (Go.floatOfInt .f64 x.1.1), .int .i64 x.1.2, .bool false, .bool true, .int .i64 x.1.2, .int .i64 x.1.2, .int .i64 lo2, .int .i64 x.1.2, .int .i64 N2, .int .i64 hi2, .int .i64 x.1.2, .int .i64 M2, undef, undef, undef], defers := [] } ((((W2.drew).setCell ⟨w.heap.size + 1, 0, none⟩ (.int .i64 N2)).setCell ⟨w.heap.size + 1 + 1, 0, none⟩ (.int .i64 M2)).setCell ⟨w.heap.size + 1 + 1 + 1, 0, none⟩ (.bool true)) := by
        intro L hL
        subst hL
        rw [hG]
        refine wpAnyIn_done (by kernel_rfl) ?_ _
        gi_wp2
        dsimp only [ownPostG]
        rw [hE]
        first | exact fin | exact ⟨KO.from _, fin.2⟩
      have S_01234567 : ∀ L : Array Bool, L = #[true, true, true, true, true, true, true, true, false] → G 1 L { tmps := #[.slice p l.length cap, spn a b, undef, .pointer (some ⟨w.heap.size, 0, none⟩), .pointer (some ⟨w.heap.size + 1, 0, none⟩), .pointer (some ⟨w.heap.size + 1 + 1, 0, none⟩), .pointer (some ⟨w.heap.size + 1 + 1 + 1, 0, none⟩), undef, .int .i64 x.1.2, .slice p l.length cap, .bool true, .bool false, .slice p l.length cap, .agg #[.int .i64 a, .int .i64 b], .func (.func 43) #[] #[.pointer (some ⟨u.heap.size, 0, none⟩), .pointer (some ⟨u.heap.size + 1, 0, none⟩)], .float .f64 (Go.floatOfInt .f64 x.1.1), .int .i64 x.1.2, .bool false, .bool true, .int .i64 x.1.2, .int .i64 x.1.2, .int .i64 lo2, .int .i64 x.1.2, .int .i64 N2, .int .i64 hi2, .int .i64 x.1.2, .int .i64 M2, undef, undef, undef], defers := [] } (((W2.drew).setCell ⟨w.heap.size + 1, 0, none⟩ (.int .i64 N2)).setCell ⟨w.heap.size + 1 + 1, 0, none⟩ (.int .i64 M2)) := by
        intro L hL
        subst hL
        rw [hG]
        refine wpAnyIn_ready (rs := [8]) (by kernel_rfl) (by simp) ?_
        refine AllReadyIn.cons rfl (fun K hK => ?_) ?_
        · skip
          go_simp
          refine hK _ _ ?_
          rw [← hG]
          exact S_012345678 _ (by rfl)
        exact AllReadyIn.nil
      have S_0123456 : ∀ L : Array Bool, L = #[true, true, true, true, true, true, true, false, false] → G 2 L { tmps := #[.slice p l.length cap, spn a b, undef, .pointer (some ⟨w.heap.size, 0, none⟩), .pointer (some ⟨w.heap.size + 1, 0, none⟩), .pointer (some ⟨w.heap.size + 1 + 1, 0, none⟩), .pointer (some ⟨w.heap.size + 1 + 1 + 1, 0, none⟩), undef, .int .i64 x.1.2, .slice p l.length cap, .bool true, .bool false, .slice p l.length cap, .agg #[.int .i64 a, .int .i64 b], .func (.func 43) #[] #[.pointer (some ⟨u.heap.size, 0, none⟩), .pointer (some ⟨u.heap.size + 1, 0, none⟩)], .float .f64 (Go.floatOfInt .f64 x.1.1), .int .i64 x.1.2, .bool false, .bool true, .int .i64 x.1.2, .int .i64 x.1.2, .int .i64 lo2, .int .i64 x.1.2, .int .i64 N2, .int .i64 hi2, .int .i64 x.1.2, .int .i64 M2, undef, undef, undef], defers := [] } ((W2.drew).setCell ⟨w.heap.size + 1, 0, none⟩ (.int .i64 N2)) := by
        intro L hL
        subst hL
        rw [hG]
        refine wpAnyIn_ready (rs := [7]) (by kernel_rfl) (by simp) ?_
        refine AllReadyIn.cons rfl (fun K hK => ?_) ?_
        · skip
          go_simp
          refine hK _ _ ?_
          rw [← hG]
          exact S_01234567 _ (by rfl)
        exact AllReadyIn.nil
      have S_012345 : ∀ L : Array Bool, L = #[true, true, true, true, true, true, false, false, false] → G 3 L { tmps := #[.slice p l.length cap, spn a b, undef, .pointer (some ⟨w.heap.size, 0, none⟩), .pointer (some ⟨w.heap.size + 1, 0, none⟩), .pointer (some ⟨w.heap.size + 1 + 1, 0, none⟩), .pointer (some ⟨w.heap.size + 1 + 1 + 1, 0, none⟩), undef, .int .i64 x.1.2, .slice p l.length cap, .bool true, .bool false, .slice p l.length cap, .agg #[.int .i64 a, .int .i64 b], .func (.func 43) #[] #[.pointer (some ⟨u.heap.size, 0, none⟩), .pointer (some ⟨u.heap.size + 1, 0, none⟩)], .float .f64 (Go.floatOfInt .f64 x.1.1), .int .i64 x.1.2, .bool false, .bool true, .int .i64 x.1.2, .int .i64 x.1.2, .int .i64 lo2, .int .i64 x.1.2, .int .i64 N2, .int .i64 hi2, .int .i64 x.1.2, .int .i64 M2, undef, undef, undef], defers := [] } (W2.drew) := by
        intro L hL
        subst hL
        rw [hG]
        refine wpAnyIn_ready (rs := [6]) (by kernel_rfl) (by simp) ?_
        refine AllReadyIn.cons rfl (fun K hK => ?_) ?_
        · skip
          go_simp
          refine hK _ _ ?_
          rw [← hG]
          exact S_0123456 _ (by rfl)
        exact AllReadyIn.nil
      have S_012346 : ∀ L : Array Bool, L = #[true, true, true, true, true, false, true, false, false] → G 3 L { tmps := #[.slice p l.length cap, spn a b, undef, .pointer (some ⟨w.heap.size, 0, none⟩), .pointer (some ⟨w.heap.size + 1, 0, none⟩), .pointer (some ⟨w.heap.size + 1 + 1, 0, none⟩), .pointer (some ⟨w.heap.size + 1 + 1 + 1, 0, none⟩), undef, .int .i64 x.1.2, .slice p l.length cap, .bool true, .bool false, .slice p l.length cap, .agg #[.int .i64 a, .int .i64 b], .func (.func 43) #[] #[.pointer (some ⟨u.heap.size, 0, none⟩), .pointer (some ⟨u.heap.size + 1, 0, none⟩)], .float .f64 (Go.floatOfInt .f64 x.1.1), .int .i64 x.1.2, .bool false, .bool true, .int .i64 x.1.2, .int .i64 x.1.2, .int .i64 lo2, .int .i64 x.1.2, .int .i64 N2, .int .i64 hi2, .int .i64 x.1.2, undef, undef, undef, undef], defers := [] } ((W2.drew).setCell ⟨w.heap.size + 1, 0, none⟩ (.int .i64 N2)) := by
        intro L hL
        subst hL
        rw [hG]
        refine wpAnyIn_ready (rs := [5]) (by kernel_rfl) (by simp) ?_
        refine AllReadyIn.cons rfl (fun K hK => ?_) ?_
        · skip
          go_simp
          refine hK _ _ ?_
          rw [← hG]
          exact S_0123456 _ (by rfl)
        exact AllReadyIn.nil
      have S_01234 : ∀ L : Array Bool, L = #[true, true, true, true, true, false, false, false, false] → G 4 L { tmps := #[.slice p l.length cap, spn a b, undef, .pointer (some ⟨w.heap.size, 0, none⟩), .pointer (some ⟨w.heap.size + 1, 0, none⟩), .pointer (some ⟨w.heap.size + 1 + 1, 0, none⟩), .pointer (some ⟨w.heap.size + 1 + 1 + 1, 0, none⟩), undef, .int .i64 x.1.2, .slice p l.length cap, .bool true, .bool false, .slice p l.length cap, .agg #[.int .i64 a, .int .i64 b], .func (.func 43) #[] #[.pointer (some ⟨u.heap.size, 0, none⟩), .pointer (some ⟨u.heap.size + 1, 0, none⟩)], .float .f64 (Go.floatOfInt .f64 x.1.1), .int .i64 x.1.2, .bool false, .bool true, .int .i64 x.1.2, .int .i64 x.1.2, .int .i64 lo2, .int .i64 x.1.2, .int .i64 N2, .int .i64 hi2, .int .i64 x.1.2, undef, undef, undef, undef], defers := [] } (W2.drew) := by
        intro L hL
        subst hL
        rw [hG]
        refine wpAnyIn_ready (rs := [5, 6]) (by kernel_rfl) (by simp) ?_
        refine AllReadyIn.cons rfl (fun K hK => ?_) ?_
        · skip
          go_simp
          refine hK _ _ ?_
          rw [← hG]
          exact S_012345 _ (by rfl)
        refine AllReadyIn.cons rfl (fun K hK => ?_) ?_
        · skip
          go_simp
          refine hK _ _ ?_
          rw [← hG]
          exact S_012346 _ (by rfl)
        exact AllReadyIn.nil
      have S_01236 : ∀ L : Array Bool, L = #[true, true, true, true, false, false, true, false, false] → G 4 L { tmps := #[.slice p l.length cap, spn a b, undef, .pointer (some ⟨w.heap.size, 0, none⟩), .pointer (some ⟨w.heap.size + 1, 0, none⟩), .pointer (some ⟨w.heap.size + 1 + 1, 0, none⟩), .pointer (some ⟨w.heap.size + 1 + 1 + 1, 0, none⟩), undef, .int .i64 x.1.2, .slice p l.length cap, .bool true, .bool false, .slice p l.length cap, .agg #[.int .i64 a, .int .i64 b], .func (.func 43) #[] #[.pointer (some ⟨u.heap.size, 0, none⟩), .pointer (some ⟨u.heap.size + 1, 0, none⟩)], .float .f64 (Go.floatOfInt .f64 x.1.1), .int .i64 x.1.2, .bool false, .bool true, .int .i64 x.1.2, .int .i64 x.1.2, .int .i64 lo2, .int .i64 x.1.2, .int .i64 N2, .int .i64 hi2, undef, undef, undef, undef, undef], defers := [] } ((W2.drew).setCell ⟨w.heap.size + 1, 0, none⟩ (.int .i64 N2)) := by
        intro L hL
        subst hL
        rw [hG]
        refine wpAnyIn_ready (rs := [4]) (by kernel_rfl) (by simp) ?_
        refine AllReadyIn.cons rfl (fun K hK => ?_) ?_
        · skip
          go_simp
          refine hK _ _ ?_
          rw [← hG]
          exact S_012346 _ (by rfl)
        exact AllReadyIn.nil
      have S_01246 : ∀ L : Array Bool, L = #[true, true, true, false, true, false, true, false, false] → G 4 L { tmps := #[.slice p l.length cap, spn a b, undef, .pointer (some ⟨w.heap.size, 0, none⟩), .pointer (some ⟨w.heap.size + 1, 0, none⟩), .pointer (some ⟨w.heap.size + 1 + 1, 0, none⟩), .pointer (some ⟨w.heap.size + 1 + 1 + 1, 0, none⟩), undef, .int .i64 x.1.2, .slice p l.length cap, .bool true, .bool false, .slice p l.length cap, .agg #[.int .i64 a, .int .i64 b], .func (.func 43) #[] #[.pointer (some ⟨u.heap.size, 0, none⟩), .pointer (some ⟨u.heap.size + 1, 0, none⟩)], .float .f64 (Go.floatOfInt .f64 x.1.1), .int .i64 x.1.2, .bool false, .bool true, .int .i64 x.1.2, .int .i64 x.1.2, .int .i64 lo2, .int .i64 x.1.2, .int .i64 N2, undef, .int .i64 x.1.2, undef, undef, undef, undef], defers := [] } ((W2.drew).setCell ⟨w.heap.size + 1, 0, none⟩ (.int .i64 N2)) := by
        intro L hL
        subst hL
        rw [hG]
        refine wpAnyIn_ready (rs := [3]) (by kernel_rfl) (by simp) ?_
        refine AllReadyIn.cons rfl (fun K hK => ?_) ?_
        · skip
          go_simp
          refine hK _ _ ?_
          rw [← hG]
          exact S_012346 _ (by rfl)
        exact AllReadyIn.nil
      have S_01345 : ∀ L : Array Bool, L = #[true, true, false, true, true, true, false, false, false] → G 4 L { tmps := #[.slice p l.length cap, spn a b, undef, .pointer (some ⟨w.heap.size, 0, none⟩), .pointer (some ⟨w.heap.size + 1, 0, none⟩), .pointer (some ⟨w.heap.size + 1 + 1, 0, none⟩), .pointer (some ⟨w.heap.size + 1 + 1 + 1, 0, none⟩), undef, .int .i64 x.1.2, .slice p l.length cap, .bool true, .bool false, .slice p l.length cap, .agg #[.int .i64 a, .int .i64 b], .func (.func 43) #[] #[.pointer (some ⟨u.heap.size, 0, none⟩), .pointer (some ⟨u.heap.size + 1, 0, none⟩)], .float .f64 (Go.floatOfInt .f64 x.1.1), .int .i64 x.1.2, .bool false, .bool true, .int .i64 x.1.2, .int .i64 x.1.2, .int .i64 lo2, .int .i64 x.1.2, undef, .int .i64 hi2, .int .i64 x.1.2, .int .i64 M2, undef, undef, undef], defers := [] } (W2.drew) := by
        intro L hL
        subst hL
        rw [hG]
        refine wpAnyIn_ready (rs := [2]) (by kernel_rfl) (by simp) ?_
        refine AllReadyIn.cons rfl (fun K hK => ?_) ?_
        · skip
          go_simp
          refine hK _ _ ?_
          rw [← hG]
          exact S_012345 _ (by rfl)
        exact AllReadyIn.nil
      have S_0123 : ∀ L : Array Bool, L = #[true, true, true, true, false, false, false, false, false] → G 5 L { tmps := #[.slice p l.length cap, spn a b, undef, .pointer (some ⟨w.heap.size, 0, none⟩), .pointer (some ⟨w.heap.size + 1, 0, none⟩), .pointer (some ⟨w.heap.size + 1 + 1, 0, none⟩), .pointer (some ⟨w.heap.size + 1 + 1 + 1, 0, none⟩), undef, .int .i64 x.1.2, .slice p l.length cap, .bool true, .bool false, .slice p l.length cap, .agg #[.int .i64 a, .int .i64 b], .func (.func 43) #[] #[.pointer (some ⟨u.heap.size, 0, none⟩), .pointer (some ⟨u.heap.size + 1, 0, none⟩)], .float .f64 (Go.floatOfInt .f64 x.1.1), .int .i64 x.1.2, .bool false, .bool true, .int .i64 x.1.2, .int .i64 x.1.2, .int .i64 lo2, .int .i64 x.1.2, .int .i64 N2, .int .i64 hi2, undef, undef, undef, undef, undef], defers := [] } (W2.drew) := by
        intro L hL
        subst hL
        rw [hG]
        refine wpAnyIn_ready (rs := [4, 6]) (by kernel_rfl) (by simp) ?_
        refine AllReadyIn.cons rfl (fun K hK => ?_) ?_
        · skip
          go_simp
          refine hK _ _ ?_
          rw [← hG]
          exact S_01234 _ (by rfl)
        refine AllReadyIn.cons rfl (fun K hK => ?_) ?_
        · skip
          go_simp
          refine hK _ _ ?_
          rw [← hG]
          exact S_01236 _ (by rfl)
        exact AllReadyIn.nil
      have S_0124 : ∀ L : Array Bool, L = #[true, true, true, false, true, false, false, false, false] → G 5 L { tmps := #[.slice p l.length cap, spn a b, undef, .pointer (some ⟨w.heap.size, 0, none⟩), .pointer (some ⟨w.heap.size + 1, 0, none⟩), .pointer (some ⟨w.heap.size + 1 + 1, 0, none⟩), .pointer (some ⟨w.heap.size + 1 + 1 + 1, 0, none⟩), undef, .int .i64 x.1.2, .slice p l.length cap, .bool true, .bool false, .slice p l.length cap, .agg #[.int .i64 a, .int .i64 b], .func (.func 43) #[] #[.pointer (some ⟨u.heap.size, 0, none⟩), .pointer (some ⟨u.heap.size + 1, 0, none⟩)], .float .f64 (Go.floatOfInt .f64 x.1.1), .int .i64 x.1.2, .bool false, .bool true, .int .i64 x.1.2, .int .i64 x.1.2, .int .i64 lo2, .int .i64 x.1.2, .int .i64 N2, undef, .int .i64 x.1.2, undef, undef, undef, undef], defers := [] } (W2.drew) := by
        intro L hL
        subst hL
        rw [hG]
        refine wpAnyIn_ready (rs := [3, 6]) (by kernel_rfl) (by simp) ?_
        refine AllReadyIn.cons rfl (fun K hK => ?_) ?_
        · skip
          go_simp
          refine hK _ _ ?_
          rw [← hG]
          exact S_01234 _ (by rfl)
        refine AllReadyIn.cons rfl (fun K hK => ?_) ?_
        · skip
          go_simp
          refine hK _ _ ?_
          rw [← hG]
          exact S_01246 _ (by rfl)
        exact AllReadyIn.nil
      have S_0126 : ∀ L : Array Bool, L = #[true, true, true, false, false, false, true, false, false] → G 5 L { tmps := #[.slice p l.length cap, spn a b, undef, .pointer (some ⟨w.heap.size, 0, none⟩), .pointer (some ⟨w.heap.size + 1, 0, none⟩), .pointer (some ⟨w.heap.size + 1 + 1, 0, none⟩), .pointer (some ⟨w.heap.size + 1 + 1 + 1, 0, none⟩), undef, .int .i64 x.1.2, .slice p l.length cap, .bool true, .bool false, .slice p l.length cap, .agg #[.int .i64 a, .int .i64 b], .func (.func 43) #[] #[.pointer (some ⟨u.heap.size, 0, none⟩), .pointer (some ⟨u.heap.size + 1, 0, none⟩)], .float .f64 (Go.floatOfInt .f64 x.1.1), .int .i64 x.1.2, .bool false, .bool true, .int .i64 x.1.2, .int .i64 x.1.2, .int .i64 lo2, .int .i64 x.1.2, .int .i64 N2, undef, undef, undef, undef, undef, undef], defers := [] } ((W2.drew).setCell ⟨w.heap.size + 1, 0, none⟩ (.int .i64 N2)) := by
        intro L hL
        subst hL
        rw [hG]
        refine wpAnyIn_ready (rs := [3, 4]) (by kernel_rfl) (by simp) ?_
        refine AllReadyIn.cons rfl (fun K hK => ?_) ?_
        · skip
          go_simp
          refine hK _ _ ?_
          rw [← hG]
          exact S_01236 _ (by rfl)
        refine AllReadyIn.cons rfl (fun K hK => ?_) ?_
        · skip
          go_simp
          refine hK _ _ ?_
          rw [← hG]
          exact S_01246 _ (by rfl)
        exact AllReadyIn.nil
      have S_0134 : ∀ L : Array Bool, L = #[true, true, false, true, true, false, false, false, false] → G 5 L { tmps := #[.slice p l.length cap, spn a b, undef, .pointer (some ⟨w.heap.size, 0, none⟩), .pointer (some ⟨w.heap.size + 1, 0, none⟩), .pointer (some ⟨w.heap.size + 1 + 1, 0, none⟩), .pointer (some ⟨w.heap.size + 1 + 1 + 1, 0, none⟩), undef, .int .i64 x.1.2, .slice p l.length cap, .bool true, .bool false, .slice p l.length cap, .agg #[.int .i64 a, .int .i64 b], .func (.func 43) #[] #[.pointer (some ⟨u.heap.size, 0, none⟩), .pointer (some ⟨u.heap.size + 1, 0, none⟩)], .float .f64 (Go.floatOfInt .f64 x.1.1), .int .i64 x.1.2, .bool false, .bool true, .int .i64 x.1.2, .int .i64 x.1.2, .int .i64 lo2, .int .i64 x.1.2, undef, .int .i64 hi2, .int .i64 x.1.2, undef, undef, undef, undef], defers := [] } (W2.drew) := by
        intro L hL
        subst hL
        rw [hG]
        refine wpAnyIn_ready (rs := [2, 5]) (by kernel_rfl) (by simp) ?_
        refine AllReadyIn.cons rfl (fun K hK => ?_) ?_
        · skip
          go_simp
          refine hK _ _ ?_
          rw [← hG]
          exact S_01234 _ (by rfl)
        refine AllReadyIn.cons rfl (fun K hK => ?_) ?_
        · skip
          go_simp
          refine hK _ _ ?_
          rw [← hG]
          exact S_01345 _ (by rfl)
        exact AllReadyIn.nil
      have S_0345 : ∀ L : Array Bool, L = #[true, false, false, true, true, true, false, false, false] → G 5 L { tmps := #[.slice p l.length cap, spn a b, undef, .pointer (some ⟨w.heap.size, 0, none⟩), .pointer (some ⟨w.heap.size + 1, 0, none⟩), .pointer (some ⟨w.heap.size + 1 + 1, 0, none⟩), .pointer (some ⟨w.heap.size + 1 + 1 + 1, 0, none⟩), undef, .int .i64 x.1.2, .slice p l.length cap, .bool true, .bool false, .slice p l.length cap, .agg #[.int .i64 a, .int .i64 b], .func (.func 43) #[] #[.pointer (some ⟨u.heap.size, 0, none⟩), .pointer (some ⟨u.heap.size + 1, 0, none⟩)], .float .f64 (Go.floatOfInt .f64 x.1.1), .int .i64 x.1.2, .bool false, .bool true, .int .i64 x.1.2, .int .i64 x.1.2, .int .i64 lo2, undef, undef, .int .i64 hi2, .int .i64 x.1.2, .int .i64 M2, undef, undef, undef], defers := [] } (W2.drew) := by
        intro L hL
        subst hL
        rw [hG]
        refine wpAnyIn_ready (rs := [1]) (by kernel_rfl) (by simp) ?_
        refine AllReadyIn.cons rfl (fun K hK => ?_) ?_
        · skip
          go_simp
          refine hK _ _ ?_
          rw [← hG]
          exact S_01345 _ (by rfl)
        exact AllReadyIn.nil
      have S_1345 : ∀ L : Array Bool, L = #[false, true, false, true, true, true, false, false, false] → G 5 L { tmps := #[.slice p l.length cap, spn a b, undef, .pointer (some ⟨w.heap.size, 0, none⟩), .pointer (some ⟨w.heap.size + 1, 0, none⟩), .pointer (some ⟨w.heap.size + 1 + 1, 0, none⟩), .pointer (some ⟨w.heap.size + 1 + 1 + 1, 0, none⟩), undef, .int .i64 x.1.2, .slice p l.length cap, .bool true, .bool false, .slice p l.length cap, .agg #[.int .i64 a, .int .i64 b], .func (.func 43) #[] #[.pointer (some ⟨u.heap.size, 0, none⟩), .pointer (some ⟨u.heap.size + 1, 0, none⟩)], .float .f64 (Go.floatOfInt .f64 x.1.1), .int .i64 x.1.2, .bool false, .bool true, .int .i64 x.1.2, .int .i64 x.1.2, undef, .int .i64 x.1.2, undef, .int .i64 hi2, .int .i64 x.1.2, .int .i64 M2, undef, undef, undef], defers := [] } (W2.drew) := by
        intro L hL
        subst hL
        rw [hG]
        refine wpAnyIn_ready (rs := [0]) (by kernel_rfl) (by simp) ?_
        refine AllReadyIn.cons rfl (fun K hK => ?_) ?_
        · skip
          go_simp
          refine hK _ _ ?_
          rw [← hG]
          exact S_01345 _ (by rfl)
        exact AllReadyIn.nil
      have S_012 : ∀ L : Array Bool, L = #[true, true, true, false, false, false, false, false, false] → G 6 L { tmps := #[.slice p l.length cap, spn a b, undef, .pointer (some ⟨w.heap.size, 0, none⟩), .pointer (some ⟨w.heap.size + 1, 0, none⟩), .pointer (some ⟨w.heap.size + 1 + 1, 0, none⟩), .pointer (some ⟨w.heap.size + 1 + 1 + 1, 0, none⟩), undef, .int .i64 x.1.2, .slice p l.length cap, .bool true, .bool false, .slice p l.length cap, .agg #[.int .i64 a, .int .i64 b], .func (.func 43) #[] #[.pointer (some ⟨u.heap.size, 0, none⟩), .pointer (some ⟨u.heap.size + 1, 0, none⟩)], .float .f64 (Go.floatOfInt .f64 x.1.1), .int .i64 x.1.2, .bool false, .bool true, .int .i64 x.1.2, .int .i64 x.1.2, .int .i64 lo2, .int .i64 x.1.2, .int .i64 N2, undef, undef, undef, undef, undef, undef], defers := [] } (W2.drew) := by
        intro L hL
        subst hL
        rw [hG]
        refine wpAnyIn_ready (rs := [3, 4, 6]) (by kernel_rfl) (by simp) ?_
        refine AllReadyIn.cons rfl (fun K hK => ?_) ?_
        · skip
          go_simp
          refine hK _ _ ?_
          rw [← hG]
          exact S_0123 _ (by rfl)
        refine AllReadyIn.cons rfl (fun K hK => ?_) ?_
        · skip
          go_simp
          refine hK _ _ ?_
          rw [← hG]
          exact S_0124 _ (by rfl)
        refine AllReadyIn.cons rfl (fun K hK => ?_) ?_
        · skip
          go_simp
          refine hK _ _ ?_
          rw [← hG]
          exact S_0126 _ (by rfl)
        exact AllReadyIn.nil
      have S_013 : ∀ L : Array Bool, L = #[true, true, false, true, false, false, false, false, false] → G 6 L { tmps := #[.slice p l.length cap, spn a b, undef, .pointer (some ⟨w.heap.size, 0, none⟩), .pointer (some ⟨w.heap.size + 1, 0, none⟩), .pointer (some ⟨w.heap.size + 1 + 1, 0, none⟩), .pointer (some ⟨w.heap.size + 1 + 1 + 1, 0, none⟩), undef, .int .i64 x.1.2, .slice p l.length cap, .bool true, .bool false, .slice p l.length cap, .agg #[.int .i64 a, .int .i64 b], .func (.func 43) #[] #[.pointer (some ⟨u.heap.size, 0, none⟩), .pointer (some ⟨u.heap.size + 1, 0, none⟩)], .float .f64 (Go.floatOfInt .f64 x.1.1), .int .i64 x.1.2, .bool false, .bool true, .int .i64 x.1.2, .int .i64 x.1.2, .int .i64 lo2, .int .i64 x.1.2, undef, .int .i64 hi2, undef, undef, undef, undef, undef], defers := [] } (W2.drew) := by
        intro L hL
        subst hL
        rw [hG]
        refine wpAnyIn_ready (rs := [2, 4]) (by kernel_rfl) (by simp) ?_
        refine AllReadyIn.cons rfl (fun K hK => ?_) ?_
        · skip
          go_simp
          refine hK _ _ ?_
          rw [← hG]
          exact S_0123 _ (by rfl)
        refine AllReadyIn.cons rfl (fun K hK => ?_) ?_
        · skip
          go_simp
          refine hK _ _ ?_
          rw [← hG]
          exact S_0134 _ (by rfl)
        exact AllReadyIn.nil
      have S_014 : ∀ L : Array Bool, L = #[true, true, false, false, true, false, false, false, false] → G 6 L { tmps := #[.slice p l.length cap, spn a b, undef, .pointer (some ⟨w.heap.size, 0, none⟩), .pointer (some ⟨w.heap.size + 1, 0, none⟩), .pointer (some ⟨w.heap.size + 1 + 1, 0, none⟩), .pointer (some ⟨w.heap.size + 1 + 1 + 1, 0, none⟩), undef, .int .i64 x.1.2, .slice p l.length cap, .bool true, .bool false, .slice p l.length cap, .agg #[.int .i64 a, .int .i64 b], .func (.func 43) #[] #[.pointer (some ⟨u.heap.size, 0, none⟩), .pointer (some ⟨u.heap.size + 1, 0, none⟩)], .float .f64 (Go.floatOfInt .f64 x.1.1), .int .i64 x.1.2, .bool false, .bool true, .int .i64 x.1.2, .int .i64 x.1.2, .int .i64 lo2, .int .i64 x.1.2, undef, undef, .int .i64 x.1.2, undef, undef, undef, undef], defers := [] } (W2.drew) := by
        intro L hL
        subst hL
        rw [hG]
        refine wpAnyIn_ready (rs := [2, 3]) (by kernel_rfl) (by simp) ?_
        refine AllReadyIn.cons rfl (fun K hK => ?_) ?_
        · skip
          go_simp
          refine hK _ _ ?_
          rw [← hG]
          exact S_0124 _ (by rfl)
        refine AllReadyIn.cons rfl (fun K hK => ?_) ?_
        · skip
          go_simp
          refine hK _ _ ?_
          rw [← hG]
          exact S_0134 _ (by rfl)
        exact AllReadyIn.nil
      have S_034 : ∀ L : Array Bool, L = #[true, false, false, true, true, false, false, false, false] → G 6 L { tmps := #[.slice p l.length cap, spn a b, undef, .pointer (some ⟨w.heap.size, 0, none⟩), .pointer (some ⟨w.heap.size + 1, 0, none⟩), .pointer (some ⟨w.heap.size + 1 + 1, 0, none⟩), .pointer (some ⟨w.heap.size + 1 + 1 + 1, 0, none⟩), undef, .int .i64 x.1.2, .slice p l.length cap, .bool true, .bool false, .slice p l.length cap, .agg #[.int .i64 a, .int .i64 b], .func (.func 43) #[] #[.pointer (some ⟨u.heap.size, 0, none⟩), .pointer (some ⟨u.heap.size + 1, 0, none⟩)], .float .f64 (Go.floatOfInt .f64 x.1.1), .int .i64 x.1.2, .bool false, .bool true, .int .i64 x.1.2, .int .i64 x.1.2, .int .i64 lo2, undef, undef, .int .i64 hi2, .int .i64 x.1.2, undef, undef, undef, undef], defers := [] } (W2.drew) := by
        intro L hL
        subst hL
        rw [hG]
        refine wpAnyIn_ready (rs := [1, 5]) (by kernel_rfl) (by simp) ?_
        refine AllReadyIn.cons rfl (fun K hK => ?_) ?_
        · skip
          go_simp
          refine hK _ _ ?_
          rw [← hG]
          exact S_0134 _ (by rfl)
        refine AllReadyIn.cons rfl (fun K hK => ?_) ?_
        · skip
          go_simp
          refine hK _ _ ?_
          rw [← hG]
          exact S_0345 _ (by rfl)
        exact AllReadyIn.nil
      have S_134 : ∀ L : Array Bool, L = #[false, true, false, true, true, false, false, false, false] → G 6 L { tmps := #[.slice p l.length cap, spn a b, undef, .pointer (some ⟨w.heap.size, 0, none⟩), .pointer (some ⟨w.heap.size + 1, 0, none⟩), .pointer (some ⟨w.heap.size + 1 + 1, 0, none⟩), .pointer (some ⟨w.heap.size + 1 + 1 + 1, 0, none⟩), undef, .int .i64 x.1.2, .slice p l.length cap, .bool true, .bool false, .slice p l.length cap, .agg #[.int .i64 a, .int .i64 b], .func (.func 43) #[] #[.pointer (some ⟨u.heap.size, 0, none⟩), .pointer (some ⟨u.heap.size + 1, 0, none⟩)], .float .f64 (Go.floatOfInt .f64 x.1.1), .int .i64 x.1.2, .bool false, .bool true, .int .i64 x.1.2, .int .i64 x.1.2, undef, .int .i64 x.1.2, undef, .int .i64 hi2, .int .i64 x.1.2, undef, undef, undef, undef], defers := [] } (W2.drew) := by
        intro L hL
        subst hL
        rw [hG]
        refine wpAnyIn_ready (rs := [0, 5]) (by kernel_rfl) (by simp) ?_
        refine AllReadyIn.cons rfl (fun K hK => ?_) ?_
        · skip
          go_simp
          refine hK _ _ ?_
          rw [← hG]
          exact S_0134 _ (by rfl)
        refine AllReadyIn.cons rfl (fun K hK => ?_) ?_
        · skip
          go_simp
          refine hK _ _ ?_
          rw [← hG]
          exact S_1345 _ (by rfl)
        exact AllReadyIn.nil
      have S_345 : ∀ L : Array Bool, L = #[false, false, false, true, true, true, false, false, false] → G 6 L { tmps := #[.slice p l.length cap, spn a b, undef, .pointer (some ⟨w.heap.size, 0, none⟩), .pointer (some ⟨w.heap.size + 1, 0, none⟩), .pointer (some ⟨w.heap.size + 1 + 1, 0, none⟩), .pointer (some ⟨w.heap.size + 1 + 1 + 1, 0, none⟩), undef, .int .i64 x.1.2, .slice p l.length cap, .bool true, .bool false, .slice p l.length cap, .agg #[.int .i64 a, .int .i64 b], .func (.func 43) #[] #[.pointer (some ⟨u.heap.size, 0, none⟩), .pointer (some ⟨u.heap.size + 1, 0, none⟩)], .float .f64 (Go.floatOfInt .f64 x.1.1), .int .i64 x.1.2, .bool false, .bool true, .int .i64 x.1.2, .int .i64 x.1.2, undef, undef, undef, .int .i64 hi2, .int .i64 x.1.2, .int .i64 M2, undef, undef, undef], defers := [] } (W2.drew) := by
        intro L hL
        subst hL
        rw [hG]
        refine wpAnyIn_ready (rs := [0, 1]) (by kernel_rfl) (by simp) ?_
        refine AllReadyIn.cons rfl (fun K hK => ?_) ?_
        · skip
          go_simp
          refine hK _ _ ?_
          rw [← hG]
          exact S_0345 _ (by rfl)
        refine AllReadyIn.cons rfl (fun K hK => ?_) ?_
        · skip
          go_simp
          refine hK _ _ ?_
          rw [← hG]
          exact S_1345 _ (by rfl)
        exact AllReadyIn.nil
      have S_01 : ∀ L : Array Bool, L = #[true, true, false, false, false, false, false, false, false] → G 7 L { tmps := #[.slice p l.length cap, spn a b, undef, .pointer (some ⟨w.heap.size, 0, none⟩), .pointer (some ⟨w.heap.size + 1, 0, none⟩), .pointer (some ⟨w.heap.size + 1 + 1, 0, none⟩), .pointer (some ⟨w.heap.size + 1 + 1 + 1, 0, none⟩), undef, .int .i64 x.1.2, .slice p l.length cap, .bool true, .bool false, .slice p l.length cap, .agg #[.int .i64 a, .int .i64 b], .func (.func 43) #[] #[.pointer (some ⟨u.heap.size, 0, none⟩), .pointer (some ⟨u.heap.size + 1, 0, none⟩)], .float .f64 (Go.floatOfInt .f64 x.1.1), .int .i64 x.1.2, .bool false, .bool true, .int .i64 x.1.2, .int .i64 x.1.2, .int .i64 lo2, .int .i64 x.1.2, undef, undef, undef, undef, undef, undef, undef], defers := [] } (W2.drew) := by
        intro L hL
        subst hL
        rw [hG]
        refine wpAnyIn_ready (rs := [2, 3, 4]) (by kernel_rfl) (by simp) ?_
        refine AllReadyIn.cons rfl (fun K hK => ?_) ?_
        · skip
          go_simp
          refine hK _ _ ?_
          rw [← hG]
          exact S_012 _ (by rfl)
        refine AllReadyIn.cons rfl (fun K hK => ?_) ?_
        · skip
          go_simp
          refine hK _ _ ?_
          rw [← hG]
          exact S_013 _ (by rfl)
        refine AllReadyIn.cons rfl (fun K hK => ?_) ?_
        · skip
          go_simp
          refine hK _ _ ?_
          rw [← hG]
          exact S_014 _ (by rfl)
        exact AllReadyIn.nil
      have S_03 : ∀ L : Array Bool, L = #[true, false, false, true, false, false, false, false, false] → G 7 L { tmps := #[.slice p l.length cap, spn a b, undef, .pointer (some ⟨w.heap.size, 0, none⟩), .pointer (some ⟨w.heap.size + 1, 0, none⟩), .pointer (some ⟨w.heap.size + 1 + 1, 0, none⟩), .pointer (some ⟨w.heap.size + 1 + 1 + 1, 0, none⟩), undef, .int .i64 x.1.2, .slice p l.length cap, .bool true, .bool false, .slice p l.length cap, .agg #[.int .i64 a, .int .i64 b], .func (.func 43) #[] #[.pointer (some ⟨u.heap.size, 0, none⟩), .pointer (some ⟨u.heap.size + 1, 0, none⟩)], .float .f64 (Go.floatOfInt .f64 x.1.1), .int .i64 x.1.2, .bool false, .bool true, .int .i64 x.1.2, .int .i64 x.1.2, .int .i64 lo2, undef, undef, .int .i64 hi2, undef, undef, undef, undef, undef], defers := [] } (W2.drew) := by
        intro L hL
        subst hL
        rw [hG]
        refine wpAnyIn_ready (rs := [1, 4]) (by kernel_rfl) (by simp) ?_
        refine AllReadyIn.cons rfl (fun K hK => ?_) ?_
        · skip
          go_simp
          refine hK _ _ ?_
          rw [← hG]
          exact S_013 _ (by rfl)
        refine AllReadyIn.cons rfl (fun K hK => ?_) ?_
        · skip
          go_simp
          refine hK _ _ ?_
          rw [← hG]
          exact S_034 _ (by rfl)
        exact AllReadyIn.nil
      have S_04 : ∀ L : Array Bool, L = #[true, false, false, false, true, false, false, false, false] → G 7 L { tmps := #[.slice p l.length cap, spn a b, undef, .pointer (some ⟨w.heap.size, 0, none⟩), .pointer (some ⟨w.heap.size + 1, 0, none⟩), .pointer (some ⟨w.heap.size + 1 + 1, 0, none⟩), .pointer (some ⟨w.heap.size + 1 + 1 + 1, 0, none⟩), undef, .int .i64 x.1.2, .slice p l.length cap, .bool true, .bool false, .slice p l.length cap, .agg #[.int .i64 a, .int .i64 b], .func (.func 43) #[] #[.pointer (some ⟨u.heap.size, 0, none⟩), .pointer (some ⟨u.heap.size + 1, 0, none⟩)], .float .f64 (Go.floatOfInt .f64 x.1.1), .int .i64 x.1.2, .bool false, .bool true, .int .i64 x.1.2, .int .i64 x.1.2, .int .i64 lo2, undef, undef, undef, .int .i64 x.1.2, undef, undef, undef, undef], defers := [] } (W2.drew) := by
        intro L hL
        subst hL
        rw [hG]
        refine wpAnyIn_ready (rs := [1, 3]) (by kernel_rfl) (by simp) ?_
        refine AllReadyIn.cons rfl (fun K hK => ?_) ?_
        · skip
          go_simp
          refine hK _ _ ?_
          rw [← hG]
          exact S_014 _ (by rfl)
        refine AllReadyIn.cons rfl (fun K hK => ?_) ?_
        · skip
          go_simp
          refine hK _ _ ?_
          rw [← hG]
          exact S_034 _ (by rfl)
        exact AllReadyIn.nil
      have S_13 : ∀ L : Array Bool, L = #[false, true, false, true, false, false, false, false, false] → G 7 L { tmps := #[.slice p l.length cap, spn a b, undef, .pointer (some ⟨w.heap.size, 0, none⟩), .pointer (some ⟨w.heap.size + 1, 0, none⟩), .pointer (some ⟨w.heap.size + 1 + 1, 0, none⟩), .pointer (some ⟨w.heap.size + 1 + 1 + 1, 0, none⟩), undef, .int .i64 x.1.2, .slice p l.length cap, .bool true, .bool false, .slice p l.length cap, .agg #[.int .i64 a, .int .i64 b], .func (.func 43) #[] #[.pointer (some ⟨u.heap.size, 0, none⟩), .pointer (some ⟨u.heap.size + 1, 0, none⟩)], .float .f64 (Go.floatOfInt .f64 x.1.1), .int .i64 x.1.2, .bool false, .bool true, .int .i64 x.1.2, .int .i64 x.1.2, undef, .int .i64 x.1.2, undef, .int .i64 hi2, undef, undef, undef, undef, undef], defers := [] } (W2.drew) := by
        intro L hL
        subst hL
        rw [hG]
        refine wpAnyIn_ready (rs := [0, 4]) (by kernel_rfl) (by simp) ?_
        refine AllReadyIn.cons rfl (fun K hK => ?_) ?_
        · skip
          go_simp
          refine hK _ _ ?_
          rw [← hG]
          exact S_013 _ (by rfl)
        refine AllReadyIn.cons rfl (fun K hK => ?_) ?_
        · skip
          go_simp
          refine hK _ _ ?_
          rw [← hG]
          exact S_134 _ (by rfl)
        exact AllReadyIn.nil
      have S_14 : ∀ L : Array Bool, L = #[false, true, false, false, true, false, false, false, false] → G 7 L { tmps := #[.slice p l.length cap, spn a b, undef, .pointer (some ⟨w.heap.size, 0, none⟩), .pointer (some ⟨w.heap.size + 1, 0, none⟩), .pointer (some ⟨w.heap.size + 1 + 1, 0, none⟩), .pointer (some ⟨w.heap.size + 1 + 1 + 1, 0, none⟩), undef, .int .i64 x.1.2, .slice p l.length cap, .bool true, .bool false, .slice p l.length cap, .agg #[.int .i64 a, .int .i64 b], .func (.func 43) #[] #[.pointer (some ⟨u.heap.size, 0, none⟩), .pointer (some ⟨u.heap.size + 1, 0, none⟩)], .float .f64 (Go.floatOfInt .f64 x.1.1), .int .i64 x.1.2, .bool false, .bool true, .int .i64 x.1.2, .int .i64 x.1.2, undef, .int .i64 x.1.2, undef, undef, .int .i64 x.1.2, undef, undef, undef, undef], defers := [] } (W2.drew) := by
        intro L hL
        subst hL
        rw [hG]
        refine wpAnyIn_ready (rs := [0, 3]) (by kernel_rfl) (by simp) ?_
        refine AllReadyIn.cons rfl (fun K hK => ?_) ?_
        · skip
          go_simp
          refine hK _ _ ?_
          rw [← hG]
          exact S_014 _ (by rfl)
        refine AllReadyIn.cons rfl (fun K hK => ?_) ?_
        · skip
          go_simp
          refine hK _ _ ?_
          rw [← hG]
          exact S_134 _ (by rfl)
        exact AllReadyIn.nil
      have S_34 : ∀ L : Array Bool, L = #[false, false, false, true, true, false, false, false, false] → G 7 L { tmps := #[.slice p l.length cap, spn a b, undef, .pointer (some ⟨w.heap.size, 0, none⟩), .pointer (some ⟨w.heap.size + 1, 0, none⟩), .pointer (some ⟨w.heap.size + 1 + 1, 0, none⟩), .pointer (some ⟨w.heap.size + 1 + 1 + 1, 0, none⟩), undef, .int .i64 x.1.2, .slice p l.length cap, .bool true, .bool false, .slice p l.length cap, .agg #[.int .i64 a, .int .i64 b], .func (.func 43) #[] #[.pointer (some ⟨u.heap.size, 0, none⟩), .pointer (some ⟨u.heap.size + 1, 0, none⟩)], .float .f64 (Go.floatOfInt .f64 x.1.1), .int .i64 x.1.2, .bool false, .bool true, .int .i64 x.1.2, .int .i64 x.1.2, undef, undef, undef, .int .i64 hi2, .int .i64 x.1.2, undef, undef, undef, undef], defers := [] } (W2.drew) := by
        intro L hL
        subst hL
        rw [hG]
        refine wpAnyIn_ready (rs := [0, 1, 5]) (by kernel_rfl) (by simp) ?_
        refine AllReadyIn.cons rfl (fun K hK => ?_) ?_
        · skip
          go_simp
          refine hK _ _ ?_
          rw [← hG]
          exact S_034 _ (by rfl)
        refine AllReadyIn.cons rfl (fun K hK => ?_) ?_
        · skip
          go_simp
          refine hK _ _ ?_
          rw [← hG]
          exact S_134 _ (by rfl)
        refine AllReadyIn.cons rfl (fun K hK => ?_) ?_
        · skip
          go_simp
          refine hK _ _ ?_
          rw [← hG]
          exact S_345 _ (by rfl)
        exact AllReadyIn.nil
      have S_0 : ∀ L : Array Bool, L = #[true, false, false, false, false, false, false, false, false] → G 8 L { tmps := #[.slice p l.length cap, spn a b, undef, .pointer (some ⟨w.heap.size, 0, none⟩), .pointer (some ⟨w.heap.size + 1, 0, none⟩), .pointer (some ⟨w.heap.size + 1 + 1, 0, none⟩), .pointer (some ⟨w.heap.size + 1 + 1 + 1, 0, none⟩), undef, .int .i64 x.1.2, .slice p l.length cap, .bool true, .bool false, .slice p l.length cap, .agg #[.int .i64 a, .int .i64 b], .func (.func 43) #[] #[.pointer (some ⟨u.heap.size, 0, none⟩), .pointer (some ⟨u.heap.size + 1, 0, none⟩)], .float .f64 (Go.floatOfInt .f64 x.1.1), .int .i64 x.1.2, .bool false, .bool true, .int .i64 x.1.2, .int .i64 x.1.2, .int .i64 lo2, undef, undef, undef, undef, undef, undef, undef, undef], defers := [] } (W2.drew) := by
        intro L hL
        subst hL
        rw [hG]
        refine wpAnyIn_ready (rs := [1, 3, 4]) (by kernel_rfl) (by simp) ?_
        refine AllReadyIn.cons rfl (fun K hK => ?_) ?_
        · skip
          go_simp
          refine hK _ _ ?_
          rw [← hG]
          exact S_01 _ (by rfl)
        refine AllReadyIn.cons rfl (fun K hK => ?_) ?_
        · skip
          go_simp
          refine hK _ _ ?_
          rw [← hG]
          exact S_03 _ (by rfl)
        refine AllReadyIn.cons rfl (fun K hK => ?_) ?_
        · skip
          go_simp
          refine hK _ _ ?_
          rw [← hG]
          exact S_04 _ (by rfl)
        exact AllReadyIn.nil
      have S_1 : ∀ L : Array Bool, L = #[false, true, false, false, false, false, false, false, false] → G 8 L { tmps := #[.slice p l.length cap, spn a b, undef, .pointer (some ⟨w.heap.size, 0, none⟩), .pointer (some ⟨w.heap.size + 1, 0, none⟩), .pointer (some ⟨w.heap.size + 1 + 1, 0, none⟩), .pointer (some ⟨w.heap.size + 1 + 1 + 1, 0, none⟩), undef, .int .i64 x.1.2, .slice p l.length cap, .bool true, .bool false, .slice p l.length cap, .agg #[.int .i64 a, .int .i64 b], .func (.func 43) #[] #[.pointer (some ⟨u.heap.size, 0, none⟩), .pointer (some ⟨u.heap.size + 1, 0, none⟩)], .float .f64 (Go.floatOfInt .f64 x.1.1), .int .i64 x.1.2, .bool false, .bool true, .int .i64 x.1.2, .int .i64 x.1.2, undef, .int .i64 x.1.2, undef, undef, undef, undef, undef, undef, undef], defers := [] } (W2.drew) := by
        intro L hL
        subst hL
        rw [hG]
        refine wpAnyIn_ready (rs := [0, 3, 4]) (by kernel_rfl) (by simp) ?_
        refine AllReadyIn.cons rfl (fun K hK => ?_) ?_
        · skip
          go_simp
          refine hK _ _ ?_
          rw [← hG]
          exact S_01 _ (by rfl)
        refine AllReadyIn.cons rfl (fun K hK => ?_) ?_
        · skip
          go_simp
          refine hK _ _ ?_
          rw [← hG]
          exact S_13 _ (by rfl)
        refine AllReadyIn.cons rfl (fun K hK => ?_) ?_
        · skip
          go_simp
          refine hK _ _ ?_
          rw [← hG]
          exact S_14 _ (by rfl)
        exact AllReadyIn.nil
      have S_3 : ∀ L : Array Bool, L = #[false, false, false, true, false, false, false, false, false] → G 8 L { tmps := #[.slice p l.length cap, spn a b, undef, .pointer (some ⟨w.heap.size, 0, none⟩), .pointer (some ⟨w.heap.size + 1, 0, none⟩), .pointer (some ⟨w.heap.size + 1 + 1, 0, none⟩), .pointer (some ⟨w.heap.size + 1 + 1 + 1, 0, none⟩), undef, .int .i64 x.1.2, .slice p l.length cap, .bool true, .bool false, .slice p l.length cap, .agg #[.int .i64 a, .int .i64 b], .func (.func 43) #[] #[.pointer (some ⟨u.heap.size, 0, none⟩), .pointer (some ⟨u.heap.size + 1, 0, none⟩)], .float .f64 (Go.floatOfInt .f64 x.1.1), .int .i64 x.1.2, .bool false, .bool true, .int .i64 x.1.2, .int .i64 x.1.2, undef, undef, undef, .int .i64 hi2, undef, undef, undef, undef, undef], defers := [] } (W2.drew) := by
        intro L hL
        subst hL
        rw [hG]
        refine wpAnyIn_ready (rs := [0, 1, 4]) (by kernel_rfl) (by simp) ?_
        refine AllReadyIn.cons rfl (fun K hK => ?_) ?_
        · skip
          go_simp
          refine hK _ _ ?_
          rw [← hG]
          exact S_03 _ (by rfl)
        refine AllReadyIn.cons rfl (fun K hK => ?_) ?_
        · skip
          go_simp
          refine hK _ _ ?_
          rw [← hG]
          exact S_13 _ (by rfl)
        refine AllReadyIn.cons rfl (fun K hK => ?_) ?_
        · skip
          go_simp
          refine hK _ _ ?_
          rw [← hG]
          exact S_34 _ (by rfl)
        exact AllReadyIn.nil
      have S_4 : ∀ L : Array Bool, L = #[false, false, false, false, true, false, false, false, false] → G 8 L { tmps := #[.slice p l.length cap, spn a b, undef, .pointer (some ⟨w.heap.size, 0, none⟩), .pointer (some ⟨w.heap.size + 1, 0, none⟩), .pointer (some ⟨w.heap.size + 1 + 1, 0, none⟩), .pointer (some ⟨w.heap.size + 1 + 1 + 1, 0, none⟩), undef, .int .i64 x.1.2, .slice p l.length cap, .bool true, .bool false, .slice p l.length cap, .agg #[.int .i64 a, .int .i64 b], .func (.func 43) #[] #[.pointer (some ⟨u.heap.size, 0, none⟩), .pointer (some ⟨u.heap.size + 1, 0, none⟩)], .float .f64 (Go.floatOfInt .f64 x.1.1), .int .i64 x.1.2, .bool false, .bool true, .int .i64 x.1.2, .int .i64 x.1.2, undef, undef, undef, undef, .int .i64 x.1.2, undef, undef, undef, undef], defers := [] } (W2.drew) := by
        intro L hL
        subst hL
        rw [hG]
        refine wpAnyIn_ready (rs := [0, 1, 3]) (by kernel_rfl) (by simp) ?_
        refine AllReadyIn.cons rfl (fun K hK => ?_) ?_
        · skip
          go_simp
          refine hK _ _ ?_
          rw [← hG]
          exact S_04 _ (by rfl)
        refine AllReadyIn.cons rfl (fun K hK => ?_) ?_
        · skip
          go_simp
          refine hK _ _ ?_
          rw [← hG]
          exact S_14 _ (by rfl)
        refine AllReadyIn.cons rfl (fun K hK => ?_) ?_
        · skip
          go_simp
          refine hK _ _ ?_
          rw [← hG]
          exact S_34 _ (by rfl)
        exact AllReadyIn.nil
      have S_e : ∀ L : Array Bool, L = #[false, false, false, false, false, false, false, false, false] → G 9 L { tmps := #[.slice p l.length cap, spn a b, undef, .pointer (some ⟨w.heap.size, 0, none⟩), .pointer (some ⟨w.heap.size + 1, 0, none⟩), .pointer (some ⟨w.heap.size + 1 + 1, 0, none⟩), .pointer (some ⟨w.heap.size + 1 + 1 + 1, 0, none⟩), undef, .int .i64 x.1.2, .slice p l.length cap, .bool true, .bool false, .slice p l.length cap, .agg #[.int .i64 a, .int .i64 b], .func (.func 43) #[] #[.pointer (some ⟨u.heap.size, 0, none⟩), .pointer (some ⟨u.heap.size + 1, 0, none⟩)], .float .f64 (Go.floatOfInt .f64 x.1.1), .int .i64 x.1.2, .bool false, .bool true, .int .i64 x.1.2, .int .i64 x.1.2, undef, undef, undef, undef, undef, undef, undef, undef, undef], defers := [] } (W2.drew) := by
        intro L hL
        subst hL
        rw [hG]
        refine wpAnyIn_ready (rs := [0, 1, 3, 4]) (by kernel_rfl) (by simp) ?_
        refine AllReadyIn.cons rfl (fun K hK => ?_) ?_
        · skip
          go_simp
          refine hK _ _ ?_
          rw [← hG]
          exact S_0 _ (by rfl)
        refine AllReadyIn.cons rfl (fun K hK => ?_) ?_
        · skip
          go_simp
          refine hK _ _ ?_
          rw [← hG]
          exact S_1 _ (by rfl)
        refine AllReadyIn.cons rfl (fun K hK => ?_) ?_
        · skip
          go_simp
          refine hK _ _ ?_
          rw [← hG]
          exact S_3 _ (by rfl)
        refine AllReadyIn.cons rfl (fun K hK => ?_) ?_
        · skip
          go_simp
          refine hK _ _ ?_
          rw [← hG]
          exact S_4 _ (by rfl)
        exact AllReadyIn.nil
      exact S_e _ (by rfl)
    · gi_wp2
      have kO := KeepsOthers.refl W
      have kB := Below.refl w.heap.size W
      have kS : W.heap[u.heap.size + 1]? = W.heap[u.heap.size + 1]? := rfl
      rw [show endF (lo, hi, true) x.1.2 = ((if x.1.2 < lo then x.1.2 else lo), (if hi < x.1.2 then x.1.2 else hi), true) from rfl] at hE
      have j1 := k1
      have j2 := k2
      have j3 := k3
      clear c1 c2 c3 f1 f2 f3
      obtain ⟨M1, hM⟩ : ∃ M, (if hi < x.1.2 then x.1.2 else hi) = M := ⟨_, rfl⟩
      obtain ⟨N1, hN⟩ : ∃ M, (if x.1.2 < lo then x.1.2 else lo) = M := ⟨_, rfl⟩
      have hE : endL (pre ++ [x]) = (N1, M1, true) := by rw [← hM, ← hN]; exact hE
      have m1 : Boxed W.drew (w.heap.size + 1) 2 (.int .i64 lo) := j1
      have m2 : Boxed W.drew (w.heap.size + 1 + 1) 2 (.int .i64 hi) := j2
      have m3 : Boxed W.drew (w.heap.size + 1 + 1 + 1) 4 (.bool true) := j3
      have n1 := m1.set (.int .i64 N1)
      have n2 := m2.other (B' := w.heap.size + 1) (by omega) (.int .i64 N1)
      have n3 := m3.other (B' := w.heap.size + 1) (by omega) (.int .i64 N1)
      have o1 := n1.other (B' := w.heap.size + 1 + 1) (by omega) (.int .i64 M1)
      have o2 := n2.set (.int .i64 M1)
      have o3 := n3.other (B' := w.heap.size + 1 + 1) (by omega) (.int .i64 M1)
      have q1 := o1.other (B' := w.heap.size + 1 + 1 + 1) (by omega) (.bool true)
      have q2 := o2.other (B' := w.heap.size + 1 + 1 + 1) (by omega) (.bool true)
      have q3 := o3.set (.bool true)
      have KO := kO.trans ((KeepsOthers.drew W).trans ((KeepsOthers.setCell W.drew ⟨w.heap.size + 1, 0, none⟩ (.int .i64 N1)).trans ((KeepsOthers.setCell _ ⟨w.heap.size + 1 + 1, 0, none⟩ (.int .i64 M1)).trans (KeepsOthers.setCell _ ⟨w.heap.size + 1 + 1 + 1, 0, none⟩ (.bool true)))))
      have BB := (((kB.drew.setCell (p := ⟨w.heap.size + 1, 0, none⟩) (by first | (simp; done) | (simp; omega) | omega) (.int .i64 N1)).setCell (p := ⟨w.heap.size + 1 + 1, 0, none⟩) (by first | (simp; done) | (simp; omega) | omega) (.int .i64 M1)).setCell (p := ⟨w.heap.size + 1 + 1 + 1, 0, none⟩) (by first | (simp; done) | (simp; omega) | omega) (.bool true))
      have HS : (((W.drew.setCell ⟨w.heap.size + 1, 0, none⟩ (.int .i64 N1)).setCell ⟨w.heap.size + 1 + 1, 0, none⟩ (.int .i64 M1)).setCell ⟨w.heap.size + 1 + 1 + 1, 0, none⟩ (.bool true)).heap[u.heap.size + 1]? = W.heap[u.heap.size + 1]? := (Below.heap_setCell _ _ _ _ (by first | (simp; done) | (simp; omega) | omega)).trans ((Below.heap_setCell _ _ _ _ (by first | (simp; done) | (simp; omega) | omega)).trans ((Below.heap_setCell _ _ _ _ (by first | (simp; done) | (simp; omega) | omega)).trans kS))
      have e1 := j1.cell
      have e2 := j2.cell
      have e3 := j3.cell
      have c3 := m3.cell
      have c1 := m1.cell
      have c2 := m2.cell
      have f1 := m1.frozen
      have f2 := m2.frozen
      have f3 := m3.frozen
      have gc2 : (W.setCell ⟨w.heap.size + 1, 0, none⟩ (.int .i64 N1)).drew.cell? ⟨w.heap.size + 1 + 1, 0, none⟩ = some (.int .i64 hi) := n2.cell
      have gf2 : (W.setCell ⟨w.heap.size + 1, 0, none⟩ (.int .i64 N1)).drew.frozen? ⟨w.heap.size + 1 + 1, 0, none⟩ = false := n2.frozen
      have gf3 : ((W.setCell ⟨w.heap.size + 1, 0, none⟩ (.int .i64 N1)).setCell ⟨w.heap.size + 1 + 1, 0, none⟩ (.int .i64 M1)).drew.frozen? ⟨w.heap.size + 1 + 1 + 1, 0, none⟩ = false := o3.frozen
      have fin := And.intro (KO.from W0.heap.size) (And.intro (And.intro BB HS) (And.intro (And.intro (And.intro (And.intro q1 q2) q3) (hB.trans BB)) (HS.trans hS)))
      refine wpIn_region_any (by assumption) ?_
      try (change wpAnyIn _ _ _ _ _ _ _ _ _ (World.drew _))
      refine by_name fun G hG => ?_
      have S_012345678 : ∀ L : Array Bool, L = #[true, true, true, true, true, true, true, true, true] → G 0 L { tmps := #[.slice p l.length cap, spn a b, undef, .pointer (some ⟨w.heap.size, 0, none⟩), .pointer (some ⟨w.heap.size + 1, 0, none⟩), .pointer (some ⟨w.heap.size + 1 + 1, 0, none⟩), .pointer (some ⟨w.heap.size + 1 + 1 + 1, 0, none⟩), undef, .int .i64 x.1.2, .slice p l.length cap, .bool true, .bool false, .slice p l.length cap, .agg #[.int .i64 a, .int .i64 b], .func (.func 43) #[] #[.pointer (some ⟨u.heap.size, 0, none⟩), .pointer (some ⟨u.heap.size + 1, 0, none⟩)], .float .f64 (Go.floatOfInt .f64 x.1.1), .int .i64 x.1.2, .bool true, .bool false, undef, undef, .int .i64 lo, .int .i64 x.1.2, .int .i64 N1, .int .i64 hi, .int .i64 x.1.2, .int .i64 M1, undef, undef, undef], defers := [] } ((((W.drew).setCell ⟨w.heap.size + 1, 0, none⟩ (.int .i64 N1)).setCell ⟨w.heap.size + 1 + 1, 0, none⟩ (.int .i64 M1)).setCell ⟨w.heap.size + 1 + 1 + 1, 0, none⟩ (.bool true)) := by
        intro L hL
        subst hL
        rw [hG]
        refine wpAnyIn_done (by kernel_rfl) ?_ _
        gi_wp2
        dsimp only [ownPostG]
        rw [hE]
        first | exact fin | exact ⟨KO.from _, fin.2⟩
      have S_01234567 : ∀ L : Array Bool, L = #[true, true, true, true, true, true, true, true, false] → G 1 L { tmps := #[.slice p l.length cap, spn a b, undef, .pointer (some ⟨w.heap.size, 0, none⟩), .pointer (some ⟨w.heap.size + 1, 0, none⟩), .pointer (some ⟨w.heap.size + 1 + 1, 0, none⟩), .pointer (some ⟨w.heap.size + 1 + 1 + 1, 0, none⟩), undef, .int .i64 x.1.2, .slice p l.length cap, .bool true, .bool false, .slice p l.length cap, .agg #[.int .i64 a, .int .i64 b], .func (.func 43) #[] #[.pointer (some ⟨u.heap.size, 0, none⟩), .pointer (some ⟨u.heap.size + 1, 0, none⟩)], .float .f64 (Go.floatOfInt .f64 x.1.1), .int .i64 x.1.2, .bool true, .bool false, undef, undef, .int .i64 lo, .int .i64 x.1.2, .int .i64 N1, .int .i64 hi, .int .i64 x.1.2, .int .i64 M1, undef, undef, undef], defers := [] } (((W.drew).setCell ⟨w.heap.size + 1, 0, none⟩ (.int .i64 N1)).setCell ⟨w.heap.size + 1 + 1, 0, none⟩ (.int .i64 M1)) := by
        intro L hL
        subst hL
        rw [hG]
        refine wpAnyIn_ready (rs := [8]) (by kernel_rfl) (by simp) ?_
        refine AllReadyIn.cons rfl (fun K hK => ?_) ?_
        · skip
          go_simp
          refine hK _ _ ?_
          rw [← hG]
          exact S_012345678 _ (by rfl)
        exact AllReadyIn.nil
      have S_0123456 : ∀ L : Array Bool, L = #[true, true, true, true, true, true, true, false, false] → G 2 L { tmps := #[.slice p l.length cap, spn a b, undef, .pointer (some ⟨w.heap.size, 0, none⟩), .pointer (some ⟨w.heap.size + 1, 0, none⟩), .pointer (some ⟨w.heap.size + 1 + 1, 0, none⟩), .pointer (some ⟨w.heap.size + 1 + 1 + 1, 0, none⟩), undef, .int .i64 x.1.2, .slice p l.length cap, .bool true, .bool false, .slice p l.length cap, .agg #[.int .i64 a, .int .i64 b], .func (.func 43) #[] #[.pointer (some ⟨u.heap.size, 0, none⟩), .pointer (some ⟨u.heap.size + 1, 0, none⟩)], .float .f64 (Go.floatOfInt .f64 x.1.1), .int .i64 x.1.2, .bool true, .bool false, undef, undef, .int .i64 lo, .int .i64 x.1.2, .int .i64 N1, .int .i64 hi, .int .i64 x.1.2, .int .i64 M1, undef, undef, undef], defers := [] } ((W.drew).setCell ⟨w.heap.size + 1, 0, none⟩ (.int .i64 N1)) := by
        intro L hL
        subst hL
        rw [hG]
        refine wpAnyIn_ready (rs := [7]) (by kernel_rfl) (by simp) ?_
        refine AllReadyIn.cons rfl (fun K hK => ?_) ?_
        · skip
          go_simp
          refine hK _ _ ?_
          rw [← hG]
          exact S_01234567 _ (by rfl)
        exact AllReadyIn.nil
      have S_012345 : ∀ L : Array Bool, L = #[true, true, true, true, true, true, false, false, false] → G 3 L { tmps := #[.slice p l.length cap, spn a b, undef, .pointer (some ⟨w.heap.size, 0, none⟩), .pointer (some ⟨w.heap.size + 1, 0, none⟩), .pointer (some ⟨w.heap.size + 1 + 1, 0, none⟩), .pointer (some ⟨w.heap.size + 1 + 1 + 1, 0, none⟩), undef, .int .i64 x.1.2, .slice p l.length cap, .bool true, .bool false, .slice p l.length cap, .agg #[.int .i64 a, .int .i64 b], .func (.func 43) #[] #[.pointer (some ⟨u.heap.size, 0, none⟩), .pointer (some ⟨u.heap.size + 1, 0, none⟩)], .float .f64 (Go.floatOfInt .f64 x.1.1), .int .i64 x.1.2, .bool true, .bool false, undef, undef, .int .i64 lo, .int .i64 x.1.2, .int .i64 N1, .int .i64 hi, .int .i64 x.1.2, .int .i64 M1, undef, undef, undef], defers := [] } (W.drew) := by
        intro L hL
        subst hL
        rw [hG]
        refine wpAnyIn_ready (rs := [6]) (by kernel_rfl) (by simp) ?_
        refine AllReadyIn.cons rfl (fun K hK => ?_) ?_
        · skip
          go_simp
          refine hK _ _ ?_
          rw [← hG]
          exact S_0123456 _ (by rfl)
        exact AllReadyIn.nil
      have S_012346 : ∀ L : Array Bool, L = #[true, true, true, true, true, false, true, false, false] → G 3 L { tmps := #[.slice p l.length cap, spn a b, undef, .pointer (some ⟨w.heap.size, 0, none⟩), .pointer (some ⟨w.heap.size + 1, 0, none⟩), .pointer (some ⟨w.heap.size + 1 + 1, 0, none⟩), .pointer (some ⟨w.heap.size + 1 + 1 + 1, 0, none⟩), undef, .int .i64 x.1.2, .slice p l.length cap, .bool true, .bool false, .slice p l.length cap, .agg #[.int .i64 a, .int .i64 b], .func (.func 43) #[] #[.pointer (some ⟨u.heap.size, 0, none⟩), .pointer (some ⟨u.heap.size + 1, 0, none⟩)], .float .f64 (Go.floatOfInt .f64 x.1.1), .int .i64 x.1.2, .bool true, .bool false, undef, undef, .int .i64 lo, .int .i64 x.1.2, .int .i64 N1, .int .i64 hi, .int .i64 x.1.2, undef, undef, undef, undef], defers := [] } ((W.drew).setCell ⟨w.heap.size + 1, 0, none⟩ (.int .i64 N1)) := by
        intro L hL
        subst hL
        rw [hG]
        refine wpAnyIn_ready (rs := [5]) (by kernel_rfl) (by simp) ?_
        refine AllReadyIn.cons rfl (fun K hK => ?_) ?_
        · skip
          go_simp
          refine hK _ _ ?_
          rw [← hG]
          exact S_0123456 _ (by rfl)
        exact AllReadyIn.nil
      have S_01234 : ∀ L : Array Bool, L = #[true, true, true, true, true, false, false, false, false] → G 4 L { tmps := #[.slice p l.length cap, spn a b, undef, .pointer (some ⟨w.heap.size, 0, none⟩), .pointer (some ⟨w.heap.size + 1, 0, none⟩), .pointer (some ⟨w.heap.size + 1 + 1, 0, none⟩), .pointer (some ⟨w.heap.size + 1 + 1 + 1, 0, none⟩), undef, .int .i64 x.1.2, .slice p l.length cap, .bool true, .bool false, .slice p l.length cap, .agg #[.int .i64 a, .int .i64 b], .func (.func 43) #[] #[.pointer (some ⟨u.heap.size, 0, none⟩), .pointer (some ⟨u.heap.size + 1, 0, none⟩)], .float .f64 (Go.floatOfInt .f64 x.1.1), .int .i64 x.1.2, .bool true, .bool false, undef, undef, .int .i64 lo, .int .i64 x.1.2, .int .i64 N1, .int .i64 hi, .int .i64 x.1.2, undef, undef, undef, undef], defers := [] } (W.drew) := by
        intro L hL
        subst hL
        rw [hG]
        refine wpAnyIn_ready (rs := [5, 6]) (by kernel_rfl) (by simp) ?_
        refine AllReadyIn.cons rfl (fun K hK => ?_) ?_
        · skip
          go_simp
          refine hK _ _ ?_
          rw [← hG]
          exact S_012345 _ (by rfl)
        refine AllReadyIn.cons rfl (fun K hK => ?_) ?_
        · skip
          go_simp
          refine hK _ _ ?_
          rw [← hG]
          exact S_012346 _ (by rfl)
        exact AllReadyIn.nil
      have S_01236 : ∀ L : Array Bool, L = #[true, true, true, true, false, false, true, false, false] → G 4 L { tmps := #[.slice p l.length cap, spn a b, undef, .pointer (some ⟨w.heap.size, 0, none⟩), .pointer (some ⟨w.heap.size + 1, 0, none⟩), .pointer (some ⟨w.heap.size + 1 + 1, 0, none⟩), .pointer (some ⟨w.heap.size + 1 + 1 + 1, 0, none⟩), undef, .int .i64 x.1.2, .slice p l.length cap, .bool true, .bool false, .slice p l.length cap, .agg #[.int .i64 a, .int .i64 b], .func (.func 43) #[] #[.pointer (some ⟨u.heap.size, 0, none⟩), .pointer (some ⟨u.heap.size + 1, 0, none⟩)], .float .f64 (Go.floatOfInt .f64 x.1.1), .int .i64 x.1.2, .bool true, .bool false, undef, undef, .int .i64 lo, .int .i64 x.1.2, .int .i64 N1, .int .i64 hi, undef, undef, undef, undef, undef], defers := [] } ((W.drew).setCell ⟨w.heap.size + 1, 0, none⟩ (.int .i64 N1)) := by
        intro L hL
        subst hL
        rw [hG]
        refine wpAnyIn_ready (rs := [4]) (by kernel_rfl) (by simp) ?_
        refine AllReadyIn.cons rfl (fun K hK => ?_) ?_
        · skip
          go_simp
          refine hK _ _ ?_
          rw [← hG]
          exact S_012346 _ (by rfl)
        exact AllReadyIn.nil
      have S_01246 : ∀ L : Array Bool, L = #[true, true, true, false, true, false, true, false, false] → G 4 L { tmps := #[.slice p l.length cap, spn a b, undef, .pointer (some ⟨w.heap.size, 0, none⟩), .pointer (some ⟨w.heap.size + 1, 0, none⟩), .pointer (some ⟨w.heap.size + 1 + 1, 0, none⟩), .pointer (some ⟨w.heap.size + 1 + 1 + 1, 0, none⟩), undef, .int .i64 x.1.2, .slice p l.length cap, .bool true, .bool false, .slice p l.length cap, .agg #[.int .i64 a, .int .i64 b], .func (.func 43) #[] #[.pointer (some ⟨u.heap.size, 0, none⟩), .pointer (some ⟨u.heap.size + 1, 0, none⟩)], .float .f64 (Go.floatOfInt .f64 x.1.1), .int .i64 x.1.2, .bool true, .bool false, undef, undef, .int .i64 lo, .int .i64 x.1.2, .int .i64 N1, undef, .int .i64 x.1.2, undef, undef, undef, undef], defers := [] } ((W.drew).setCell ⟨w.heap.size + 1, 0, none⟩ (.int .i64 N1)) := by
        intro L hL
        subst hL
        rw [hG]
        refine wpAnyIn_ready (rs := [3]) (by kernel_rfl) (by simp) ?_
        refine AllReadyIn.cons rfl (fun K hK => ?_) ?_
        · skip
          go_simp
          refine hK _ _ ?_
          rw [← hG]
          exact S_012346 _ (by rfl)
        exact AllReadyIn.nil
      have S_01345 : ∀ L : Array Bool, L = #[true, true, false, true, true, true, false, false, false] → G 4 L { tmps := #[.slice p l.length cap, spn a b, undef, .pointer (some ⟨w.heap.size, 0, none⟩), .pointer (some ⟨w.heap.size + 1, 0, none⟩), .pointer (some ⟨w.heap.size + 1 + 1, 0, none⟩), .pointer (some ⟨w.heap.size + 1 + 1 + 1, 0, none⟩), undef, .int .i64 x.1.2, .slice p l.length cap, .bool true, .bool false, .slice p l.length cap, .agg #[.int .i64 a, .int .i64 b], .func (.func 43) #[] #[.pointer (some ⟨u.heap.size, 0, none⟩), .pointer (some ⟨u.heap.size + 1, 0, none⟩)], .float .f64 (Go.floatOfInt .f64 x.1.1), .int .i64 x.1.2, .bool true, .bool false, undef, undef, .int .i64 lo, .int .i64 x.1.2, undef, .int .i64 hi, .int .i64 x.1.2, .int .i64 M1, undef, undef, undef], defers := [] } (W.drew) := by
        intro L hL
        subst hL
        rw [hG]
        refine wpAnyIn_ready (rs := [2]) (by kernel_rfl) (by simp) ?_
        refine AllReadyIn.cons rfl (fun K hK => ?_) ?_
        · skip
          go_simp
          refine hK _ _ ?_
          rw [← hG]
          exact S_012345 _ (by rfl)
        exact AllReadyIn.nil
      have S_0123 : ∀ L : Array Bool, L = #[true, true, true, true, false, false, false, false, false] → G 5 L { tmps := #[.slice p l.length cap, spn a b, undef, .pointer (some ⟨w.heap.size, 0, none⟩), .pointer (some ⟨w.heap.size + 1, 0, none⟩), .pointer (some ⟨w.heap.size + 1 + 1, 0, none⟩), .pointer (some ⟨w.heap.size + 1 + 1 + 1, 0, none⟩), undef, .int .i64 x.1.2, .slice p l.length cap, .bool true, .bool false, .slice p l.length cap, .agg #[.int .i64 a, .int .i64 b], .func (.func 43) #[] #[.pointer (some ⟨u.heap.size, 0, none⟩), .pointer (some ⟨u.heap.size + 1, 0, none⟩)], .float .f64 (Go.floatOfInt .f64 x.1.1), .int .i64 x.1.2, .bool true, .bool false, undef, undef, .int .i64 lo, .int .i64 x.1.2, .int .i64 N1, .int .i64 hi, undef, undef, undef, undef, undef], defers := [] } (W.drew) := by
        intro L hL
        subst hL
        rw [hG]
        refine wpAnyIn_ready (rs := [4, 6]) (by kernel_rfl) (by simp) ?_
        refine AllReadyIn.cons rfl (fun K hK => ?_) ?_
        · skip
          go_simp
          refine hK _ _ ?_
          rw [← hG]
          exact S_01234 _ (by rfl)
        refine AllReadyIn.cons rfl (fun K hK => ?_) ?_
        · skip
          go_simp
          refine hK _ _ ?_
          rw [← hG]
          exact S_01236 _ (by rfl)
        exact AllReadyIn.nil
      have S_0124 : ∀ L : Array Bool, L = #[true, true, true, false, true, false, false, false, false] → G 5 L { tmps := #[.slice p l.length cap, spn a b, undef, .pointer (some ⟨w.heap.size, 0, none⟩), .pointer (some ⟨w.heap.size + 1, 0, none⟩), .pointer (some ⟨w.heap.size + 1 + 1, 0, none⟩), .pointer (some ⟨w.heap.size + 1 + 1 + 1, 0, none⟩), undef, .int .i64 x.1.2, .slice p l.length cap, .bool true, .bool false, .slice p l.length cap, .agg #[.int .i64 a, .int .i64 b], .func (.func 43) #[] #[.pointer (some ⟨u.heap.size, 0, none⟩), .pointer (some ⟨u.heap.size + 1, 0, none⟩)], .float .f64 (Go.floatOfInt .f64 x.1.1), .int .i64 x.1.2, .bool true, .bool false, undef, undef, .int .i64 lo, .int .i64 x.1.2, .int .i64 N1, undef, .int .i64 x.1.2, undef, undef, undef, undef], defers := [] } (W.drew) := by
        intro L hL
        subst hL
        rw [hG]
        refine wpAnyIn_ready (rs := [3, 6]) (by kernel_rfl) (by simp) ?_
        refine AllReadyIn.cons rfl (fun K hK => ?_) ?_
        · skip
          go_simp
          refine hK _ _ ?_
          rw [← hG]
          exact S_01234 _ (by rfl)
        refine AllReadyIn.cons rfl (fun K hK => ?_) ?_
        · skip
          go_simp
          refine hK _ _ ?_
          rw [← hG]
          exact S_01246 _ (by rfl)
        exact AllReadyIn.nil
      have S_0126 : ∀ L : Array Bool, L = #[true, true, true, false, false, false, true, false, false] → G 5 L { tmps := #[.slice p l.length cap, spn a b, undef, .pointer (some ⟨w.heap.size, 0, none⟩), .pointer (some ⟨w.heap.size + 1, 0, none⟩), .pointer (some ⟨w.heap.size + 1 + 1, 0, none⟩), .pointer (some ⟨w.heap.size + 1 + 1 + 1, 0, none⟩), undef, .int .i64 x.1.2, .slice p l.length cap, .bool true, .bool false, .slice p l.length cap, .agg #[.int .i64 a, .int .i64 b], .func (.func 43) #[] #[.pointer (some ⟨u.heap.size, 0, none⟩), .pointer (some ⟨u.heap.size + 1, 0, none⟩)], .float .f64 (Go.floatOfInt .f64 x.1.1), .int .i64 x.1.2, .bool true, .bool false, undef, undef, .int .i64 lo, .int .i64 x.1.2, .int .i64 N1, undef, undef, undef, undef, undef, undef], defers := [] } ((W.drew).setCell ⟨w.heap.size + 1, 0, none⟩ (.int .i64 N1)) := by
        intro L hL
        subst hL
        rw [hG]
        refine wpAnyIn_ready (rs := [3, 4]) (by kernel_rfl) (by simp) ?_
        refine AllReadyIn.cons rfl (fun K hK => ?_) ?_
        · skip
          go_simp
          refine hK _ _ ?_
          rw [← hG]
          exact S_01236 _ (by rfl)
        refine AllReadyIn.cons rfl (fun K hK => ?_) ?_
        · skip
          go_simp
          refine hK _ _ ?_
          rw [← hG]
          exact S_01246 _ (by rfl)
        exact AllReadyIn.nil
      have S_0134 : ∀ L : Array Bool, L = #[true, true, false, true, true, false, false, false, false] → G 5 L { tmps := #[.slice p l.length cap, spn a b, undef, .pointer (some ⟨w.heap.size, 0, none⟩), .pointer (some ⟨w.heap.size + 1, 0, none⟩), .pointer (some ⟨w.heap.size + 1 + 1, 0, none⟩), .pointer (some ⟨w.heap.size + 1 + 1 + 1, 0, none⟩), undef, .int .i64 x.1.2, .slice p l.length cap, .bool true, .bool false, .slice p l.length cap, .agg #[.int .i64 a, .int .i64 b], .func (.func 43) #[] #[.pointer (some ⟨u.heap.size, 0, none⟩), .pointer (some ⟨u.heap.size + 1, 0, none⟩)], .float .f64 (Go.floatOfInt .f64 x.1.1), .int .i64 x.1.2, .bool true, .bool false, undef, undef, .int .i64 lo, .int .i64 x.1.2, undef, .int .i64 hi, .int .i64 x.1.2, undef, undef, undef, undef], defers := [] } (W.drew) := by
        intro L hL
        subst hL
        rw [hG]
        refine wpAnyIn_ready (rs := [2, 5]) (by kernel_rfl) (by simp) ?_
        refine AllReadyIn.cons rfl (fun K hK => ?_) ?_
        · skip
          go_simp
          refine hK _ _ ?_
          rw [← hG]
          exact S_01234 _ (by rfl)
        refine AllReadyIn.cons rfl (fun K hK => ?_) ?_
        · skip
          go_simp
          refine hK _ _ ?_
          rw [← hG]
          exact S_01345 _ (by rfl)
        exact AllReadyIn.nil
      have S_0345 : ∀ L : Array Bool, L = #[true, false, false, true, true, true, false, false, false] → G 5 L { tmps := #[.slice p l.length cap, spn a b, undef, .pointer (some ⟨w.heap.size, 0, none⟩), .pointer (some ⟨w.heap.size + 1, 0, none⟩), .pointer (some ⟨w.heap.size + 1 + 1, 0, none⟩), .pointer (some ⟨w.heap.size + 1 + 1 + 1, 0, none⟩), undef, .int .i64 x.1.2, .slice p l.length cap, .bool true, .bool false, .slice p l.length cap, .agg #[.int .i64 a, .int .i64 b], .func (.func 43) #[] #[.pointer (some ⟨u.heap.size, 0, none⟩), .pointer (some ⟨u.heap.size + 1, 0, none⟩)], .float .f64 (Go.floatOfInt .f64 x.1.1), .int .i64 x.1.2, .bool true, .bool false, undef, undef, .int .i64 lo, undef, undef, .int .i64 hi, .int .i64 x.1.2, .int .i64 M1, undef, undef, undef], defers := [] } (W.drew) := by
        intro L hL
        subst hL
        rw [hG]
        refine wpAnyIn_ready (rs := [1]) (by kernel_rfl) (by simp) ?_
        refine AllReadyIn.cons rfl (fun K hK => ?_) ?_
        · skip
          go_simp
          refine hK _ _ ?_
          rw [← hG]
          exact S_01345 _ (by rfl)
        exact AllReadyIn.nil
      have S_1345 : ∀ L : Array Bool, L = #[false, true, false, true, true, true, false, false, false] → G 5 L { tmps := #[.slice p l.length cap, spn a b, undef, .pointer (some ⟨w.heap.size, 0, none⟩), .pointer (some ⟨w.heap.size + 1, 0, none⟩), .pointer (some ⟨w.heap.size + 1 + 1, 0, none⟩), .pointer (some ⟨w.heap.size + 1 + 1 + 1, 0, none⟩), undef, .int .i64 x.1.2, .slice p l.length cap, .bool true, .bool false, .slice p l.length cap, .agg #[.int .i64 a, .int .i64 b], .func (.func 43) #[] #[.pointer (some ⟨u.heap.size, 0, none⟩), .pointer (some ⟨u.heap.size + 1, 0, none⟩)], .float .f64 (Go.floatOfInt .f64 x.1.1), .int .i64 x.1.2, .bool true, .bool false, undef, undef, undef, .int .i64 x.1.2, undef, .int .i64 hi, .int .i64 x.1.2, .int .i64 M1, undef, undef, undef], defers := [] } (W.drew) := by
        intro L hL
        subst hL
        rw [hG]
        refine wpAnyIn_ready (rs := [0]) (by kernel_rfl) (by simp) ?_
        refine AllReadyIn.cons rfl (fun K hK => ?_) ?_
        · skip
          go_simp
          refine hK _ _ ?_
          rw [← hG]
          exact S_01345 _ (by rfl)
        exact AllReadyIn.nil
      have S_012 : ∀ L : Array Bool, L = #[true, true, true, false, false, false, false, false, false] → G 6 L { tmps := #[.slice p l.length cap, spn a b, undef, .pointer (some ⟨w.heap.size, 0, none⟩), .pointer (some ⟨w.heap.size + 1, 0, none⟩), .pointer (some ⟨w.heap.size + 1 + 1, 0, none⟩), .pointer (some ⟨w.heap.size + 1 + 1 + 1, 0, none⟩), undef, .int .i64 x.1.2, .slice p l.length cap, .bool true, .bool false, .slice p l.length cap, .agg #[.int .i64 a, .int .i64 b], .func (.func 43) #[] #[.pointer (some ⟨u.heap.size, 0, none⟩), .pointer (some ⟨u.heap.size + 1, 0, none⟩)], .float .f64 (Go.floatOfInt .f64 x.1.1), .int .i64 x.1.2, .bool true, .bool false, undef, undef, .int .i64 lo, .int .i64 x.1.2, .int .i64 N1, undef, undef, undef, undef, undef, undef], defers := [] } (W.drew) := by
        intro L hL
        subst hL
        rw [hG]
        refine wpAnyIn_ready (rs := [3, 4, 6]) (by kernel_rfl) (by simp) ?_
        refine AllReadyIn.cons rfl (fun K hK => ?_) ?_
        · skip
          go_simp
          refine hK _ _ ?_
          rw [← hG]
          exact S_0123 _ (by rfl)
        refine AllReadyIn.cons rfl (fun K hK => ?_) ?_
        · skip
          go_simp
          refine hK _ _ ?_
          rw [← hG]
          exact S_0124 _ (by rfl)
        refine AllReadyIn.cons rfl (fun K hK => ?_) ?_
        · skip
          go_simp
          refine hK _ _ ?_
          rw [← hG]
          exact S_0126 _ (by rfl)
        exact AllReadyIn.nil
      have S_013 : ∀ L : Array Bool, L = #[true, true, false, true, false, false, false, false, false] → G 6 L { tmps := #[.slice p l.length cap, spn a b, undef, .pointer (some ⟨w.heap.size, 0, none⟩), .pointer (some ⟨w.heap.size + 1, 0, none⟩), .pointer (some ⟨w.heap.size + 1 + 1, 0, none⟩), .pointer (some ⟨w.heap.size + 1 + 1 + 1, 0, none⟩), undef, .int .i64 x.1.2, .slice p l.length cap, .bool true, .bool false, .slice p l.length cap, .agg #[.int .i64 a, .int .i64 b], .func (.func 43) #[] #[.pointer (some ⟨u.heap.size, 0, none⟩), .pointer (some ⟨u.heap.size + 1, 0, none⟩)], .float .f64 (Go.floatOfInt .f64 x.1.1), .int .i64 x.1.2, .bool true, .bool false, undef, undef, .int .i64 lo, .int .i64 x.1.2, undef, .int .i64 hi, undef, undef, undef, undef, undef], defers := [] } (W.drew) := by
        intro L hL
        subst hL
        rw [hG]
        refine wpAnyIn_ready (rs := [2, 4]) (by kernel_rfl) (by simp) ?_
        refine AllReadyIn.cons rfl (fun K hK => ?_) ?_
        · skip
          go_simp
          refine hK _ _ ?_
          rw [← hG]
          exact S_0123 _ (by rfl)
        refine AllReadyIn.cons rfl (fun K hK => ?_) ?_
        · skip
          go_simp
          refine hK _ _ ?_
          rw [← hG]
          exact S_0134 _ (by rfl)
        exact AllReadyIn.nil
      have S_014 : ∀ L : Array Bool, L = #[true, true, false, false, true, false, false, false, false] → G 6 L { tmps := #[.slice p l.length cap, spn a b, undef, .pointer (some ⟨w.heap.size, 0, none⟩), .pointer (some ⟨w.heap.size + 1, 0, none⟩), .pointer (some ⟨w.heap.size + 1 + 1, 0, none⟩), .pointer (some ⟨w.heap.size + 1 + 1 + 1, 0, none⟩), undef, .int .i64 x.1.2, .slice p l.length cap, .bool true, .bool false, .slice p l.length cap, .agg #[.int .i64 a, .int .i64 b], .func (.func 43) #[] #[.pointer (some ⟨u.heap.size, 0, none⟩), .pointer (some ⟨u.heap.size + 1, 0, none⟩)], .float .f64 (Go.floatOfInt .f64 x.1.1), .int .i64 x.1.2, .bool true, .bool false, undef, undef, .int .i64 lo, .int .i64 x.1.2, undef, undef, .int .i64 x.1.2, undef, undef, undef, undef], defers := [] } (W.drew) := by
        intro L hL
        subst hL
        rw [hG]
        refine wpAnyIn_ready (rs := [2, 3]) (by kernel_rfl) (by simp) ?_
        refine AllReadyIn.cons rfl (fun K hK => ?_) ?_
        · skip
          go_simp
          refine hK _ _ ?_
          rw [← hG]
          exact S_0124 _ (by rfl)
        refine AllReadyIn.cons rfl (fun K hK => ?_) ?_
        · skip
          go_simp
          refine hK _ _ ?_
          rw [← hG]
          exact S_0134 _ (by rfl)
        exact AllReadyIn.nil
      have S_034 : ∀ L : Array Bool, L = #[true, false, false, true, true, false, false, false, false] → G 6 L { tmps := #[.slice p l.length cap, spn a b, undef, .pointer (some ⟨w.heap.size, 0, none⟩), .pointer (some ⟨w.heap.size + 1, 0, none⟩), .pointer (some ⟨w.heap.size + 1 + 1, 0, none⟩), .pointer (some ⟨w.heap.size + 1 + 1 + 1, 0, none⟩), undef, .int .i64 x.1.2, .slice p l.length cap, .bool true, .bool false, .slice p l.length cap, .agg #[.int .i64 a, .int .i64 b], .func (.func 43) #[] #[.pointer (some ⟨u.heap.size, 0, none⟩), .pointer (some ⟨u.heap.size + 1, 0, none⟩)], .float .f64 (Go.floatOfInt .f64 x.1.1), .int .i64 x.1.2, .bool true, .bool false, undef, undef, .int .i64 lo, undef, undef, .int .i64 hi, .int .i64 x.1.2, undef, undef, undef, undef], defers := [] } (W.drew) := by
        intro L hL
        subst hL
        rw [hG]
        refine wpAnyIn_ready (rs := [1, 5]) (by kernel_rfl) (by simp) ?_
        refine AllReadyIn.cons rfl (fun K hK => ?_) ?_
        · skip
          go_simp
          refine hK _ _ ?_
          rw [← hG]
          exact S_0134 _ (by rfl)
        refine AllReadyIn.cons rfl (fun K hK => ?_) ?_
        · skip
          go_simp
          refine hK _ _ ?_
          rw [← hG]
          exact S_0345 _ (by rfl)
        exact AllReadyIn.nil
      have S_134 : ∀ L : Array Bool, L = #[false, true, false, true, true, false, false, false, false] → G 6 L { tmps := #[.slice p l.length cap, spn a b, undef, .pointer (some ⟨w.heap.size, 0, none⟩), .pointer (some ⟨w.heap.size + 1, 0, none⟩), .pointer (some ⟨w.heap.size + 1 + 1, 0, none⟩), .pointer (some ⟨w.heap.size + 1 + 1 + 1, 0, none⟩), undef, .int .i64 x.1.2, .slice p l.length cap, .bool true, .bool false, .slice p l.length cap, .agg #[.int .i64 a, .int .i64 b], .func (.func 43) #[] #[.pointer (some ⟨u.heap.size, 0, none⟩), .pointer (some ⟨u.heap.size + 1, 0, none⟩)], .float .f64 (Go.floatOfInt .f64 x.1.1), .int .i64 x.1.2, .bool true, .bool false, undef, undef, undef, .int .i64 x.1.2, undef, .int .i64 hi, .int .i64 x.1.2, undef, undef, undef, undef], defers := [] } (W.drew) := by
        intro L hL
        subst hL
        rw [hG]
        refine wpAnyIn_ready (rs := [0, 5]) (by kernel_rfl) (by simp) ?_
        refine AllReadyIn.cons rfl (fun K hK => ?_) ?_
        · skip
          go_simp
          refine hK _ _ ?_
          rw [← hG]
          exact S_0134 _ (by rfl)
        refine AllReadyIn.cons rfl (fun K hK => ?_) ?_
        · skip
          go_simp
          refine hK _ _ ?_
          rw [← hG]
          exact S_1345 _ (by rfl)
        exact AllReadyIn.nil
      have S_345 : ∀ L : Array Bool, L = #[false, false, false, true, true, true, false, false, false] → G 6 L { tmps := #[.slice p l.length cap, spn a b, undef, .pointer (some ⟨w.heap.size, 0, none⟩), .pointer (some ⟨w.heap.size + 1, 0, none⟩), .pointer (some ⟨w.heap.size + 1 + 1, 0, none⟩), .pointer (some ⟨w.heap.size + 1 + 1 + 1, 0, none⟩), undef, .int .i64 x.1.2, .slice p l.length cap, .bool true, .bool false, .slice p l.length cap, .agg #[.int .i64 a, .int .i64 b], .func (.func 43) #[] #[.pointer (some ⟨u.heap.size, 0, none⟩), .pointer (some ⟨u.heap.size + 1, 0, none⟩)], .float .f64 (Go.floatOfInt .f64 x.1.1), .int .i64 x.1.2, .bool true, .bool false, undef, undef, undef, undef, undef, .int .i64 hi, .int .i64 x.1.2, .int .i64 M1, undef, undef, undef], defers := [] } (W.drew) := by
        intro L hL
        subst hL
        rw [hG]
        refine wpAnyIn_ready (rs := [0, 1]) (by kernel_rfl) (by simp) ?_
        refine AllReadyIn.cons rfl (fun K hK => ?_) ?_
        · skip
          go_simp
          refine hK _ _ ?_
          rw [← hG]
          exact S_0345 _ (by rfl)
        refine AllReadyIn.cons rfl (fun K hK => ?_) ?_
        · skip
          go_simp
          refine hK _ _ ?_
          rw [← hG]
          exact S_1345 _ (by rfl)
        exact AllReadyIn.nil
      have S_01 : ∀ L : Array Bool, L = #[true, true, false, false, false, false, false, false, false] → G 7 L { tmps := #[.slice p l.length cap, spn a b, undef, .pointer (some ⟨w.heap.size, 0, none⟩), .pointer (some ⟨w.heap.size + 1, 0, none⟩), .pointer (some ⟨w.heap.size + 1 + 1, 0, none⟩), .pointer (some ⟨w.heap.size + 1 + 1 + 1, 0, none⟩), undef, .int .i64 x.1.2, .slice p l.length cap, .bool true, .bool false, .slice p l.length cap, .agg #[.int .i64 a, .int .i64 b], .func (.func 43) #[] #[.pointer (some ⟨u.heap.size, 0, none⟩), .pointer (some ⟨u.heap.size + 1, 0, none⟩)], .float .f64 (Go.floatOfInt .f64 x.1.1), .int .i64 x.1.2, .bool true, .bool false, undef, undef, .int .i64 lo, .int .i64 x.1.2, undef, undef, undef, undef, undef, undef, undef], defers := [] } (W.drew) := by
        intro L hL
        subst hL
        rw [hG]
        refine wpAnyIn_ready (rs := [2, 3, 4]) (by kernel_rfl) (by simp) ?_
        refine AllReadyIn.cons rfl (fun K hK => ?_) ?_
        · skip
          go_simp
          refine hK _ _ ?_
          rw [← hG]
          exact S_012 _ (by rfl)
        refine AllReadyIn.cons rfl (fun K hK => ?_) ?_
        · skip
          go_simp
          refine hK _ _ ?_
          rw [← hG]
          exact S_013 _ (by rfl)
        refine AllReadyIn.cons rfl (fun K hK => ?_) ?_
        · skip
          go_simp
          refine hK _ _ ?_
          rw [← hG]
          exact S_014 _ (by rfl)
        exact AllReadyIn.nil
      have S_03 : ∀ L : Array Bool, L = #[true, false, false, true, false, false, false, false, false] → G 7 L { tmps := #[.slice p l.length cap, spn a b, undef, .pointer (some ⟨w.heap.size, 0, none⟩), .pointer (some ⟨w.heap.size + 1, 0, none⟩), .pointer (some ⟨w.heap.size + 1 + 1, 0, none⟩), .pointer (some ⟨w.heap.size + 1 + 1 + 1, 0, none⟩), undef, .int .i64 x.1.2, .slice p l.length cap, .bool true, .bool false, .slice p l.length cap, .agg #[.int .i64 a, .int .i64 b], .func (.func 43) #[] #[.pointer (some ⟨u.heap.size, 0, none⟩), .pointer (some ⟨u.heap.size + 1, 0, none⟩)], .float .f64 (Go.floatOfInt .f64 x.1.1), .int .i64 x.1.2, .bool true, .bool false, undef, undef, .int .i64 lo, undef, undef, .int .i64 hi, undef, undef, undef, undef, undef], defers := [] } (W.drew) := by
        intro L hL
        subst hL
        rw [hG]
        refine wpAnyIn_ready (rs := [1, 4]) (by kernel_rfl) (by simp) ?_
        refine AllReadyIn.cons rfl (fun K hK => ?_) ?_
        · skip
          go_simp
          refine hK _ _ ?_
          rw [← hG]
          exact S_013 _ (by rfl)
        refine AllReadyIn.cons rfl (fun K hK => ?_) ?_
        · skip
          go_simp
          refine hK _ _ ?_
          rw [← hG]
          exact S_034 _ (by rfl)
        exact AllReadyIn.nil
      have S_04 : ∀ L : Array Bool, L = #[true, false, false, false, true, false, false, false, false] → G 7 L { tmps := #[.slice p l.length cap, spn a b, undef, .pointer (some ⟨w.heap.size, 0, none⟩), .pointer (some ⟨w.heap.size + 1, 0, none⟩), .pointer (some ⟨w.heap.size + 1 + 1, 0, none⟩), .pointer (some ⟨w.heap.size + 1 + 1 + 1, 0, none⟩), undef, .int .i64 x.1.2, .slice p l.length cap, .bool true, .bool false, .slice p l.length cap, .agg #[.int .i64 a, .int .i64 b], .func (.func 43) #[] #[.pointer (some ⟨u.heap.size, 0, none⟩), .pointer (some ⟨u.heap.size + 1, 0, none⟩)], .float .f64 (Go.floatOfInt .f64 x.1.1), .int .i64 x.1.2, .bool true, .bool false, undef, undef, .int .i64 lo, undef, undef, undef, .int .i64 x.1.2, undef, undef, undef, undef], defers := [] } (W.drew) := by
        intro L hL
        subst hL
        rw [hG]
        refine wpAnyIn_ready (rs := [1, 3]) (by kernel_rfl) (by simp) ?_
        refine AllReadyIn.cons rfl (fun K hK => ?_) ?_
        · skip
          go_simp
          refine hK _ _ ?_
          rw [← hG]
          exact S_014 _ (by rfl)
        refine AllReadyIn.cons rfl (fun K hK => ?_) ?_
        · skip
          go_simp
          refine hK _ _ ?_
          rw [← hG]
          exact S_034 _ (by rfl)
        exact AllReadyIn.nil
      have S_13 : ∀ L : Array Bool, L = #[false, true, false, true, false, false, false, false, false] → G 7 L { tmps := #[.slice p l.length cap, spn a b, undef, .pointer (some ⟨w.heap.size, 0, none⟩), .pointer (some ⟨w.heap.size + 1, 0, none⟩), .pointer (some ⟨w.heap.size + 1 + 1, 0, none⟩), .pointer (some ⟨w.heap.size + 1 + 1 + 1, 0, none⟩), undef, .int .i64 x.1.2, .slice p l.length cap, .bool true, .bool false, .slice p l.length cap, .agg #[.int .i64 a, .int .i64 b], .func (.func 43) #[] #[.pointer (some ⟨u.heap.size, 0, none⟩), .pointer (some ⟨u.heap.size + 1, 0, none⟩)], .float .f64 (Go.floatOfInt .f64 x.1.1), .int .i64 x.1.2, .bool true, .bool false, undef, undef, undef, .int .i64 x.1.2, undef, .int .i64 hi, undef, undef, undef, undef, undef], defers := [] } (W.drew) := by
        intro L hL
        subst hL
        rw [hG]
        refine wpAnyIn_ready (rs := [0, 4]) (by kernel_rfl) (by simp) ?_
        refine AllReadyIn.cons rfl (fun K hK => ?_) ?_
        · skip
          go_simp
          refine hK _ _ ?_
          rw [← hG]
          exact S_013 _ (by rfl)
        refine AllReadyIn.cons rfl (fun K hK => ?_) ?_
        · skip
          go_simp
          refine hK _ _ ?_
          rw [← hG]
          exact S_134 _ (by rfl)
        exact AllReadyIn.nil
      have S_14 : ∀ L : Array Bool, L = #[false, true, false, false, true, false, false, false, false] → G 7 L { tmps := #[.slice p l.length cap, spn a b, undef, .pointer (some ⟨w.heap.size, 0, none⟩), .pointer (some ⟨w.heap.size + 1, 0, none⟩), .pointer (some ⟨w.heap.size + 1 + 1, 0, none⟩), .pointer (some ⟨w.heap.size + 1 + 1 + 1, 0, none⟩), undef, .int .i64 x.1.2, .slice p l.length cap, .bool true, .bool false, .slice p l.length cap, .agg #[.int .i64 a, .int .i64 b], .func (.func 43) #[] #[.pointer (some ⟨u.heap.size, 0, none⟩), .pointer (some ⟨u.heap.size + 1, 0, none⟩)], .float .f64 (Go.floatOfInt .f64 x.1.1), .int .i64 x.1.2, .bool true, .bool false, undef, undef, undef, .int .i64 x.1.2, undef, undef, .int .i64 x.1.2, undef, undef, undef, undef], defers := [] } (W.drew) := by
        intro L hL
        subst hL
        rw [hG]
        refine wpAnyIn_ready (rs := [0, 3]) (by kernel_rfl) (by simp) ?_
        refine AllReadyIn.cons rfl (fun K hK => ?_) ?_
        · skip
          go_simp
          refine hK _ _ ?_
          rw [← hG]
          exact S_014 _ (by rfl)
        refine AllReadyIn.cons rfl (fun K hK => ?_) ?_
        · skip
          go_simp
          refine hK _ _ ?_
          rw [← hG]
          exact S_134 _ (by rfl)
        exact AllReadyIn.nil
      have S_34 : ∀ L : Array Bool, L = #[false, false, false, true, true, false, false, false, false] → G 7 L { tmps := #[.slice p l.length cap, spn a b, undef, .pointer (some ⟨w.heap.size, 0, none⟩), .pointer (some ⟨w.heap.size + 1, 0, none⟩), .pointer (some ⟨w.heap.size + 1 + 1, 0, none⟩), .pointer (some ⟨w.heap.size + 1 + 1 + 1, 0, none⟩), undef, .int .i64 x.1.2, .slice p l.length cap, .bool true, .bool false, .slice p l.length cap, .agg #[.int .i64 a, .int .i64 b], .func (.func 43) #[] #[.pointer (some ⟨u.heap.size, 0, none⟩), .pointer (some ⟨u.heap.size + 1, 0, none⟩)], .float .f64 (Go.floatOfInt .f64 x.1.1), .int .i64 x.1.2, .bool true, .bool false, undef, undef, undef, undef, undef, .int .i64 hi, .int .i64 x.1.2, undef, undef, undef, undef], defers := [] } (W.drew) := by
        intro L hL
        subst hL
        rw [hG]
        refine wpAnyIn_ready (rs := [0, 1, 5]) (by kernel_rfl) (by simp) ?_
        refine AllReadyIn.cons rfl (fun K hK => ?_) ?_
        · skip
          go_simp
          refine hK _ _ ?_
          rw [← hG]
          exact S_034 _ (by rfl)
        refine AllReadyIn.cons rfl (fun K hK => ?_) ?_
        · skip
          go_simp
          refine hK _ _ ?_
          rw [← hG]
          exact S_134 _ (by rfl)
        refine AllReadyIn.cons rfl (fun K hK => ?_) ?_
        · skip
          go_simp
          refine hK _ _ ?_
          rw [← hG]
          exact S_345 _ (by rfl)
        exact AllReadyIn.nil
      have S_0 : ∀ L : Array Bool, L = #[true, false, false, false, false, false, false, false, false] → G 8 L { tmps := #[.slice p l.length cap, spn a b, undef, .pointer (some ⟨w.heap.size, 0, none⟩), .pointer (some ⟨w.heap.size + 1, 0, none⟩), .pointer (some ⟨w.heap.size + 1 + 1, 0, none⟩), .pointer (some ⟨w.heap.size + 1 + 1 + 1, 0, none⟩), undef, .int .i64 x.1.2, .slice p l.length cap, .bool true, .bool false, .slice p l.length cap, .agg #[.int .i64 a, .int .i64 b], .func (.func 43) #[] #[.pointer (some ⟨u.heap.size, 0, none⟩), .pointer (some ⟨u.heap.size + 1, 0, none⟩)], .float .f64 (Go.floatOfInt .f64 x.1.1), .int .i64 x.1.2, .bool true, .bool false, undef, undef, .int .i64 lo, undef, undef, undef, undef, undef, undef, undef, undef], defers := [] } (W.drew) := by
        intro L hL
        subst hL
        rw [hG]
        refine wpAnyIn_ready (rs := [1, 3, 4]) (by kernel_rfl) (by simp) ?_
        refine AllReadyIn.cons rfl (fun K hK => ?_) ?_
        · skip
          go_simp
          refine hK _ _ ?_
          rw [← hG]
          exact S_01 _ (by rfl)
        refine AllReadyIn.cons rfl (fun K hK => ?_) ?_
        · skip
          go_simp
          refine hK _ _ ?_
          rw [← hG]
          exact S_03 _ (by rfl)
        refine AllReadyIn.cons rfl (fun K hK => ?_) ?_
        · skip
          go_simp
          refine hK _ _ ?_
          rw [← hG]
          exact S_04 _ (by rfl)
        exact AllReadyIn.nil
      have S_1 : ∀ L : Array Bool, L = #[false, true, false, false, false, false, false, false, false] → G 8 L { tmps := #[.slice p l.length cap, spn a b, undef, .pointer (some ⟨w.heap.size, 0, none⟩), .pointer (some ⟨w.heap.size + 1, 0, none⟩), .pointer (some ⟨w.heap.size + 1 + 1, 0, none⟩), .pointer (some ⟨w.heap.size + 1 + 1 + 1, 0, none⟩), undef, .int .i64 x.1.2, .slice p l.length cap, .bool true, .bool false, .slice p l.length cap, .agg #[.int .i64 a, .int .i64 b], .func (.func 43) #[] #[.pointer (some ⟨u.heap.size, 0, none⟩), .pointer (some ⟨u.heap.size + 1, 0, none⟩)], .float .f64 (Go.floatOfInt .f64 x.1.1), .int .i64 x.1.2, .bool true, .bool false, undef, undef, undef, .int .i64 x.1.2, undef, undef, undef, undef, undef, undef, undef], defers := [] } (W.drew) := by
        intro L hL
        subst hL
        rw [hG]
        refine wpAnyIn_ready (rs := [0, 3, 4]) (by kernel_rfl) (by simp) ?_
        refine AllReadyIn.cons rfl (fun K hK => ?_) ?_
        · skip
          go_simp
          refine hK _ _ ?_
          rw [← hG]
          exact S_01 _ (by rfl)
        refine AllReadyIn.cons rfl (fun K hK => ?_) ?_
        · skip
          go_simp
          refine hK _ _ ?_
          rw [← hG]
          exact S_13 _ (by rfl)
        refine AllReadyIn.cons rfl (fun K hK => ?_) ?_
        · skip
          go_simp
          refine hK _ _ ?_
          rw [← hG]
          exact S_14 _ (by rfl)
        exact AllReadyIn.nil
      have S_3 : ∀ L : Array Bool, L = #[false, false, false, true, false, false, false, false, false] → G 8 L { tmps := #[.slice p l.length cap, spn a b, undef, .pointer (some ⟨w.heap.size, 0, none⟩), .pointer (some ⟨w.heap.size + 1, 0, none⟩), .pointer (some ⟨w.heap.size + 1 + 1, 0, none⟩), .pointer (some ⟨w.heap.size + 1 + 1 + 1, 0, none⟩), undef, .int .i64 x.1.2, .slice p l.length cap, .bool true, .bool false, .slice p l.length cap, .agg #[.int .i64 a, .int .i64 b], .func (.func 43) #[] #[.pointer (some ⟨u.heap.size, 0, none⟩), .pointer (some ⟨u.heap.size + 1, 0, none⟩)], .float .f64 (Go.floatOfInt .f64 x.1.1), .int .i64 x.1.2, .bool true, .bool false, undef, undef, undef, undef, undef, .int .i64 hi, undef, undef, undef, undef, undef], defers := [] } (W.drew) := by
        intro L hL
        subst hL
        rw [hG]
        refine wpAnyIn_ready (rs := [0, 1, 4]) (by kernel_rfl) (by simp) ?_
        refine AllReadyIn.cons rfl (fun K hK => ?_) ?_
        · skip
          go_simp
          refine hK _ _ ?_
          rw [← hG]
          exact S_03 _ (by rfl)
        refine AllReadyIn.cons rfl (fun K hK => ?_) ?_
        · skip
          go_simp
          refine hK _ _ ?_
          rw [← hG]
          exact S_13 _ (by rfl)
        refine AllReadyIn.cons rfl (fun K hK => ?_) ?_
        · skip
          go_simp
          refine hK _ _ ?_
          rw [← hG]
          exact S_34 _ (by rfl)
        exact AllReadyIn.nil
      have S_4 : ∀ L : Array Bool, L = #[false, false, false, false, true, false, false, false, false] → G 8 L { tmps := #[.slice p l.length cap, spn a b, undef, .pointer (some ⟨w.heap.size, 0, none⟩), .pointer (some ⟨w.heap.size + 1, 0, none⟩), .pointer (some ⟨w.heap.size + 1 + 1, 0, none⟩), .pointer (some ⟨w.heap.size + 1 + 1 + 1, 0, none⟩), undef, .int .i64 x.1.2, .slice p l.length cap, .bool true, .bool false, .slice p l.length cap, .agg #[.int .i64 a, .int .i64 b], .func (.func 43) #[] #[.pointer (some ⟨u.heap.size, 0, none⟩), .pointer (some ⟨u.heap.size + 1, 0, none⟩)], .float .f64 (Go.floatOfInt .f64 x.1.1), .int .i64 x.1.2, .bool true, .bool false, undef, undef, undef, undef, undef, undef, .int .i64 x.1.2, undef, undef, undef, undef], defers := [] } (W.drew) := by
        intro L hL
        subst hL
        rw [hG]
        refine wpAnyIn_ready (rs := [0, 1, 3]) (by kernel_rfl) (by simp) ?_
        refine AllReadyIn.cons rfl (fun K hK => ?_) ?_
        · skip
          go_simp
          refine hK _ _ ?_
          rw [← hG]
          exact S_04 _ (by rfl)
        refine AllReadyIn.cons rfl (fun K hK => ?_) ?_
        · skip
          go_simp
          refine hK _ _ ?_
          rw [← hG]
          exact S_14 _ (by rfl)
        refine AllReadyIn.cons rfl (fun K hK => ?_) ?_
        · skip
          go_simp
          refine hK _ _ ?_
          rw [← hG]
          exact S_34 _ (by rfl)
        exact AllReadyIn.nil
      have S_e : ∀ L : Array Bool, L = #[false, false, false, false, false, false, false, false, false] → G 9 L { tmps := #[.slice p l.length cap, spn a b, undef, .pointer (some ⟨w.heap.size, 0, none⟩), .pointer (some ⟨w.heap.size + 1, 0, none⟩), .pointer (some ⟨w.heap.size + 1 + 1, 0, none⟩), .pointer (some ⟨w.heap.size + 1 + 1 + 1, 0, none⟩), undef, .int .i64 x.1.2, .slice p l.length cap, .bool true, .bool false, .slice p l.length cap, .agg #[.int .i64 a, .int .i64 b], .func (.func 43) #[] #[.pointer (some ⟨u.heap.size, 0, none⟩), .pointer (some ⟨u.heap.size + 1, 0, none⟩)], .float .f64 (Go.floatOfInt .f64 x.1.1), .int .i64 x.1.2, .bool true, .bool false, undef, undef, undef, undef, undef, undef, undef, undef, undef, undef, undef], defers := [] } (W.drew) := by
        intro L hL
        subst hL
        rw [hG]
        refine wpAnyIn_ready (rs := [0, 1, 3, 4]) (by kernel_rfl) (by simp) ?_
        refine AllReadyIn.cons rfl (fun K hK => ?_) ?_
        · skip
          go_simp
          refine hK _ _ ?_
          rw [← hG]
          exact S_0 _ (by rfl)
        refine AllReadyIn.cons rfl (fun K hK => ?_) ?_
        · skip
          go_simp
          refine hK _ _ ?_
          rw [← hG]
          exact S_1 _ (by rfl)
        refine AllReadyIn.cons rfl (fun K hK => ?_) ?_
        · skip
          go_simp
          refine hK _ _ ?_
          rw [← hG]
          exact S_3 _ (by rfl)
        refine AllReadyIn.cons rfl (fun K hK => ?_) ?_
        · skip
          go_simp
          refine hK _ _ ?_
          rw [← hG]
          exact S_4 _ (by rfl)
        exact AllReadyIn.nil
      exact S_e _ (by rfl)
  case done =>
    rintro D ys W hD rfl ⟨⟨⟨⟨k1, k2⟩, k3⟩, hB⟩, _⟩ hK
    have hmx : Try.prog.follows .mixedOrders = true := by kernel_rfl
    obtain ⟨E, hE⟩ : ∃ E, endL (cnt l a b l.length) = E := ⟨_, rfl⟩
    rw [hE] at k1 k2 k3
    obtain ⟨lo, hi, is⟩ := E
    dsimp only at k1 k2 k3
    gi_wp2
    clear c1 c2 c3
    have m1 : Boxed W.drew (w.heap.size + 1) 2 (.int .i64 lo) := k1
    have m2 : Boxed W.drew (w.heap.size + 1 + 1) 2 (.int .i64 hi) := k2
    have m3 : Boxed W.drew (w.heap.size + 1 + 1 + 1) 4 (.bool is) := k3
    have n1 := m1.set (.int .i64 lo)
    have n2 := m2.other (B' := w.heap.size + 1) (by omega) (.int .i64 lo)
    have n3 := m3.other (B' := w.heap.size + 1) (by omega) (.int .i64 lo)
    have o1 := n1.other (B' := w.heap.size + 1 + 1) (by omega) (.int .i64 hi)
    have o2 := n2.set (.int .i64 hi)
    have o3 := n3.other (B' := w.heap.size + 1 + 1) (by omega) (.int .i64 hi)
    have q1 := o1.other (B' := w.heap.size + 1 + 1 + 1) (by omega) (.bool is)
    have q2 := o2.other (B' := w.heap.size + 1 + 1 + 1) (by omega) (.bool is)
    have q3 := o3.set (.bool is)
    have BB := (((hB.drew.setCell (p := ⟨w.heap.size + 1, 0, none⟩) (by first | (simp; done) | (simp; omega) | omega) (.int .i64 lo)).setCell (p := ⟨w.heap.size + 1 + 1, 0, none⟩) (by first | (simp; done) | (simp; omega) | omega) (.int .i64 hi)).setCell (p := ⟨w.heap.size + 1 + 1 + 1, 0, none⟩) (by first | (simp; done) | (simp; omega) | omega) (.bool is))
    have HK : (((W.drew.setCell ⟨w.heap.size + 1, 0, none⟩ (.int .i64 lo)).setCell ⟨w.heap.size + 1 + 1, 0, none⟩ (.int .i64 hi)).setCell ⟨w.heap.size + 1 + 1 + 1, 0, none⟩ (.bool is)).heap[D]? = some (.deferred (some [])) := (Below.heap_setCell _ _ _ _ (by first | (simp; done) | (simp; omega) | omega)).trans ((Below.heap_setCell _ _ _ _ (by first | (simp; done) | (simp; omega) | omega)).trans ((Below.heap_setCell _ _ _ _ (by first | (simp; done) | (simp; omega) | omega)).trans hK))
    have DD : w.heap.size + 1 + 1 + 1 < D := by omega
    have s1 := (World.cell?_of_block (a := ⟨w.heap.size + 1, 0, none⟩) (World.putObj_heap_other (o := .deferred none) (show w.heap.size + 1 ≠ D by omega))).trans q1.cell
    have s2 := (World.cell?_of_block (a := ⟨w.heap.size + 1 + 1, 0, none⟩) (World.putObj_heap_other (o := .deferred none) (show w.heap.size + 1 + 1 ≠ D by omega))).trans q2.cell
    have s3 := (World.cell?_of_block (a := ⟨w.heap.size + 1 + 1 + 1, 0, none⟩) (World.putObj_heap_other (o := .deferred none) (show w.heap.size + 1 + 1 + 1 ≠ D by omega))).trans q3.cell
    have BD := BB.trans (belowK_b (w := w) (Nat.le_refl _) _ D _ (.deferred none) (by omega) HK rfl rfl)
    have c3 := k3.cell
    have c1 := k1.cell
    have c2 := k2.cell
    have d3 := m3.cell
    have d1 := m1.cell
    have d2 := m2.cell
    have f1 := m1.frozen
    have f2 := m2.frozen
    have f3 := m3.frozen
    have gc2 : (W.setCell ⟨w.heap.size + 1, 0, none⟩ (.int .i64 lo)).drew.cell? ⟨w.heap.size + 1 + 1, 0, none⟩ = some (.int .i64 hi) := n2.cell
    have gc3 : (W.setCell ⟨w.heap.size + 1, 0, none⟩ (.int .i64 lo)).drew.cell? ⟨w.heap.size + 1 + 1 + 1, 0, none⟩ = some (.bool is) := n3.cell
    have gd3 : ((W.setCell ⟨w.heap.size + 1, 0, none⟩ (.int .i64 lo)).setCell ⟨w.heap.size + 1 + 1, 0, none⟩ (.int .i64 hi)).drew.cell? ⟨w.heap.size + 1 + 1 + 1, 0, none⟩ = some (.bool is) := o3.cell
    have gf2 : (W.setCell ⟨w.heap.size + 1, 0, none⟩ (.int .i64 lo)).drew.frozen? ⟨w.heap.size + 1 + 1, 0, none⟩ = false := n2.frozen
    have gf3 : ((W.setCell ⟨w.heap.size + 1, 0, none⟩ (.int .i64 lo)).setCell ⟨w.heap.size + 1 + 1, 0, none⟩ (.int .i64 hi)).drew.frozen? ⟨w.heap.size + 1 + 1 + 1, 0, none⟩ = false := o3.frozen
    refine wpIn_region_any (by assumption) ?_
    try (change wpAnyIn _ _ _ _ _ _ _ _ _ (World.drew _))
    refine by_name fun G hG => ?_
    have S_012345 : ∀ L : Array Bool, L = #[true, true, true, true, true, true] → G 0 L { tmps := #[.slice p l.length cap, spn a b, undef, .pointer (some ⟨w.heap.size, 0, none⟩), .pointer (some ⟨w.heap.size + 1, 0, none⟩), .pointer (some ⟨w.heap.size + 1 + 1, 0, none⟩), .pointer (some ⟨w.heap.size + 1 + 1 + 1, 0, none⟩), undef, undef, .slice p l.length cap, .bool true, .bool false, .slice p l.length cap, .agg #[.int .i64 a, .int .i64 b], .func (.func 43) #[] #[.pointer (some ⟨u.heap.size, 0, none⟩), .pointer (some ⟨u.heap.size + 1, 0, none⟩)], undef, undef, undef, undef, undef, undef, undef, undef, undef, undef, undef, undef, .int .i64 lo, .int .i64 hi, .bool is], defers := [{ target := Target.collected D, args := #[] }] } (((W.drew.setCell ⟨w.heap.size + 1, 0, none⟩ (.int .i64 lo)).setCell ⟨w.heap.size + 1 + 1, 0, none⟩ (.int .i64 hi)).setCell ⟨w.heap.size + 1 + 1 + 1, 0, none⟩ (.bool is)) := by
      intro L hL
      subst hL
      rw [hG]
      refine wpAnyIn_done (by kernel_rfl) ?_ _
      gi_wp2
      refine ⟨by simp, .inl ⟨_, _, rfl, run_takeDeferred HK, ?_⟩⟩
      rw [hE]
      generalize (((W.drew.setCell ⟨w.heap.size + 1, 0, none⟩ (.int .i64 lo)).setCell ⟨w.heap.size + 1 + 1, 0, none⟩ (.int .i64 hi)).setCell ⟨w.heap.size + 1 + 1 + 1, 0, none⟩ (.bool is)).putObj D (.deferred none) = X at s1 s2 s3 BD ⊢
      exact ⟨.tuple #[.int .i64 lo, .int .i64 hi, .bool is], by simp [results, Try.results12, go_sem, s1, s2, s3], rfl, BD⟩
    have S_01234 : ∀ L : Array Bool, L = #[true, true, true, true, true, false] → G 1 L { tmps := #[.slice p l.length cap, spn a b, undef, .pointer (some ⟨w.heap.size, 0, none⟩), .pointer (some ⟨w.heap.size + 1, 0, none⟩), .pointer (some ⟨w.heap.size + 1 + 1, 0, none⟩), .pointer (some ⟨w.heap.size + 1 + 1 + 1, 0, none⟩), undef, undef, .slice p l.length cap, .bool true, .bool false, .slice p l.length cap, .agg #[.int .i64 a, .int .i64 b], .func (.func 43) #[] #[.pointer (some ⟨u.heap.size, 0, none⟩), .pointer (some ⟨u.heap.size + 1, 0, none⟩)], undef, undef, undef, undef, undef, undef, undef, undef, undef, undef, undef, undef, .int .i64 lo, .int .i64 hi, .bool is], defers := [{ target := Target.collected D, args := #[] }] } ((W.drew.setCell ⟨w.heap.size + 1, 0, none⟩ (.int .i64 lo)).setCell ⟨w.heap.size + 1 + 1, 0, none⟩ (.int .i64 hi)) := by
      intro L hL
      subst hL
      rw [hG]
      refine wpAnyIn_ready (rs := [5]) (by kernel_rfl) (by simp) ?_
      refine AllReadyIn.cons rfl (fun K hK => ?_) ?_
      · skip
        go_simp
        refine hK _ _ ?_
        rw [← hG]
        exact S_012345 _ (by rfl)
      exact AllReadyIn.nil
    have S_0123 : ∀ L : Array Bool, L = #[true, true, true, true, false, false] → G 2 L { tmps := #[.slice p l.length cap, spn a b, undef, .pointer (some ⟨w.heap.size, 0, none⟩), .pointer (some ⟨w.heap.size + 1, 0, none⟩), .pointer (some ⟨w.heap.size + 1 + 1, 0, none⟩), .pointer (some ⟨w.heap.size + 1 + 1 + 1, 0, none⟩), undef, undef, .slice p l.length cap, .bool true, .bool false, .slice p l.length cap, .agg #[.int .i64 a, .int .i64 b], .func (.func 43) #[] #[.pointer (some ⟨u.heap.size, 0, none⟩), .pointer (some ⟨u.heap.size + 1, 0, none⟩)], undef, undef, undef, undef, undef, undef, undef, undef, undef, undef, undef, undef, .int .i64 lo, .int .i64 hi, .bool is], defers := [{ target := Target.collected D, args := #[] }] } (W.drew.setCell ⟨w.heap.size + 1, 0, none⟩ (.int .i64 lo)) := by
      intro L hL
      subst hL
      rw [hG]
      refine wpAnyIn_ready (rs := [4]) (by kernel_rfl) (by simp) ?_
      refine AllReadyIn.cons rfl (fun K hK => ?_) ?_
      · skip
        go_simp
        refine hK _ _ ?_
        rw [← hG]
        exact S_01234 _ (by rfl)
      exact AllReadyIn.nil
    have S_0134 : ∀ L : Array Bool, L = #[true, true, false, true, true, false] → G 2 L { tmps := #[.slice p l.length cap, spn a b, undef, .pointer (some ⟨w.heap.size, 0, none⟩), .pointer (some ⟨w.heap.size + 1, 0, none⟩), .pointer (some ⟨w.heap.size + 1 + 1, 0, none⟩), .pointer (some ⟨w.heap.size + 1 + 1 + 1, 0, none⟩), undef, undef, .slice p l.length cap, .bool true, .bool false, .slice p l.length cap, .agg #[.int .i64 a, .int .i64 b], .func (.func 43) #[] #[.pointer (some ⟨u.heap.size, 0, none⟩), .pointer (some ⟨u.heap.size + 1, 0, none⟩)], undef, undef, undef, undef, undef, undef, undef, undef, undef, undef, undef, undef, .int .i64 lo, .int .i64 hi, undef], defers := [{ target := Target.collected D, args := #[] }] } ((W.drew.setCell ⟨w.heap.size + 1, 0, none⟩ (.int .i64 lo)).setCell ⟨w.heap.size + 1 + 1, 0, none⟩ (.int .i64 hi)) := by
      intro L hL
      subst hL
      rw [hG]
      refine wpAnyIn_ready (rs := [2]) (by kernel_rfl) (by simp) ?_
      refine AllReadyIn.cons rfl (fun K hK => ?_) ?_
      · skip
        go_simp
        refine hK _ _ ?_
        rw [← hG]
        exact S_01234 _ (by rfl)
      exact AllReadyIn.nil
    have S_012 : ∀ L : Array Bool, L = #[true, true, true, false, false, false] → G 3 L { tmps := #[.slice p l.length cap, spn a b, undef, .pointer (some ⟨w.heap.size, 0, none⟩), .pointer (some ⟨w.heap.size + 1, 0, none⟩), .pointer (some ⟨w.heap.size + 1 + 1, 0, none⟩), .pointer (some ⟨w.heap.size + 1 + 1 + 1, 0, none⟩), undef, undef, .slice p l.length cap, .bool true, .bool false, .slice p l.length cap, .agg #[.int .i64 a, .int .i64 b], .func (.func 43) #[] #[.pointer (some ⟨u.heap.size, 0, none⟩), .pointer (some ⟨u.heap.size + 1, 0, none⟩)], undef, undef, undef, undef, undef, undef, undef, undef, undef, undef, undef, undef, .int .i64 lo, .int .i64 hi, .bool is], defers := [{ target := Target.collected D, args := #[] }] } (W.drew) := by
      intro L hL
      subst hL
      rw [hG]
      refine wpAnyIn_ready (rs := [3]) (by kernel_rfl) (by simp) ?_
      refine AllReadyIn.cons rfl (fun K hK => ?_) ?_
      · skip
        go_simp
        refine hK _ _ ?_
        rw [← hG]
        exact S_0123 _ (by rfl)
      exact AllReadyIn.nil
    have S_013 : ∀ L : Array Bool, L = #[true, true, false, true, false, false] → G 3 L { tmps := #[.slice p l.length cap, spn a b, undef, .pointer (some ⟨w.heap.size, 0, none⟩), .pointer (some ⟨w.heap.size + 1, 0, none⟩), .pointer (some ⟨w.heap.size + 1 + 1, 0, none⟩), .pointer (some ⟨w.heap.size + 1 + 1 + 1, 0, none⟩), undef, undef, .slice p l.length cap, .bool true, .bool false, .slice p l.length cap, .agg #[.int .i64 a, .int .i64 b], .func (.func 43) #[] #[.pointer (some ⟨u.heap.size, 0, none⟩), .pointer (some ⟨u.heap.size + 1, 0, none⟩)], undef, undef, undef, undef, undef, undef, undef, undef, undef, undef, undef, undef, .int .i64 lo, .int .i64 hi, undef], defers := [{ target := Target.collected D, args := #[] }] } (W.drew.setCell ⟨w.heap.size + 1, 0, none⟩ (.int .i64 lo)) := by
      intro L hL
      subst hL
      rw [hG]
      refine wpAnyIn_ready (rs := [2, 4]) (by kernel_rfl) (by simp) ?_
      refine AllReadyIn.cons rfl (fun K hK => ?_) ?_
      · skip
        go_simp
        refine hK _ _ ?_
        rw [← hG]
        exact S_0123 _ (by rfl)
      refine AllReadyIn.cons rfl (fun K hK => ?_) ?_
      · skip
        go_simp
        refine hK _ _ ?_
        rw [← hG]
        exact S_0134 _ (by rfl)
      exact AllReadyIn.nil
    have S_023 : ∀ L : Array Bool, L = #[true, false, true, true, false, false] → G 3 L { tmps := #[.slice p l.length cap, spn a b, undef, .pointer (some ⟨w.heap.size, 0, none⟩), .pointer (some ⟨w.heap.size + 1, 0, none⟩), .pointer (some ⟨w.heap.size + 1 + 1, 0, none⟩), .pointer (some ⟨w.heap.size + 1 + 1 + 1, 0, none⟩), undef, undef, .slice p l.length cap, .bool true, .bool false, .slice p l.length cap, .agg #[.int .i64 a, .int .i64 b], .func (.func 43) #[] #[.pointer (some ⟨u.heap.size, 0, none⟩), .pointer (some ⟨u.heap.size + 1, 0, none⟩)], undef, undef, undef, undef, undef, undef, undef, undef, undef, undef, undef, undef, .int .i64 lo, undef, .bool is], defers := [{ target := Target.collected D, args := #[] }] } (W.drew.setCell ⟨w.heap.size + 1, 0, none⟩ (.int .i64 lo)) := by
      intro L hL
      subst hL
      rw [hG]
      refine wpAnyIn_ready (rs := [1]) (by kernel_rfl) (by simp) ?_
      refine AllReadyIn.cons rfl (fun K hK => ?_) ?_
      · skip
        go_simp
        refine hK _ _ ?_
        rw [← hG]
        exact S_0123 _ (by rfl)
      exact AllReadyIn.nil
    have S_01 : ∀ L : Array Bool, L = #[true, true, false, false, false, false] → G 4 L { tmps := #[.slice p l.length cap, spn a b, undef, .pointer (some ⟨w.heap.size, 0, none⟩), .pointer (some ⟨w.heap.size + 1, 0, none⟩), .pointer (some ⟨w.heap.size + 1 + 1, 0, none⟩), .pointer (some ⟨w.heap.size + 1 + 1 + 1, 0, none⟩), undef, undef, .slice p l.length cap, .bool true, .bool false, .slice p l.length cap, .agg #[.int .i64 a, .int .i64 b], .func (.func 43) #[] #[.pointer (some ⟨u.heap.size, 0, none⟩), .pointer (some ⟨u.heap.size + 1, 0, none⟩)], undef, undef, undef, undef, undef, undef, undef, undef, undef, undef, undef, undef, .int .i64 lo, .int .i64 hi, undef], defers := [{ target := Target.collected D, args := #[] }] } (W.drew) := by
      intro L hL
      subst hL
      rw [hG]
      refine wpAnyIn_ready (rs := [2, 3]) (by kernel_rfl) (by simp) ?_
      refine AllReadyIn.cons rfl (fun K hK => ?_) ?_
      · skip
        go_simp
        refine hK _ _ ?_
        rw [← hG]
        exact S_012 _ (by rfl)
      refine AllReadyIn.cons rfl (fun K hK => ?_) ?_
      · skip
        go_simp
        refine hK _ _ ?_
        rw [← hG]
        exact S_013 _ (by rfl)
      exact AllReadyIn.nil
    have S_02 : ∀ L : Array Bool, L = #[true, false, true, false, false, false] → G 4 L { tmps := #[.slice p l.length cap, spn a b, undef, .pointer (some ⟨w.heap.size, 0, none⟩), .pointer (some ⟨w.heap.size + 1, 0, none⟩), .pointer (some ⟨w.heap.size + 1 + 1, 0, none⟩), .pointer (some ⟨w.heap.size + 1 + 1 + 1, 0, none⟩), undef, undef, .slice p l.length cap, .bool true, .bool false, .slice p l.length cap, .agg #[.int .i64 a, .int .i64 b], .func (.func 43) #[] #[.pointer (some ⟨u.heap.size, 0, none⟩), .pointer (some ⟨u.heap.size + 1, 0, none⟩)], undef, undef, undef, undef, undef, undef, undef, undef, undef, undef, undef, undef, .int .i64 lo, undef, .bool is], defers := [{ target := Target.collected D, args := #[] }] } (W.drew) := by
      intro L hL
      subst hL
      rw [hG]
      refine wpAnyIn_ready (rs := [1, 3]) (by kernel_rfl) (by simp) ?_
      refine AllReadyIn.cons rfl (fun K hK => ?_) ?_
      · skip
        go_simp
        refine hK _ _ ?_
        rw [← hG]
        exact S_012 _ (by rfl)
      refine AllReadyIn.cons rfl (fun K hK => ?_) ?_
      · skip
        go_simp
        refine hK _ _ ?_
        rw [← hG]
        exact S_023 _ (by rfl)
      exact AllReadyIn.nil
    have S_03 : ∀ L : Array Bool, L = #[true, false, false, true, false, false] → G 4 L { tmps := #[.slice p l.length cap, spn a b, undef, .pointer (some ⟨w.heap.size, 0, none⟩), .pointer (some ⟨w.heap.size + 1, 0, none⟩), .pointer (some ⟨w.heap.size + 1 + 1, 0, none⟩), .pointer (some ⟨w.heap.size + 1 + 1 + 1, 0, none⟩), undef, undef, .slice p l.length cap, .bool true, .bool false, .slice p l.length cap, .agg #[.int .i64 a, .int .i64 b], .func (.func 43) #[] #[.pointer (some ⟨u.heap.size, 0, none⟩), .pointer (some ⟨u.heap.size + 1, 0, none⟩)], undef, undef, undef, undef, undef, undef, undef, undef, undef, undef, undef, undef, .int .i64 lo, undef, undef], defers := [{ target := Target.collected D, args := #[] }] } (W.drew.setCell ⟨w.heap.size + 1, 0, none⟩ (.int .i64 lo)) := by
      intro L hL
      subst hL
      rw [hG]
      refine wpAnyIn_ready (rs := [1, 2]) (by kernel_rfl) (by simp) ?_
      refine AllReadyIn.cons rfl (fun K hK => ?_) ?_
      · skip
        go_simp
        refine hK _ _ ?_
        rw [← hG]
        exact S_013 _ (by rfl)
      refine AllReadyIn.cons rfl (fun K hK => ?_) ?_
      · skip
        go_simp
        refine hK _ _ ?_
        rw [← hG]
        exact S_023 _ (by rfl)
      exact AllReadyIn.nil
    have S_12 : ∀ L : Array Bool, L = #[false, true, true, false, false, false] → G 4 L { tmps := #[.slice p l.length cap, spn a b, undef, .pointer (some ⟨w.heap.size, 0, none⟩), .pointer (some ⟨w.heap.size + 1, 0, none⟩), .pointer (some ⟨w.heap.size + 1 + 1, 0, none⟩), .pointer (some ⟨w.heap.size + 1 + 1 + 1, 0, none⟩), undef, undef, .slice p l.length cap, .bool true, .bool false, .slice p l.length cap, .agg #[.int .i64 a, .int .i64 b], .func (.func 43) #[] #[.pointer (some ⟨u.heap.size, 0, none⟩), .pointer (some ⟨u.heap.size + 1, 0, none⟩)], undef, undef, undef, undef, undef, undef, undef, undef, undef, undef, undef, undef, undef, .int .i64 hi, .bool is], defers := [{ target := Target.collected D, args := #[] }] } (W.drew) := by
      intro L hL
      subst hL
      rw [hG]
      refine wpAnyIn_ready (rs := [0]) (by kernel_rfl) (by simp) ?_
      refine AllReadyIn.cons rfl (fun K hK => ?_) ?_
      · skip
        go_simp
        refine hK _ _ ?_
        rw [← hG]
        exact S_012 _ (by rfl)
      exact AllReadyIn.nil
    have S_0 : ∀ L : Array Bool, L = #[true, false, false, false, false, false] → G 5 L { tmps := #[.slice p l.length cap, spn a b, undef, .pointer (some ⟨w.heap.size, 0, none⟩), .pointer (some ⟨w.heap.size + 1, 0, none⟩), .pointer (some ⟨w.heap.size + 1 + 1, 0, none⟩), .pointer (some ⟨w.heap.size + 1 + 1 + 1, 0, none⟩), undef, undef, .slice p l.length cap, .bool true, .bool false, .slice p l.length cap, .agg #[.int .i64 a, .int .i64 b], .func (.func 43) #[] #[.pointer (some ⟨u.heap.size, 0, none⟩), .pointer (some ⟨u.heap.size + 1, 0, none⟩)], undef, undef, undef, undef, undef, undef, undef, undef, undef, undef, undef, undef, .int .i64 lo, undef, undef], defers := [{ target := Target.collected D, args := #[] }] } (W.drew) := by
      intro L hL
      subst hL
      rw [hG]
      refine wpAnyIn_ready (rs := [1, 2, 3]) (by kernel_rfl) (by simp) ?_
      refine AllReadyIn.cons rfl (fun K hK => ?_) ?_
      · skip
        go_simp
        refine hK _ _ ?_
        rw [← hG]
        exact S_01 _ (by rfl)
      refine AllReadyIn.cons rfl (fun K hK => ?_) ?_
      · skip
        go_simp
        refine hK _ _ ?_
        rw [← hG]
        exact S_02 _ (by rfl)
      refine AllReadyIn.cons rfl (fun K hK => ?_) ?_
      · skip
        go_simp
        refine hK _ _ ?_
        rw [← hG]
        exact S_03 _ (by rfl)
      exact AllReadyIn.nil
    have S_1 : ∀ L : Array Bool, L = #[false, true, false, false, false, false] → G 5 L { tmps := #[.slice p l.length cap, spn a b, undef, .pointer (some ⟨w.heap.size, 0, none⟩), .pointer (some ⟨w.heap.size + 1, 0, none⟩), .pointer (some ⟨w.heap.size + 1 + 1, 0, none⟩), .pointer (some ⟨w.heap.size + 1 + 1 + 1, 0, none⟩), undef, undef, .slice p l.length cap, .bool true, .bool false, .slice p l.length cap, .agg #[.int .i64 a, .int .i64 b], .func (.func 43) #[] #[.pointer (some ⟨u.heap.size, 0, none⟩), .pointer (some ⟨u.heap.size + 1, 0, none⟩)], undef, undef, undef, undef, undef, undef, undef, undef, undef, undef, undef, undef, undef, .int .i64 hi, undef], defers := [{ target := Target.collected D, args := #[] }] } (W.drew) := by
      intro L hL
      subst hL
      rw [hG]
      refine wpAnyIn_ready (rs := [0, 2]) (by kernel_rfl) (by simp) ?_
      refine AllReadyIn.cons rfl (fun K hK => ?_) ?_
      · skip
        go_simp
        refine hK _ _ ?_
        rw [← hG]
        exact S_01 _ (by rfl)
      refine AllReadyIn.cons rfl (fun K hK => ?_) ?_
      · skip
        go_simp
        refine hK _ _ ?_
        rw [← hG]
        exact S_12 _ (by rfl)
      exact AllReadyIn.nil
    have S_2 : ∀ L : Array Bool, L = #[false, false, true, false, false, false] → G 5 L { tmps := #[.slice p l.length cap, spn a b, undef, .pointer (some ⟨w.heap.size, 0, none⟩), .pointer (some ⟨w.heap.size + 1, 0, none⟩), .pointer (some ⟨w.heap.size + 1 + 1, 0, none⟩), .pointer (some ⟨w.heap.size + 1 + 1 + 1, 0, none⟩), undef, undef, .slice p l.length cap, .bool true, .bool false, .slice p l.length cap, .agg #[.int .i64 a, .int .i64 b], .func (.func 43) #[] #[.pointer (some ⟨u.heap.size, 0, none⟩), .pointer (some ⟨u.heap.size + 1, 0, none⟩)], undef, undef, undef, undef, undef, undef, undef, undef, undef, undef, undef, undef, undef, undef, .bool is], defers := [{ target := Target.collected D, args := #[] }] } (W.drew) := by
      intro L hL
      subst hL
      rw [hG]
      refine wpAnyIn_ready (rs := [0, 1]) (by kernel_rfl) (by simp) ?_
      refine AllReadyIn.cons rfl (fun K hK => ?_) ?_
      · skip
        go_simp
        refine hK _ _ ?_
        rw [← hG]
        exact S_02 _ (by rfl)
      refine AllReadyIn.cons rfl (fun K hK => ?_) ?_
      · skip
        go_simp
        refine hK _ _ ?_
        rw [← hG]
        exact S_12 _ (by rfl)
      exact AllReadyIn.nil
    have S_e : ∀ L : Array Bool, L = #[false, false, false, false, false, false] → G 6 L { tmps := #[.slice p l.length cap, spn a b, undef, .pointer (some ⟨w.heap.size, 0, none⟩), .pointer (some ⟨w.heap.size + 1, 0, none⟩), .pointer (some ⟨w.heap.size + 1 + 1, 0, none⟩), .pointer (some ⟨w.heap.size + 1 + 1 + 1, 0, none⟩), undef, undef, .slice p l.length cap, .bool true, .bool false, .slice p l.length cap, .agg #[.int .i64 a, .int .i64 b], .func (.func 43) #[] #[.pointer (some ⟨u.heap.size, 0, none⟩), .pointer (some ⟨u.heap.size + 1, 0, none⟩)], undef, undef, undef, undef, undef, undef, undef, undef, undef, undef, undef, undef, undef, undef, undef], defers := [{ target := Target.collected D, args := #[] }] } (W.drew) := by
      intro L hL
      subst hL
      rw [hG]
      refine wpAnyIn_ready (rs := [0, 1, 2]) (by kernel_rfl) (by simp) ?_
      refine AllReadyIn.cons rfl (fun K hK => ?_) ?_
      · skip
        go_simp
        refine hK _ _ ?_
        rw [← hG]
        exact S_0 _ (by rfl)
      refine AllReadyIn.cons rfl (fun K hK => ?_) ?_
      · skip
        go_simp
        refine hK _ _ ?_
        rw [← hG]
        exact S_1 _ (by rfl)
      refine AllReadyIn.cons rfl (fun K hK => ?_) ?_
      · skip
        go_simp
        refine hK _ _ ?_
        rw [← hG]
        exact S_2 _ (by rfl)
      exact AllReadyIn.nil
    exact S_e _ (by rfl)
  case stop =>
    rintro D c pre W _ _ h _
    exact h.elim
end Go.Proofs.Ytlnfffenahjcnaa
