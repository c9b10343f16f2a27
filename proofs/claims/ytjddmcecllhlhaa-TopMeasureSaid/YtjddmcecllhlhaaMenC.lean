/-
  How long all are that count.
-/
import Derived.Test.YtjddmcecllhlhaaMenB
import Derived.Test.YtjddmcecllhlhaaReaG
namespace Go.Proofs.Ytjddmcecllhlhaa
open Go.RowKit Go.Shelf Flo
attribute [local go_sem] Oper.semAt_some
theorem Try.infoFl : (Try.prog.info? 35).map (fun i => (i.zero, i.size, i.bytes)) = some (some (.float .f64 0), 1, 8) := by kernel_rfl
/-- How long each is. -/
def tmv (x : Ct) : Nat := Go.floatOfInt .f64 x.1.1
def tms (l : List Pt) (a b : Int) : List Nat := (cnt l a b l.length).map tmv
def totX (l : List Pt) (a b : Int) : Option Nat := if rightL l = true then sumX (tms l a b) else some 0
def totE (l : List Pt) : Int := if rightL l = true then 0 else 4
theorem row_ne {W : World} {B : Nat} {cs : Array Value} {t e : TypeId} (h : W.heap[B]? = some (.cells cs t (0, 0))) (hte : t ≠ e) {base size k : Nat} {v : Value} {xs : List Value} (hr : W.ownsRow base e size v k xs) : some B ≠ v.ownBlock := by
  rcases hr.2 with ⟨rfl, _⟩ | ⟨g, cap, cur, rfl, _, hgb, _⟩
  · simp [Value.ownBlock]
  · intro e'
    obtain rfl : B = g := by simpa [Value.ownBlock] using e'
    have := h.symm.trans hgb
    simp at this
    exact hte this.2
theorem block_own {β : Type} (B : Nat) (o : Obj) (ho : o.isCells = true) : Own (fun (_ : β) W => W.heap[B]? = some o) := fun s X Y row hs hg hrow =>
  (hg.block B (Array.getElem?_eq_some_iff.1 hs).1 (fun e => by obtain ⟨o', h1, h2⟩ := hrow B e.symm; rw [hs] at h1; cases h1; rw [ho] at h2; cases h2)).trans hs
/-- Behind an append that is stored into the box BT: a block of another type is as it was. -/
theorem app_other {W w1 : World} {Bs BT : Nat} {cs : Array Value} {t e : TypeId} (h : W.heap[Bs]? = some (.cells cs t (0, 0))) (hte : t ≠ e) {base size k : Nat} {v v' : Value} {xs : List Value} {tmp : Obj} (hr : W.ownsRow base e size v k xs)
    (hg : (W.alloc tmp).grownBy w1 v.ownBlock) (hne : Bs ≠ BT) : (w1.setCell ⟨BT, 0, none⟩ v').heap[Bs]? = some (.cells cs t (0, 0)) := by
  have hlt := (Array.getElem?_eq_some_iff.1 h).1
  exact (Below.heap_setCell _ _ _ _ (fun e => hne e)).trans ((hg.block Bs (by simp; omega) (row_ne h hte hr)).trans ((Below.heap_alloc _ _ _ hlt).trans h))
/-- The sum of what a slice owns. -/
theorem real_Sum_own {w : World} {n0 : Nat} {v : Value} {xs : List Nat} (hr : w.ownsRow n0 35 1 v xs.length (xs.map (Value.float .f64))) (hw : ∀ x ∈ xs, x < 18446744073709551616) : Calls Try.prog 20 #[v] w (GF w (sumX xs)) := by
  by_cases h0 : xs = []
  · subst h0
    rcases hr.2 with ⟨rfl, _⟩ | ⟨g, cap, cur, rfl, _⟩
    · exact real_Sum_nil none 0 w
    · exact real_Sum_nil _ cap w
  · have hpos : 0 < xs.length := List.length_pos_iff.2 h0
    rcases hr.2 with ⟨_, h⟩ | ⟨g, cap, cur, rfl, _, hg, hn, hc, _⟩
    · omega
    · refine real_Sum (b := g) (off := 0) (cap := cap) (l := xs) ⟨hpos, hn, by unfold maxLen at hc; omega, fun k hk => ?_⟩ hw
      rw [Nat.zero_add]
      have := hr.cellAt k (by omega)
      rw [this, List.getElem?_map, List.getElem?_eq_getElem hk]
      rfl
theorem tmv_lt (x : Ct) : tmv x < 18446744073709551616 := by
  unfold tmv
  obtain ⟨r, _, e⟩ := of_int x.1.1
  rw [e]
  exact wd_lt _ _
set_option maxRecDepth 100000 in
set_option maxHeartbeats 2000000 in
theorem mean_Total_y {w : World} {p : Option Addr} {l : List Pt} (cap : Nat) (a b : Int) (h : PtS w p l) (hl : l.length ≤ 6000000000000) (hI : ∀ k, k < l.length → PtI (pt l k)) (hr : rightL l = true) : Calls Try.prog 17 #[.slice p l.length cap, spn a b] w (GFE w (sumX (tms l a b)) 0) := by
  have hR := fun w h => mean_Right (w := w) (p := p) (l := l) cap h (by omega)
  rw [hr] at hR
  have HI := Lib.hid hI
  clear hI hr
  obtain ⟨i0, hi, hz0, hz1, hz2⟩ := info_parts Try.infoFl
  refine (callsIn_wide (n := 9)).1 ?_
  refine callsIn_of_wp_marks Try.func17 rfl trivial ?_ rfl
  simp only [Try.ntmps17, List.size_toArray, List.length_cons, List.length_nil, Nat.reduceAdd, Nat.reduceSub, Array.replicate_succ, Array.replicate_zero, List.push_toArray, List.append_toArray, List.nil_append, List.cons_append]
  gi_wp2_with fail
  refine ⟨trivial, ?_⟩
  have h1 : PtS (w.alloc (.cells #[.int .i64 a, .int .i64 b] 24)) p l := h.below ((Below.refl _ _).alloc (Nat.le_refl _) _)
  refine (callsIn_wide.2 (hR _ h1)).mono ?_
  rintro e u ⟨rfl, hb1⟩
  have Bu : Below w.heap.size w u := ((Below.refl _ w).alloc (Nat.le_refl _) _).trans (hb1.mono (by simp))
  have s0 : u.cell? ⟨w.heap.size, 0, none⟩ = some (.int .i64 a) := (hb1.cell (p := ⟨w.heap.size, 0, none⟩) (by simp)).trans (by go_simp)
  have s1 : u.cell? ⟨w.heap.size, 1, none⟩ = some (.int .i64 b) := (hb1.cell (p := ⟨w.heap.size, 1, none⟩) (by simp)).trans (by go_simp)
  have zu : w.heap.size < u.heap.size := Nat.lt_of_lt_of_le (by simp) hb1.size
  have hu := h1.below hb1
  clear hb1 h1 hR
  gi_wp2_with fail
  refine ⟨trivial, ?_⟩
  refine (callsIn_wide.2 (mean_counts _ _ _ _ _ _)).mono ?_
  rintro e w2 ⟨rfl, rfl⟩
  gi_wp2
  have W0sz : (((u.alloc (.cells #[.slice none 0 0] 43)).alloc (.cells #[.slice p l.length cap] 31)).alloc (.cells #[.int .i64 a, .int .i64 b] 24)).heap.size = u.heap.size + 1 + 1 + 1 := by simp
  have bO : Boxed (((u.alloc (.cells #[.slice none 0 0] 43)).alloc (.cells #[.slice p l.length cap] 31)).alloc (.cells #[.int .i64 a, .int .i64 b] 24)) u.heap.size 43 (.slice none 0 0) := ((Boxed.new u _ _).alloc _).alloc _
  have bS : (((u.alloc (.cells #[.slice none 0 0] 43)).alloc (.cells #[.slice p l.length cap] 31)).alloc (.cells #[.int .i64 a, .int .i64 b] 24)).heap[u.heap.size + 1 + 1]? = some (.cells #[.int .i64 a, .int .i64 b] 24 (0, 0)) := by
    have := World.alloc_heap_new ((u.alloc (.cells #[.slice none 0 0] 43)).alloc (.cells #[.slice p l.length cap] 31)) (.cells #[.int .i64 a, .int .i64 b] 24)
    simpa using this
  have c1 : (((u.alloc (.cells #[.slice none 0 0] 43)).alloc (.cells #[.slice p l.length cap] 31)).alloc (.cells #[.int .i64 a, .int .i64 b] 24)).cell? ⟨u.heap.size + 1, 0, none⟩ = some (.slice p l.length cap) := by go_simp
  have c2 : (((u.alloc (.cells #[.slice none 0 0] 43)).alloc (.cells #[.slice p l.length cap] 31)).alloc (.cells #[.int .i64 a, .int .i64 b] 24)).cell? ⟨u.heap.size + 1 + 1, 0, none⟩ = some (.int .i64 a) := by go_simp
  have c3 : (((u.alloc (.cells #[.slice none 0 0] 43)).alloc (.cells #[.slice p l.length cap] 31)).alloc (.cells #[.int .i64 a, .int .i64 b] 24)).cell? ⟨u.heap.size + 1 + 1, 1, none⟩ = some (.int .i64 b) := by go_simp
  have B0 : Below u.heap.size u (((u.alloc (.cells #[.slice none 0 0] 43)).alloc (.cells #[.slice p l.length cap] 31)).alloc (.cells #[.int .i64 a, .int .i64 b] 24)) := (((Below.refl _ u).alloc (Nat.le_refl _) _).alloc (by simp) _).alloc (by simp; omega) _
  have hp : l = [] ∨ ∃ bk off, p = some ⟨bk, off, none⟩ ∧ bk < u.heap.size ∧ PtAt (((u.alloc (.cells #[.slice none 0 0] 43)).alloc (.cells #[.slice p l.length cap] 31)).alloc (.cells #[.int .i64 a, .int .i64 b] 24)) bk off l := by
    rcases hu with h | ⟨bk, off, e, h1, h2⟩
    · exact .inl h
    · exact .inr ⟨bk, off, e, h1, h2.below B0 h1⟩
  generalize (((u.alloc (.cells #[.slice none 0 0] 43)).alloc (.cells #[.slice p l.length cap] 31)).alloc (.cells #[.int .i64 a, .int .i64 b] 24)) = W0 at *
  refine wpIn_rangeFunc_ownG rfl (by omega) (gf := 25) (lb := #[.pointer (some ⟨u.heap.size + 1, 0, none⟩), .pointer (some ⟨u.heap.size + 1 + 1, 0, none⟩)]) rfl trivial (enters_of Try.func25 (by kernel_rfl) rfl)
    (counts_stops (9 - 1) (by omega) (u.heap.size + 1) (u.heap.size + 1 + 1) u.heap.size p cap l a b (by omega) HI.out W0 (by omega) (by omega) (by omega) c1 c2 c3 hp) Kb.t (Kb.b (by omega) (by omega)) (Below.refl _ _) (fun _ => rfl)
    (fun pre W => ((∃ v, Boxed W u.heap.size 43 v ∧ W.ownsRow u.heap.size 35 1 v pre.length ((pre.map tmv).map (Value.float .f64)) ∧ True) ∧ Below u.heap.size u W) ∧ W.heap[u.heap.size + 1 + 1]? = some (.cells #[.int .i64 a, .int .i64 b] 24 (0, 0)))
    (fun _ _ _ => False)
    (OwnFrom.and (OwnFrom.and (Own.from (holdsRow_own u.heap.size u.heap.size 43 35 1 (fun pre : List Ct => pre.length) (fun pre : List Ct => (pre.map tmv).map (Value.float .f64)) (fun _ _ => True)) _) (ownFrom_below (Nat.le_refl _) (by omega))) (Own.from (block_own _ _ rfl) _))
    (fun _ _ _ _ _ hs _ _ => hs)
    ⟨⟨⟨_, bO, World.ownsRow_nil _ _ _ _, trivial⟩, B0⟩, bS⟩
    (fun x => { tmps := #[.slice p l.length cap, spn a b, undef, .pointer (some ⟨w.heap.size, 0, none⟩), .float .f64 0, .int .i64 0, .pointer (some ⟨u.heap.size, 0, none⟩), .float .f64 (Go.floatOfInt .f64 x.1.1), .slice p l.length cap, .bool true, .bool false, .slice p l.length cap, .agg #[.int .i64 a, .int .i64 b],
      .func (.func 25) #[] #[.pointer (some ⟨u.heap.size + 1, 0, none⟩), .pointer (some ⟨u.heap.size + 1 + 1, 0, none⟩)], .float .f64 (Go.floatOfInt .f64 x.1.1), .int .i64 x.1.2, undef, undef, undef, undef, undef, undef], defers := [] }) ?assign ?body ?done ?stop
  case assign =>
    intro lp x W K hK
    unfold ctEnc
    gi_wp2
    exact hK
  case body =>
    rintro lp pre x W ⟨⟨⟨v, hv, hrow, _⟩, hB⟩, hS⟩ hlt
    have hc := hv.cell
    gi_wp2_with (gi_at_builtin; refine wpListIn_append_own _ rfl _ _ 43 rfl u.heap.size 35 i0 (.float .f64 0) 1 8 Try.underlying43 hi hz0 hz1 hz2 rfl (by decide) _ _ _ rfl (hrow.alloc _) ⟨W.heap.size, 0, none⟩ 1 1 [.float .f64 (Go.floatOfInt .f64 x.1.1)] rfl rfl (cell_one_new _ _ _) (by simp [Value.oneCell']) (by unfold maxLen; omega) (by omega) (by have := hB.size; simp; omega) ?_; intro v' w1 hown' hgrow _; obtain ⟨g', cap', rfl⟩ := ownsRow_succ hown'; obtain ⟨hv1, hv2, hr2, hk2, hb2⟩ := hv.appended (by decide) hrow hB.size (Nat.le_refl _) hown' hgrow; have hS2 := app_other (v' := .slice (some ⟨g', 0, none⟩) (pre.length + 1) cap') hS (by decide) hrow hgrow (BT := u.heap.size) (by omega); have hc1 := hv1.cell; have hf1 := hv1.frozen)
    exact ⟨hk2.from _, ⟨hb2, hS2.trans hS.symm⟩, ⟨⟨_, hv2, by simpa [tmv] using hr2, trivial⟩, hB.trans hb2⟩, hS2⟩
  case done =>
    rintro D ys W hD rfl ⟨⟨⟨v, hv, hrow, _⟩, hB⟩, _⟩ hK
    have hc := hv.cell
    have hrow' : W.ownsRow u.heap.size 35 1 v (tms l a b).length ((tms l a b).map (Value.float .f64)) := by
      unfold tms
      rw [List.length_map]
      exact hrow
    have hsum := real_Sum_own hrow' (fun x hx => by unfold tms at hx; obtain ⟨c, _, rfl⟩ := List.mem_map.1 hx; exact tmv_lt c)
    gi_wp2_with fail
    refine ⟨trivial, ?_⟩
    refine (callsIn_wide.2 hsum).mono ?_
    rintro e w3 ⟨x, rfl, hx, hb3⟩
    have hK3 : w3.heap[D]? = some (.deferred (some [])) := (hb3.block D (Array.getElem?_eq_some_iff.1 hK).1).trans hK
    gi_wp2
    refine ⟨by simp, .inl ⟨_, _, rfl, run_takeDeferred hK3, ?_⟩⟩
    exact ⟨_, results_tmp2 rfl _ _ _, x, rfl, hx, Bu.trans (((hB.mono (by omega)).trans (hb3.mono (by have := hB.size; omega))).trans (belowK_b (w := w) (Nat.le_refl _) w3 D _ _ (by omega) hK3 rfl rfl))⟩
  case stop =>
    rintro D c pre W _ _ h _
    exact h.elim
theorem mean_Total {w : World} {p : Option Addr} {l : List Pt} (cap : Nat) (a b : Int) (h : PtS w p l) (hl : l.length ≤ 6000000000000) (hI : ∀ k, k < l.length → PtI (pt l k)) : Calls Try.prog 17 #[.slice p l.length cap, spn a b] w (GFE w (totX l a b) (totE l)) := by
  unfold totX totE
  cases hr : rightL l
  · have hR := fun w h => mean_Right (w := w) (p := p) (l := l) cap h (by omega)
    rw [hr] at hR
    have h1 : PtS (w.alloc (.cells #[.int .i64 a, .int .i64 b] 24)) p l := h.below ((Below.refl _ _).alloc (Nat.le_refl _) _)
    clear hI hr
    go_enter Try.func17, Try.ntmps17
    go_wp2_with fail
    refine (hR _ h1).mono ?_
    rintro e w1 ⟨rfl, hb⟩
    go_wp2_with fail
    go_ret2
    exact ⟨0, rfl, Lib.hid ⟨by decide, by decide⟩, ((Below.refl _ w).alloc (Nat.le_refl _) _).trans (hb.mono (by simp))⟩
  · simpa using mean_Total_y cap a b h hl hI hr
end Go.Proofs.Ytjddmcecllhlhaa
