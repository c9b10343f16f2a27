/-
  The mean.
-/
import Derived.Test.YtjddmcecllhlhaaMenC
import Derived.Test.YtjddmcecllhlhaaMeaG
namespace Go.Proofs.Ytjddmcecllhlhaa
open Go.RowKit Go.Shelf Flo
attribute [local go_sem] Oper.semAt_some
theorem int_fin {n : Int} (h0 : -18446744073709551616 ≤ n) (h1 : n ≤ 18446744073709551616) : fin (Go.floatOfInt .f64 n) = true := by
  have hU := U_big
  have e0 : -18446744073709551616 * (U : Int) ≤ n * U := Int.mul_le_mul_of_nonneg_right h0 (by omega)
  have e1 : n * (U : Int) ≤ 18446744073709551616 * U := Int.mul_le_mul_of_nonneg_right h1 (by omega)
  exact ((int_rnd n).close (y := 18446744073709551616 * U) (by omega) (big_ok (mul_le_one (Int.le_refl _)) (by omega))).1
/-- A value times its time. -/
def vlv (x : Ct) : Nat := (Go.floatBits .mul .f64 (Go.floatOfInt .f64 x.1.2) (Go.floatOfInt .f64 x.1.1)).getD 0
def vls (l : List Pt) (a b : Int) : List Nat := (cnt l a b l.length).map vlv
def meanX (l : List Pt) (a b : Int) : Option Nat := if rightL l = true then fop .quo (sumX (vls l a b)) (sumX (tms l a b)) else some 0
theorem vlv_run (x : Ct) : Go.floatBits .mul .f64 (Go.floatOfInt .f64 x.1.2) (Go.floatOfInt .f64 x.1.1) = some (vlv x) := by
  have h := x.2
  unfold I64 at h
  obtain ⟨r, e, _⟩ := mul_rnd (int_fin (n := x.1.2) (by omega) (by omega)) (int_fin (n := x.1.1) (by omega) (by omega))
  unfold vlv
  rw [e]
  rfl
theorem vlv_lt (x : Ct) : vlv x < 18446744073709551616 := (bits_word (vlv_run x)).2
/-- An append, inside a region. -/
theorem append_op {F : Fence} {n : Nat} {P : Program} {w w' : World} {o : Oper} {a : Act} {K : Act → World → Prop} {Q : Exit → Act → World → Prop} {s x : Operand} {t : TypeId} {u v v' : Value} (hop : o.op = Op.call { callee := Callee.builtin Builtin.append, args := #[s, x], argTypes := #[t, t] })
    (hrun : (Builtin.append_ #[t, t] o.type #[v, u]).run P w = .ok v' w') (hs : a.eval s = v) (hx : a.eval x = u) (hK : K (a.put o.dst v') w') : Oper.wpIn F n P o a w K Q := by
  unfold Oper.wpIn
  refine ⟨?_, ?_⟩
  · simp [Oper.about, hop, resolve, Target.leads, Sem.run_pure]
  · rw [Oper.semAt_plain F _ _ (by rw [hop]; intro c hc'; cases hc')]
    simp [execOp, hop, resolve, invoke, builtin, hs, hx, hrun, Result.andThen]
    exact hK
set_option maxRecDepth 100000 in
set_option maxHeartbeats 4000000 in
theorem mean_Mean_y {w : World} {p : Option Addr} {l : List Pt} (cap : Nat) (a b : Int) (h : PtS w p l) (hl : l.length ≤ 6000000000000) (hI : ∀ k, k < l.length → PtI (pt l k)) (hr : rightL l = true) : Calls Try.prog 9 #[.slice p l.length cap, spn a b] w (GFE w (fop .quo (sumX (vls l a b)) (sumX (tms l a b))) 0) := by
  have hR := fun w h => mean_Total (w := w) (p := p) (l := l) cap a b h hl hI
  rw [show totX l a b = sumX (tms l a b) by unfold totX; rw [if_pos hr], show totE l = 0 by unfold totE; rw [if_pos hr]] at hR
  have HI := Lib.hid hI
  clear hI hr
  obtain ⟨i0, hi, hz0, hz1, hz2⟩ := info_parts Try.infoFl
  refine (callsIn_wide (n := 9)).1 ?_
  refine callsIn_of_wp_marks Try.func9 rfl trivial ?_ rfl
  simp only [Try.ntmps9, List.size_toArray, List.length_cons, List.length_nil, Nat.reduceAdd, Nat.reduceSub, Array.replicate_succ, Array.replicate_zero, List.push_toArray, List.append_toArray, List.nil_append, List.cons_append]
  gi_wp2_with fail
  refine ⟨trivial, ?_⟩
  have h1 : PtS (w.alloc (.cells #[.int .i64 a, .int .i64 b] 24)) p l := h.below ((Below.refl _ _).alloc (Nat.le_refl _) _)
  refine (callsIn_wide.2 (hR _ h1)).mono ?_
  rintro e u ⟨tx, rfl, htx, hb1⟩
  have Bu : Below w.heap.size w u := ((Below.refl _ w).alloc (Nat.le_refl _) _).trans (hb1.mono (by simp))
  have s0 : u.cell? ⟨w.heap.size, 0, none⟩ = some (.int .i64 a) := (hb1.cell (p := ⟨w.heap.size, 0, none⟩) (by simp)).trans (by go_simp)
  have s1 : u.cell? ⟨w.heap.size, 1, none⟩ = some (.int .i64 b) := (hb1.cell (p := ⟨w.heap.size, 1, none⟩) (by simp)).trans (by go_simp)
  have zu : w.heap.size < u.heap.size := Nat.lt_of_lt_of_le (by simp) hb1.size
  have hu := h1.below hb1
  clear hb1 h1 hR
  gi_wp2_with fail
  refine ⟨trivial, ?_⟩
  refine (callsIn_wide.2 (mean_counts _ _ _ _ _ _)).mono ?_
  rintro e w2 ⟨rfl, rfl⟩
  gi_wp2
  have W0sz : (((u.alloc (.cells #[.slice none 0 0] 43)).alloc (.cells #[.slice p l.length cap] 31)).alloc (.cells #[.int .i64 a, .int .i64 b] 24)).heap.size = u.heap.size + 1 + 1 + 1 := by simp
  have bO : Boxed (((u.alloc (.cells #[.slice none 0 0] 43)).alloc (.cells #[.slice p l.length cap] 31)).alloc (.cells #[.int .i64 a, .int .i64 b] 24)) u.heap.size 43 (.slice none 0 0) := ((Boxed.new u _ _).alloc _).alloc _
  have bS : (((u.alloc (.cells #[.slice none 0 0] 43)).alloc (.cells #[.slice p l.length cap] 31)).alloc (.cells #[.int .i64 a, .int .i64 b] 24)).heap[u.heap.size + 1 + 1]? = some (.cells #[.int .i64 a, .int .i64 b] 24 (0, 0)) := by
    have := World.alloc_heap_new ((u.alloc (.cells #[.slice none 0 0] 43)).alloc (.cells #[.slice p l.length cap] 31)) (.cells #[.int .i64 a, .int .i64 b] 24)
    simpa using this
  have c1 : (((u.alloc (.cells #[.slice none 0 0] 43)).alloc (.cells #[.slice p l.length cap] 31)).alloc (.cells #[.int .i64 a, .int .i64 b] 24)).cell? ⟨u.heap.size + 1, 0, none⟩ = some (.slice p l.length cap) := by go_simp
  have c2 : (((u.alloc (.cells #[.slice none 0 0] 43)).alloc (.cells #[.slice p l.length cap] 31)).alloc (.cells #[.int .i64 a, .int .i64 b] 24)).cell? ⟨u.heap.size + 1 + 1, 0, none⟩ = some (.int .i64 a) := by go_simp
  have c3 : (((u.alloc (.cells #[.slice none 0 0] 43)).alloc (.cells #[.slice p l.length cap] 31)).alloc (.cells #[.int .i64 a, .int .i64 b] 24)).cell? ⟨u.heap.size + 1 + 1, 1, none⟩ = some (.int .i64 b) := by go_simp
  have B0 : Below u.heap.size u (((u.alloc (.cells #[.slice none 0 0] 43)).alloc (.cells #[.slice p l.length cap] 31)).alloc (.cells #[.int .i64 a, .int .i64 b] 24)) := (((Below.refl _ u).alloc (Nat.le_refl _) _).alloc (by simp) _).alloc (by simp; omega) _
  have hp : l = [] ∨ ∃ bk off, p = some ⟨bk, off, none⟩ ∧ bk < u.heap.size ∧ PtAt (((u.alloc (.cells #[.slice none 0 0] 43)).alloc (.cells #[.slice p l.length cap] 31)).alloc (.cells #[.int .i64 a, .int .i64 b] 24)) bk off l := by
    rcases hu with h | ⟨bk, off, e, h1, h2⟩
    · exact .inl h
    · exact .inr ⟨bk, off, e, h1, h2.below B0 h1⟩
  generalize (((u.alloc (.cells #[.slice none 0 0] 43)).alloc (.cells #[.slice p l.length cap] 31)).alloc (.cells #[.int .i64 a, .int .i64 b] 24)) = W0 at *
  refine wpIn_rangeFunc_ownG rfl (by omega) (gf := 25) (lb := #[.pointer (some ⟨u.heap.size + 1, 0, none⟩), .pointer (some ⟨u.heap.size + 1 + 1, 0, none⟩)]) rfl trivial (enters_of Try.func25 (by kernel_rfl) rfl)
    (counts_stops (9 - 1) (by omega) (u.heap.size + 1) (u.heap.size + 1 + 1) u.heap.size p cap l a b (by omega) HI.out W0 (by omega) (by omega) (by omega) c1 c2 c3 hp) Kb.t (Kb.b (by omega) (by omega)) (Below.refl _ _) (fun _ => rfl)
    (fun pre W => ((∃ v, Boxed W u.heap.size 43 v ∧ W.ownsRow u.heap.size 35 1 v pre.length ((pre.map vlv).map (Value.float .f64)) ∧ True) ∧ Below u.heap.size u W) ∧ W.heap[u.heap.size + 1 + 1]? = some (.cells #[.int .i64 a, .int .i64 b] 24 (0, 0)))
    (fun _ _ _ => False)
    (OwnFrom.and (OwnFrom.and (Own.from (holdsRow_own u.heap.size u.heap.size 43 35 1 (fun pre : List Ct => pre.length) (fun pre : List Ct => (pre.map vlv).map (Value.float .f64)) (fun _ _ => True)) _) (ownFrom_below (Nat.le_refl _) (by omega))) (Own.from (block_own _ _ rfl) _))
    (fun _ _ _ _ _ hs _ _ => hs)
    ⟨⟨⟨_, bO, World.ownsRow_nil _ _ _ _, trivial⟩, B0⟩, bS⟩
    (fun x => { tmps := #[.slice p l.length cap, spn a b, undef, .pointer (some ⟨w.heap.size, 0, none⟩), .float .f64 0, .int .i64 0, .float .f64 tx, .int .i64 0, .pointer (some ⟨u.heap.size, 0, none⟩), .float .f64 (Go.floatOfInt .f64 x.1.1), .int .i64 x.1.2,
      .tuple #[.float .f64 tx, .int .i64 0], .slice p l.length cap, .agg #[.int .i64 a, .int .i64 b], .tuple #[.float .f64 tx, .int .i64 0], .float .f64 tx, .int .i64 0, .int .i64 0, .bool false, undef, .slice p l.length cap, .agg #[.int .i64 a, .int .i64 b],
      .func (.func 25) #[] #[.pointer (some ⟨u.heap.size + 1, 0, none⟩), .pointer (some ⟨u.heap.size + 1 + 1, 0, none⟩)], .float .f64 (Go.floatOfInt .f64 x.1.1), .int .i64 x.1.2, undef, undef, undef, undef, undef, undef, undef, undef, undef, undef, undef], defers := [] }) ?assign ?body ?done ?stop
  case assign =>
    intro lp x W K hK
    unfold ctEnc
    gi_wp2
    exact hK
  case body =>
    rintro lp pre x W ⟨⟨⟨v, hv, hrow, _⟩, hB⟩, hS⟩ hlt
    have hv' : Boxed W.drew u.heap.size 43 v := hv
    have hrow' : W.drew.ownsRow u.heap.size 35 1 v pre.length ((pre.map vlv).map (Value.float .f64)) := hrow
    have hS' : W.drew.heap[u.heap.size + 1 + 1]? = some (.cells #[.int .i64 a, .int .i64 b] 24 (0, 0)) := hS
    have hc := hv'.cell
    have hc2 := (hv'.alloc (.cells #[.float .f64 (vlv x)] 35)).cell
    have hc3 : (W.alloc (.cells #[.float .f64 (vlv x)] 35)).drew.cell? ⟨u.heap.size, 0, none⟩ = some v := hc2
    have hm := fun w => run_float_arith (P := Try.prog) w .mul 35 .f64 _ _ _ (vlv_run x)
    have hmx : Try.prog.follows .mixedOrders = true := by kernel_rfl
    obtain ⟨v', w1, hrun, hown', hgrow, hnil⟩ := run_append_own (P := Try.prog) (w := W.drew.alloc (.cells #[.float .f64 (vlv x)] 35)) u.heap.size 43 43 35 i0 (.float .f64 0) 1 8 Try.underlying43 hi hz0 hz1 hz2 rfl (by decide) v pre.length _ (hrow'.alloc _) ⟨W.heap.size, 0, none⟩ 1 1 [.float .f64 (vlv x)] rfl (cell_one_new _ _ _) (by simp [Value.oneCell']) (by unfold maxLen; omega) (by omega) (by have := hB.size; simp; omega)
    obtain ⟨g', cap', rfl⟩ := ownsRow_succ hown'
    obtain ⟨hv1, hv2, hr2, hk2, hb2⟩ := hv'.appended (by decide) hrow' hB.size (Nat.le_refl _) hown' hgrow
    have hS2 := app_other (v' := .slice (some ⟨g', 0, none⟩) (pre.length + 1) cap') hS' (by decide) hrow' hgrow (BT := u.heap.size) (by omega)
    have hc1 := hv1.cell
    have hf1 := hv1.frozen
    gi_wp2_with fail
    refine wpIn_region_any (by assumption) ?_
    try (change wpAnyIn _ _ _ _ _ _ _ _ _ (World.drew _))
    refine wpAnyIn_ready (rs := [0, 1, 3]) (by kernel_rfl) (by simp) ?_
    refine AllReadyIn.cons rfl (fun K hK => ?_) ?_
    · skip
      go_simp
      refine hK _ _ ?_
      clear hK K
      refine wpAnyIn_ready (rs := [1, 3]) (by kernel_rfl) (by simp) ?_
      refine AllReadyIn.cons rfl (fun K hK => ?_) ?_
      · skip
        go_simp
        refine hK _ _ ?_
        clear hK K
        refine wpAnyIn_ready (rs := [2, 3]) (by kernel_rfl) (by simp) ?_
        refine AllReadyIn.cons rfl (fun K hK => ?_) ?_
        · skip
          go_simp
          gi_wp2_with (refine ⟨trivial, ?_⟩; gi_at_call 19; refine (CallsIn.inRound lp (callsIn_wide.2 (real_Of _ _))).mono ?_; rintro e w2 ⟨rfl, rfl⟩)
          refine wpAnyIn_ready (rs := [3]) (by kernel_rfl) (by simp) ?_
          refine AllReadyIn.cons rfl (fun K hK => ?_) ?_
          · skip
            go_simp
            refine hK _ _ ?_
            clear hK K
            refine wpAnyIn_ready (rs := [4]) (by kernel_rfl) (by simp) ?_
            refine AllReadyIn.cons rfl (fun K hK => ?_) ?_
            · skip
              go_simp
              refine hK _ _ ?_
              clear hK K
              refine wpAnyIn_ready (rs := [5]) (by kernel_rfl) (by simp) ?_
              refine AllReadyIn.cons rfl (fun K hK => ?_) ?_
              · skip
                go_simp
                refine hK _ _ ?_
                clear hK K
                refine wpAnyIn_ready (rs := [6]) (by kernel_rfl) (by simp) ?_
                refine AllReadyIn.cons rfl (fun K hK => ?_) ?_
                · skip
                  rw [if_pos (show Region.wanted _ _ = true from rfl)]
                  refine append_op rfl hrun rfl rfl ?_
                  refine hK _ _ ?_
                  clear hK K
                  refine wpAnyIn_ready (rs := [7]) (by kernel_rfl) (by simp) ?_
                  refine AllReadyIn.cons rfl (fun K hK => ?_) ?_
                  · skip
                    go_simp
                    refine hK _ _ ?_
                    clear hK K
                    refine wpAnyIn_done (by kernel_rfl) ?_ _
                    gi_wp2
                    exact ⟨((KeepsOthers.drew W).trans hk2).from _, ⟨(Below.refl _ W).drew.trans hb2, hS2.trans hS.symm⟩, ⟨⟨_, hv2, by simpa using hr2, trivial⟩, hB.trans ((Below.refl _ W).drew.trans hb2)⟩, hS2⟩
                  exact AllReadyIn.nil
                exact AllReadyIn.nil
              exact AllReadyIn.nil
            exact AllReadyIn.nil
          exact AllReadyIn.nil
        refine AllReadyIn.cons rfl (fun K hK => ?_) ?_
        · skip
          go_simp
          refine hK _ _ ?_
          clear hK K
          refine wpAnyIn_ready (rs := [2]) (by kernel_rfl) (by simp) ?_
          refine AllReadyIn.cons rfl (fun K hK => ?_) ?_
          · skip
            go_simp
            gi_wp2_with (refine ⟨trivial, ?_⟩; gi_at_call 19; refine (CallsIn.inRound lp (callsIn_wide.2 (real_Of _ _))).mono ?_; rintro e w2 ⟨rfl, rfl⟩)
            refine wpAnyIn_ready (rs := [4]) (by kernel_rfl) (by simp) ?_
            refine AllReadyIn.cons rfl (fun K hK => ?_) ?_
            · skip
              go_simp
              refine hK _ _ ?_
              clear hK K
              refine wpAnyIn_ready (rs := [5]) (by kernel_rfl) (by simp) ?_
              refine AllReadyIn.cons rfl (fun K hK => ?_) ?_
              · skip
                go_simp
                refine hK _ _ ?_
                clear hK K
                refine wpAnyIn_ready (rs := [6]) (by kernel_rfl) (by simp) ?_
                refine AllReadyIn.cons rfl (fun K hK => ?_) ?_
                · skip
                  rw [if_pos (show Region.wanted _ _ = true from rfl)]
                  refine append_op rfl hrun rfl rfl ?_
                  refine hK _ _ ?_
                  clear hK K
                  refine wpAnyIn_ready (rs := [7]) (by kernel_rfl) (by simp) ?_
                  refine AllReadyIn.cons rfl (fun K hK => ?_) ?_
                  · skip
                    go_simp
                    refine hK _ _ ?_
                    clear hK K
                    refine wpAnyIn_done (by kernel_rfl) ?_ _
                    gi_wp2
                    exact ⟨((KeepsOthers.drew W).trans hk2).from _, ⟨(Below.refl _ W).drew.trans hb2, hS2.trans hS.symm⟩, ⟨⟨_, hv2, by simpa using hr2, trivial⟩, hB.trans ((Below.refl _ W).drew.trans hb2)⟩, hS2⟩
                  exact AllReadyIn.nil
                exact AllReadyIn.nil
              exact AllReadyIn.nil
            exact AllReadyIn.nil
          exact AllReadyIn.nil
        exact AllReadyIn.nil
      refine AllReadyIn.cons rfl (fun K hK => ?_) ?_
      · skip
        go_simp
        refine hK _ _ ?_
        clear hK K
        refine wpAnyIn_ready (rs := [1]) (by kernel_rfl) (by simp) ?_
        refine AllReadyIn.cons rfl (fun K hK => ?_) ?_
        · skip
          go_simp
          refine hK _ _ ?_
          clear hK K
          refine wpAnyIn_ready (rs := [2]) (by kernel_rfl) (by simp) ?_
          refine AllReadyIn.cons rfl (fun K hK => ?_) ?_
          · skip
            go_simp
            gi_wp2_with (refine ⟨trivial, ?_⟩; gi_at_call 19; refine (CallsIn.inRound lp (callsIn_wide.2 (real_Of _ _))).mono ?_; rintro e w2 ⟨rfl, rfl⟩)
            refine wpAnyIn_ready (rs := [4]) (by kernel_rfl) (by simp) ?_
            refine AllReadyIn.cons rfl (fun K hK => ?_) ?_
            · skip
              go_simp
              refine hK _ _ ?_
              clear hK K
              refine wpAnyIn_ready (rs := [5]) (by kernel_rfl) (by simp) ?_
              refine AllReadyIn.cons rfl (fun K hK => ?_) ?_
              · skip
                go_simp
                refine hK _ _ ?_
                clear hK K
                refine wpAnyIn_ready (rs := [6]) (by kernel_rfl) (by simp) ?_
                refine AllReadyIn.cons rfl (fun K hK => ?_) ?_
                · skip
                  rw [if_pos (show Region.wanted _ _ = true from rfl)]
                  refine append_op rfl hrun rfl rfl ?_
                  refine hK _ _ ?_
                  clear hK K
                  refine wpAnyIn_ready (rs := [7]) (by kernel_rfl) (by simp) ?_
                  refine AllReadyIn.cons rfl (fun K hK => ?_) ?_
                  · skip
                    go_simp
                    refine hK _ _ ?_
                    clear hK K
                    refine wpAnyIn_done (by kernel_rfl) ?_ _
                    gi_wp2
                    exact ⟨((KeepsOthers.drew W).trans hk2).from _, ⟨(Below.refl _ W).drew.trans hb2, hS2.trans hS.symm⟩, ⟨⟨_, hv2, by simpa using hr2, trivial⟩, hB.trans ((Below.refl _ W).drew.trans hb2)⟩, hS2⟩
                  exact AllReadyIn.nil
                exact AllReadyIn.nil
              exact AllReadyIn.nil
            exact AllReadyIn.nil
          exact AllReadyIn.nil
        exact AllReadyIn.nil
      exact AllReadyIn.nil
    refine AllReadyIn.cons rfl (fun K hK => ?_) ?_
    · skip
      go_simp
      refine hK _ _ ?_
      clear hK K
      refine wpAnyIn_ready (rs := [0, 2, 3]) (by kernel_rfl) (by simp) ?_
      refine AllReadyIn.cons rfl (fun K hK => ?_) ?_
      · skip
        go_simp
        refine hK _ _ ?_
        clear hK K
        refine wpAnyIn_ready (rs := [2, 3]) (by kernel_rfl) (by simp) ?_
        refine AllReadyIn.cons rfl (fun K hK => ?_) ?_
        · skip
          go_simp
          gi_wp2_with (refine ⟨trivial, ?_⟩; gi_at_call 19; refine (CallsIn.inRound lp (callsIn_wide.2 (real_Of _ _))).mono ?_; rintro e w2 ⟨rfl, rfl⟩)
          refine wpAnyIn_ready (rs := [3]) (by kernel_rfl) (by simp) ?_
          refine AllReadyIn.cons rfl (fun K hK => ?_) ?_
          · skip
            go_simp
            refine hK _ _ ?_
            clear hK K
            refine wpAnyIn_ready (rs := [4]) (by kernel_rfl) (by simp) ?_
            refine AllReadyIn.cons rfl (fun K hK => ?_) ?_
            · skip
              go_simp
              refine hK _ _ ?_
              clear hK K
              refine wpAnyIn_ready (rs := [5]) (by kernel_rfl) (by simp) ?_
              refine AllReadyIn.cons rfl (fun K hK => ?_) ?_
              · skip
                go_simp
                refine hK _ _ ?_
                clear hK K
                refine wpAnyIn_ready (rs := [6]) (by kernel_rfl) (by simp) ?_
                refine AllReadyIn.cons rfl (fun K hK => ?_) ?_
                · skip
                  rw [if_pos (show Region.wanted _ _ = true from rfl)]
                  refine append_op rfl hrun rfl rfl ?_
                  refine hK _ _ ?_
                  clear hK K
                  refine wpAnyIn_ready (rs := [7]) (by kernel_rfl) (by simp) ?_
                  refine AllReadyIn.cons rfl (fun K hK => ?_) ?_
                  · skip
                    go_simp
                    refine hK _ _ ?_
                    clear hK K
                    refine wpAnyIn_done (by kernel_rfl) ?_ _
                    gi_wp2
                    exact ⟨((KeepsOthers.drew W).trans hk2).from _, ⟨(Below.refl _ W).drew.trans hb2, hS2.trans hS.symm⟩, ⟨⟨_, hv2, by simpa using hr2, trivial⟩, hB.trans ((Below.refl _ W).drew.trans hb2)⟩, hS2⟩
                  exact AllReadyIn.nil
                exact AllReadyIn.nil
              exact AllReadyIn.nil
            exact AllReadyIn.nil
          exact AllReadyIn.nil
        refine AllReadyIn.cons rfl (fun K hK => ?_) ?_
        · skip
          go_simp
          refine hK _ _ ?_
          clear hK K
          refine wpAnyIn_ready (rs := [2]) (by kernel_rfl) (by simp) ?_
          refine AllReadyIn.cons rfl (fun K hK => ?_) ?_
          · skip
            go_simp
            gi_wp2_with (refine ⟨trivial, ?_⟩; gi_at_call 19; refine (CallsIn.inRound lp (callsIn_wide.2 (real_Of _ _))).mono ?_; rintro e w2 ⟨rfl, rfl⟩)
            refine wpAnyIn_ready (rs := [4]) (by kernel_rfl) (by simp) ?_
            refine AllReadyIn.cons rfl (fun K hK => ?_) ?_
            · skip
              go_simp
              refine hK _ _ ?_
              clear hK K
              refine wpAnyIn_ready (rs := [5]) (by kernel_rfl) (by simp) ?_
              refine AllReadyIn.cons rfl (fun K hK => ?_) ?_
              · skip
                go_simp
                refine hK _ _ ?_
                clear hK K
                refine wpAnyIn_ready (rs := [6]) (by kernel_rfl) (by simp) ?_
                refine AllReadyIn.cons rfl (fun K hK => ?_) ?_
                · skip
                  rw [if_pos (show Region.wanted _ _ = true from rfl)]
                  refine append_op rfl hrun rfl rfl ?_
                  refine hK _ _ ?_
                  clear hK K
                  refine wpAnyIn_ready (rs := [7]) (by kernel_rfl) (by simp) ?_
                  refine AllReadyIn.cons rfl (fun K hK => ?_) ?_
                  · skip
                    go_simp
                    refine hK _ _ ?_
                    clear hK K
                    refine wpAnyIn_done (by kernel_rfl) ?_ _
                    gi_wp2
                    exact ⟨((KeepsOthers.drew W).trans hk2).from _, ⟨(Below.refl _ W).drew.trans hb2, hS2.trans hS.symm⟩, ⟨⟨_, hv2, by simpa using hr2, trivial⟩, hB.trans ((Below.refl _ W).drew.trans hb2)⟩, hS2⟩
                  exact AllReadyIn.nil
                exact AllReadyIn.nil
              exact AllReadyIn.nil
            exact AllReadyIn.nil
          exact AllReadyIn.nil
        exact AllReadyIn.nil
      refine AllReadyIn.cons rfl (fun K hK => ?_) ?_
      · skip
        go_simp
        gi_wp2_with (refine ⟨trivial, ?_⟩; gi_at_call 19; refine (CallsIn.inRound lp (callsIn_wide.2 (real_Of _ _))).mono ?_; rintro e w2 ⟨rfl, rfl⟩)
        refine wpAnyIn_ready (rs := [0, 3]) (by kernel_rfl) (by simp) ?_
        refine AllReadyIn.cons rfl (fun K hK => ?_) ?_
        · skip
          go_simp
          refine hK _ _ ?_
          clear hK K
          refine wpAnyIn_ready (rs := [3]) (by kernel_rfl) (by simp) ?_
          refine AllReadyIn.cons rfl (fun K hK => ?_) ?_
          · skip
            go_simp
            refine hK _ _ ?_
            clear hK K
            refine wpAnyIn_ready (rs := [4]) (by kernel_rfl) (by simp) ?_
            refine AllReadyIn.cons rfl (fun K hK => ?_) ?_
            · skip
              go_simp
              refine hK _ _ ?_
              clear hK K
              refine wpAnyIn_ready (rs := [5]) (by kernel_rfl) (by simp) ?_
              refine AllReadyIn.cons rfl (fun K hK => ?_) ?_
              · skip
                go_simp
                refine hK _ _ ?_
                clear hK K
                refine wpAnyIn_ready (rs := [6]) (by kernel_rfl) (by simp) ?_
                refine AllReadyIn.cons rfl (fun K hK => ?_) ?_
                · skip
                  rw [if_pos (show Region.wanted _ _ = true from rfl)]
                  refine append_op rfl hrun rfl rfl ?_
                  refine hK _ _ ?_
                  clear hK K
                  refine wpAnyIn_ready (rs := [7]) (by kernel_rfl) (by simp) ?_
                  refine AllReadyIn.cons rfl (fun K hK => ?_) ?_
                  · skip
                    go_simp
                    refine hK _ _ ?_
                    clear hK K
                    refine wpAnyIn_done (by kernel_rfl) ?_ _
                    gi_wp2
                    exact ⟨((KeepsOthers.drew W).trans hk2).from _, ⟨(Below.refl _ W).drew.trans hb2, hS2.trans hS.symm⟩, ⟨⟨_, hv2, by simpa using hr2, trivial⟩, hB.trans ((Below.refl _ W).drew.trans hb2)⟩, hS2⟩
                  exact AllReadyIn.nil
                exact AllReadyIn.nil
              exact AllReadyIn.nil
            exact AllReadyIn.nil
          exact AllReadyIn.nil
        refine AllReadyIn.cons rfl (fun K hK => ?_) ?_
        · skip
          go_simp
          refine hK _ _ ?_
          clear hK K
          refine wpAnyIn_ready (rs := [0, 4]) (by kernel_rfl) (by simp) ?_
          refine AllReadyIn.cons rfl (fun K hK => ?_) ?_
          · skip
            go_simp
            refine hK _ _ ?_
            clear hK K
            refine wpAnyIn_ready (rs := [4]) (by kernel_rfl) (by simp) ?_
            refine AllReadyIn.cons rfl (fun K hK => ?_) ?_
            · skip
              go_simp
              refine hK _ _ ?_
              clear hK K
              refine wpAnyIn_ready (rs := [5]) (by kernel_rfl) (by simp) ?_
              refine AllReadyIn.cons rfl (fun K hK => ?_) ?_
              · skip
                go_simp
                refine hK _ _ ?_
                clear hK K
                refine wpAnyIn_ready (rs := [6]) (by kernel_rfl) (by simp) ?_
                refine AllReadyIn.cons rfl (fun K hK => ?_) ?_
                · skip
                  rw [if_pos (show Region.wanted _ _ = true from rfl)]
                  refine append_op rfl hrun rfl rfl ?_
                  refine hK _ _ ?_
                  clear hK K
                  refine wpAnyIn_ready (rs := [7]) (by kernel_rfl) (by simp) ?_
                  refine AllReadyIn.cons rfl (fun K hK => ?_) ?_
                  · skip
                    go_simp
                    refine hK _ _ ?_
                    clear hK K
                    refine wpAnyIn_done (by kernel_rfl) ?_ _
                    gi_wp2
                    exact ⟨((KeepsOthers.drew W).trans hk2).from _, ⟨(Below.refl _ W).drew.trans hb2, hS2.trans hS.symm⟩, ⟨⟨_, hv2, by simpa using hr2, trivial⟩, hB.trans ((Below.refl _ W).drew.trans hb2)⟩, hS2⟩
                  exact AllReadyIn.nil
                exact AllReadyIn.nil
              exact AllReadyIn.nil
            exact AllReadyIn.nil
          refine AllReadyIn.cons rfl (fun K hK => ?_) ?_
          · skip
            go_simp
            refine hK _ _ ?_
            clear hK K
            refine wpAnyIn_ready (rs := [0, 5]) (by kernel_rfl) (by simp) ?_
            refine AllReadyIn.cons rfl (fun K hK => ?_) ?_
            · skip
              go_simp
              refine hK _ _ ?_
              clear hK K
              refine wpAnyIn_ready (rs := [5]) (by kernel_rfl) (by simp) ?_
              refine AllReadyIn.cons rfl (fun K hK => ?_) ?_
              · skip
                go_simp
                refine hK _ _ ?_
                clear hK K
                refine wpAnyIn_ready (rs := [6]) (by kernel_rfl) (by simp) ?_
                refine AllReadyIn.cons rfl (fun K hK => ?_) ?_
                · skip
                  rw [if_pos (show Region.wanted _ _ = true from rfl)]
                  refine append_op rfl hrun rfl rfl ?_
                  refine hK _ _ ?_
                  clear hK K
                  refine wpAnyIn_ready (rs := [7]) (by kernel_rfl) (by simp) ?_
                  refine AllReadyIn.cons rfl (fun K hK => ?_) ?_
                  · skip
                    go_simp
                    refine hK _ _ ?_
                    clear hK K
                    refine wpAnyIn_done (by kernel_rfl) ?_ _
                    gi_wp2
                    exact ⟨((KeepsOthers.drew W).trans hk2).from _, ⟨(Below.refl _ W).drew.trans hb2, hS2.trans hS.symm⟩, ⟨⟨_, hv2, by simpa using hr2, trivial⟩, hB.trans ((Below.refl _ W).drew.trans hb2)⟩, hS2⟩
                  exact AllReadyIn.nil
                exact AllReadyIn.nil
              exact AllReadyIn.nil
            refine AllReadyIn.cons rfl (fun K hK => ?_) ?_
            · skip
              go_simp
              refine hK _ _ ?_
              clear hK K
              refine wpAnyIn_ready (rs := [0]) (by kernel_rfl) (by simp) ?_
              refine AllReadyIn.cons rfl (fun K hK => ?_) ?_
              · skip
                go_simp
                refine hK _ _ ?_
                clear hK K
                refine wpAnyIn_ready (rs := [6]) (by kernel_rfl) (by simp) ?_
                refine AllReadyIn.cons rfl (fun K hK => ?_) ?_
                · skip
                  rw [if_pos (show Region.wanted _ _ = true from rfl)]
                  refine append_op rfl hrun rfl rfl ?_
                  refine hK _ _ ?_
                  clear hK K
                  refine wpAnyIn_ready (rs := [7]) (by kernel_rfl) (by simp) ?_
                  refine AllReadyIn.cons rfl (fun K hK => ?_) ?_
                  · skip
                    go_simp
                    refine hK _ _ ?_
                    clear hK K
                    refine wpAnyIn_done (by kernel_rfl) ?_ _
                    gi_wp2
                    exact ⟨((KeepsOthers.drew W).trans hk2).from _, ⟨(Below.refl _ W).drew.trans hb2, hS2.trans hS.symm⟩, ⟨⟨_, hv2, by simpa using hr2, trivial⟩, hB.trans ((Below.refl _ W).drew.trans hb2)⟩, hS2⟩
                  exact AllReadyIn.nil
                exact AllReadyIn.nil
              exact AllReadyIn.nil
            exact AllReadyIn.nil
          exact AllReadyIn.nil
        exact AllReadyIn.nil
      refine AllReadyIn.cons rfl (fun K hK => ?_) ?_
      · skip
        go_simp
        refine hK _ _ ?_
        clear hK K
        refine wpAnyIn_ready (rs := [0, 2]) (by kernel_rfl) (by simp) ?_
        refine AllReadyIn.cons rfl (fun K hK => ?_) ?_
        · skip
          go_simp
          refine hK _ _ ?_
          clear hK K
          refine wpAnyIn_ready (rs := [2]) (by kernel_rfl) (by simp) ?_
          refine AllReadyIn.cons rfl (fun K hK => ?_) ?_
          · skip
            go_simp
            gi_wp2_with (refine ⟨trivial, ?_⟩; gi_at_call 19; refine (CallsIn.inRound lp (callsIn_wide.2 (real_Of _ _))).mono ?_; rintro e w2 ⟨rfl, rfl⟩)
            refine wpAnyIn_ready (rs := [4]) (by kernel_rfl) (by simp) ?_
            refine AllReadyIn.cons rfl (fun K hK => ?_) ?_
            · skip
              go_simp
              refine hK _ _ ?_
              clear hK K
              refine wpAnyIn_ready (rs := [5]) (by kernel_rfl) (by simp) ?_
              refine AllReadyIn.cons rfl (fun K hK => ?_) ?_
              · skip
                go_simp
                refine hK _ _ ?_
                clear hK K
                refine wpAnyIn_ready (rs := [6]) (by kernel_rfl) (by simp) ?_
                refine AllReadyIn.cons rfl (fun K hK => ?_) ?_
                · skip
                  rw [if_pos (show Region.wanted _ _ = true from rfl)]
                  refine append_op rfl hrun rfl rfl ?_
                  refine hK _ _ ?_
                  clear hK K
                  refine wpAnyIn_ready (rs := [7]) (by kernel_rfl) (by simp) ?_
                  refine AllReadyIn.cons rfl (fun K hK => ?_) ?_
                  · skip
                    go_simp
                    refine hK _ _ ?_
                    clear hK K
                    refine wpAnyIn_done (by kernel_rfl) ?_ _
                    gi_wp2
                    exact ⟨((KeepsOthers.drew W).trans hk2).from _, ⟨(Below.refl _ W).drew.trans hb2, hS2.trans hS.symm⟩, ⟨⟨_, hv2, by simpa using hr2, trivial⟩, hB.trans ((Below.refl _ W).drew.trans hb2)⟩, hS2⟩
                  exact AllReadyIn.nil
                exact AllReadyIn.nil
              exact AllReadyIn.nil
            exact AllReadyIn.nil
          exact AllReadyIn.nil
        refine AllReadyIn.cons rfl (fun K hK => ?_) ?_
        · skip
          go_simp
          gi_wp2_with (refine ⟨trivial, ?_⟩; gi_at_call 19; refine (CallsIn.inRound lp (callsIn_wide.2 (real_Of _ _))).mono ?_; rintro e w2 ⟨rfl, rfl⟩)
          refine wpAnyIn_ready (rs := [0, 4]) (by kernel_rfl) (by simp) ?_
          refine AllReadyIn.cons rfl (fun K hK => ?_) ?_
          · skip
            go_simp
            refine hK _ _ ?_
            clear hK K
            refine wpAnyIn_ready (rs := [4]) (by kernel_rfl) (by simp) ?_
            refine AllReadyIn.cons rfl (fun K hK => ?_) ?_
            · skip
              go_simp
              refine hK _ _ ?_
              clear hK K
              refine wpAnyIn_ready (rs := [5]) (by kernel_rfl) (by simp) ?_
              refine AllReadyIn.cons rfl (fun K hK => ?_) ?_
              · skip
                go_simp
                refine hK _ _ ?_
                clear hK K
                refine wpAnyIn_ready (rs := [6]) (by kernel_rfl) (by simp) ?_
                refine AllReadyIn.cons rfl (fun K hK => ?_) ?_
                · skip
                  rw [if_pos (show Region.wanted _ _ = true from rfl)]
                  refine append_op rfl hrun rfl rfl ?_
                  refine hK _ _ ?_
                  clear hK K
                  refine wpAnyIn_ready (rs := [7]) (by kernel_rfl) (by simp) ?_
                  refine AllReadyIn.cons rfl (fun K hK => ?_) ?_
                  · skip
                    go_simp
                    refine hK _ _ ?_
                    clear hK K
                    refine wpAnyIn_done (by kernel_rfl) ?_ _
                    gi_wp2
                    exact ⟨((KeepsOthers.drew W).trans hk2).from _, ⟨(Below.refl _ W).drew.trans hb2, hS2.trans hS.symm⟩, ⟨⟨_, hv2, by simpa using hr2, trivial⟩, hB.trans ((Below.refl _ W).drew.trans hb2)⟩, hS2⟩
                  exact AllReadyIn.nil
                exact AllReadyIn.nil
              exact AllReadyIn.nil
            exact AllReadyIn.nil
          refine AllReadyIn.cons rfl (fun K hK => ?_) ?_
          · skip
            go_simp
            refine hK _ _ ?_
            clear hK K
            refine wpAnyIn_ready (rs := [0, 5]) (by kernel_rfl) (by simp) ?_
            refine AllReadyIn.cons rfl (fun K hK => ?_) ?_
            · skip
              go_simp
              refine hK _ _ ?_
              clear hK K
              refine wpAnyIn_ready (rs := [5]) (by kernel_rfl) (by simp) ?_
              refine AllReadyIn.cons rfl (fun K hK => ?_) ?_
              · skip
                go_simp
                refine hK _ _ ?_
                clear hK K
                refine wpAnyIn_ready (rs := [6]) (by kernel_rfl) (by simp) ?_
                refine AllReadyIn.cons rfl (fun K hK => ?_) ?_
                · skip
                  rw [if_pos (show Region.wanted _ _ = true from rfl)]
                  refine append_op rfl hrun rfl rfl ?_
                  refine hK _ _ ?_
                  clear hK K
                  refine wpAnyIn_ready (rs := [7]) (by kernel_rfl) (by simp) ?_
                  refine AllReadyIn.cons rfl (fun K hK => ?_) ?_
                  · skip
                    go_simp
                    refine hK _ _ ?_
                    clear hK K
                    refine wpAnyIn_done (by kernel_rfl) ?_ _
                    gi_wp2
                    exact ⟨((KeepsOthers.drew W).trans hk2).from _, ⟨(Below.refl _ W).drew.trans hb2, hS2.trans hS.symm⟩, ⟨⟨_, hv2, by simpa using hr2, trivial⟩, hB.trans ((Below.refl _ W).drew.trans hb2)⟩, hS2⟩
                  exact AllReadyIn.nil
                exact AllReadyIn.nil
              exact AllReadyIn.nil
            refine AllReadyIn.cons rfl (fun K hK => ?_) ?_
            · skip
              go_simp
              refine hK _ _ ?_
              clear hK K
              refine wpAnyIn_ready (rs := [0]) (by kernel_rfl) (by simp) ?_
              refine AllReadyIn.cons rfl (fun K hK => ?_) ?_
              · skip
                go_simp
                refine hK _ _ ?_
                clear hK K
                refine wpAnyIn_ready (rs := [6]) (by kernel_rfl) (by simp) ?_
                refine AllReadyIn.cons rfl (fun K hK => ?_) ?_
                · skip
                  rw [if_pos (show Region.wanted _ _ = true from rfl)]
                  refine append_op rfl hrun rfl rfl ?_
                  refine hK _ _ ?_
                  clear hK K
                  refine wpAnyIn_ready (rs := [7]) (by kernel_rfl) (by simp) ?_
                  refine AllReadyIn.cons rfl (fun K hK => ?_) ?_
                  · skip
                    go_simp
                    refine hK _ _ ?_
                    clear hK K
                    refine wpAnyIn_done (by kernel_rfl) ?_ _
                    gi_wp2
                    exact ⟨((KeepsOthers.drew W).trans hk2).from _, ⟨(Below.refl _ W).drew.trans hb2, hS2.trans hS.symm⟩, ⟨⟨_, hv2, by simpa using hr2, trivial⟩, hB.trans ((Below.refl _ W).drew.trans hb2)⟩, hS2⟩
                  exact AllReadyIn.nil
                exact AllReadyIn.nil
              exact AllReadyIn.nil
            exact AllReadyIn.nil
          exact AllReadyIn.nil
        exact AllReadyIn.nil
      exact AllReadyIn.nil
    refine AllReadyIn.cons rfl (fun K hK => ?_) ?_
    · skip
      go_simp
      refine hK _ _ ?_
      clear hK K
      refine wpAnyIn_ready (rs := [0, 1]) (by kernel_rfl) (by simp) ?_
      refine AllReadyIn.cons rfl (fun K hK => ?_) ?_
      · skip
        go_simp
        refine hK _ _ ?_
        clear hK K
        refine wpAnyIn_ready (rs := [1]) (by kernel_rfl) (by simp) ?_
        refine AllReadyIn.cons rfl (fun K hK => ?_) ?_
        · skip
          go_simp
          refine hK _ _ ?_
          clear hK K
          refine wpAnyIn_ready (rs := [2]) (by kernel_rfl) (by simp) ?_
          refine AllReadyIn.cons rfl (fun K hK => ?_) ?_
          · skip
            go_simp
            gi_wp2_with (refine ⟨trivial, ?_⟩; gi_at_call 19; refine (CallsIn.inRound lp (callsIn_wide.2 (real_Of _ _))).mono ?_; rintro e w2 ⟨rfl, rfl⟩)
            refine wpAnyIn_ready (rs := [4]) (by kernel_rfl) (by simp) ?_
            refine AllReadyIn.cons rfl (fun K hK => ?_) ?_
            · skip
              go_simp
              refine hK _ _ ?_
              clear hK K
              refine wpAnyIn_ready (rs := [5]) (by kernel_rfl) (by simp) ?_
              refine AllReadyIn.cons rfl (fun K hK => ?_) ?_
              · skip
                go_simp
                refine hK _ _ ?_
                clear hK K
                refine wpAnyIn_ready (rs := [6]) (by kernel_rfl) (by simp) ?_
                refine AllReadyIn.cons rfl (fun K hK => ?_) ?_
                · skip
                  rw [if_pos (show Region.wanted _ _ = true from rfl)]
                  refine append_op rfl hrun rfl rfl ?_
                  refine hK _ _ ?_
                  clear hK K
                  refine wpAnyIn_ready (rs := [7]) (by kernel_rfl) (by simp) ?_
                  refine AllReadyIn.cons rfl (fun K hK => ?_) ?_
                  · skip
                    go_simp
                    refine hK _ _ ?_
                    clear hK K
                    refine wpAnyIn_done (by kernel_rfl) ?_ _
                    gi_wp2
                    exact ⟨((KeepsOthers.drew W).trans hk2).from _, ⟨(Below.refl _ W).drew.trans hb2, hS2.trans hS.symm⟩, ⟨⟨_, hv2, by simpa using hr2, trivial⟩, hB.trans ((Below.refl _ W).drew.trans hb2)⟩, hS2⟩
                  exact AllReadyIn.nil
                exact AllReadyIn.nil
              exact AllReadyIn.nil
            exact AllReadyIn.nil
          exact AllReadyIn.nil
        exact AllReadyIn.nil
      refine AllReadyIn.cons rfl (fun K hK => ?_) ?_
      · skip
        go_simp
        refine hK _ _ ?_
        clear hK K
        refine wpAnyIn_ready (rs := [0, 2]) (by kernel_rfl) (by simp) ?_
        refine AllReadyIn.cons rfl (fun K hK => ?_) ?_
        · skip
          go_simp
          refine hK _ _ ?_
          clear hK K
          refine wpAnyIn_ready (rs := [2]) (by kernel_rfl) (by simp) ?_
          refine AllReadyIn.cons rfl (fun K hK => ?_) ?_
          · skip
            go_simp
            gi_wp2_with (refine ⟨trivial, ?_⟩; gi_at_call 19; refine (CallsIn.inRound lp (callsIn_wide.2 (real_Of _ _))).mono ?_; rintro e w2 ⟨rfl, rfl⟩)
            refine wpAnyIn_ready (rs := [4]) (by kernel_rfl) (by simp) ?_
            refine AllReadyIn.cons rfl (fun K hK => ?_) ?_
            · skip
              go_simp
              refine hK _ _ ?_
              clear hK K
              refine wpAnyIn_ready (rs := [5]) (by kernel_rfl) (by simp) ?_
              refine AllReadyIn.cons rfl (fun K hK => ?_) ?_
              · skip
                go_simp
                refine hK _ _ ?_
                clear hK K
                refine wpAnyIn_ready (rs := [6]) (by kernel_rfl) (by simp) ?_
                refine AllReadyIn.cons rfl (fun K hK => ?_) ?_
                · skip
                  rw [if_pos (show Region.wanted _ _ = true from rfl)]
                  refine append_op rfl hrun rfl rfl ?_
                  refine hK _ _ ?_
                  clear hK K
                  refine wpAnyIn_ready (rs := [7]) (by kernel_rfl) (by simp) ?_
                  refine AllReadyIn.cons rfl (fun K hK => ?_) ?_
                  · skip
                    go_simp
                    refine hK _ _ ?_
                    clear hK K
                    refine wpAnyIn_done (by kernel_rfl) ?_ _
                    gi_wp2
                    exact ⟨((KeepsOthers.drew W).trans hk2).from _, ⟨(Below.refl _ W).drew.trans hb2, hS2.trans hS.symm⟩, ⟨⟨_, hv2, by simpa using hr2, trivial⟩, hB.trans ((Below.refl _ W).drew.trans hb2)⟩, hS2⟩
                  exact AllReadyIn.nil
                exact AllReadyIn.nil
              exact AllReadyIn.nil
            exact AllReadyIn.nil
          exact AllReadyIn.nil
        refine AllReadyIn.cons rfl (fun K hK => ?_) ?_
        · skip
          go_simp
          gi_wp2_with (refine ⟨trivial, ?_⟩; gi_at_call 19; refine (CallsIn.inRound lp (callsIn_wide.2 (real_Of _ _))).mono ?_; rintro e w2 ⟨rfl, rfl⟩)
          refine wpAnyIn_ready (rs := [0, 4]) (by kernel_rfl) (by simp) ?_
          refine AllReadyIn.cons rfl (fun K hK => ?_) ?_
          · skip
            go_simp
            refine hK _ _ ?_
            clear hK K
            refine wpAnyIn_ready (rs := [4]) (by kernel_rfl) (by simp) ?_
            refine AllReadyIn.cons rfl (fun K hK => ?_) ?_
            · skip
              go_simp
              refine hK _ _ ?_
              clear hK K
              refine wpAnyIn_ready (rs := [5]) (by kernel_rfl) (by simp) ?_
              refine AllReadyIn.cons rfl (fun K hK => ?_) ?_
              · skip
                go_simp
                refine hK _ _ ?_
                clear hK K
                refine wpAnyIn_ready (rs := [6]) (by kernel_rfl) (by simp) ?_
                refine AllReadyIn.cons rfl (fun K hK => ?_) ?_
                · skip
                  rw [if_pos (show Region.wanted _ _ = true from rfl)]
                  refine append_op rfl hrun rfl rfl ?_
                  refine hK _ _ ?_
                  clear hK K
                  refine wpAnyIn_ready (rs := [7]) (by kernel_rfl) (by simp) ?_
                  refine AllReadyIn.cons rfl (fun K hK => ?_) ?_
                  · skip
                    go_simp
                    refine hK _ _ ?_
                    clear hK K
                    refine wpAnyIn_done (by kernel_rfl) ?_ _
                    gi_wp2
                    exact ⟨((KeepsOthers.drew W).trans hk2).from _, ⟨(Below.refl _ W).drew.trans hb2, hS2.trans hS.symm⟩, ⟨⟨_, hv2, by simpa using hr2, trivial⟩, hB.trans ((Below.refl _ W).drew.trans hb2)⟩, hS2⟩
                  exact AllReadyIn.nil
                exact AllReadyIn.nil
              exact AllReadyIn.nil
            exact AllReadyIn.nil
          refine AllReadyIn.cons rfl (fun K hK => ?_) ?_
          · skip
            go_simp
            refine hK _ _ ?_
            clear hK K
            refine wpAnyIn_ready (rs := [0, 5]) (by kernel_rfl) (by simp) ?_
            refine AllReadyIn.cons rfl (fun K hK => ?_) ?_
            · skip
              go_simp
              refine hK _ _ ?_
              clear hK K
              refine wpAnyIn_ready (rs := [5]) (by kernel_rfl) (by simp) ?_
              refine AllReadyIn.cons rfl (fun K hK => ?_) ?_
              · skip
                go_simp
                refine hK _ _ ?_
                clear hK K
                refine wpAnyIn_ready (rs := [6]) (by kernel_rfl) (by simp) ?_
                refine AllReadyIn.cons rfl (fun K hK => ?_) ?_
                · skip
                  rw [if_pos (show Region.wanted _ _ = true from rfl)]
                  refine append_op rfl hrun rfl rfl ?_
                  refine hK _ _ ?_
                  clear hK K
                  refine wpAnyIn_ready (rs := [7]) (by kernel_rfl) (by simp) ?_
                  refine AllReadyIn.cons rfl (fun K hK => ?_) ?_
                  · skip
                    go_simp
                    refine hK _ _ ?_
                    clear hK K
                    refine wpAnyIn_done (by kernel_rfl) ?_ _
                    gi_wp2
                    exact ⟨((KeepsOthers.drew W).trans hk2).from _, ⟨(Below.refl _ W).drew.trans hb2, hS2.trans hS.symm⟩, ⟨⟨_, hv2, by simpa using hr2, trivial⟩, hB.trans ((Below.refl _ W).drew.trans hb2)⟩, hS2⟩
                  exact AllReadyIn.nil
                exact AllReadyIn.nil
              exact AllReadyIn.nil
            refine AllReadyIn.cons rfl (fun K hK => ?_) ?_
            · skip
              go_simp
              refine hK _ _ ?_
              clear hK K
              refine wpAnyIn_ready (rs := [0]) (by kernel_rfl) (by simp) ?_
              refine AllReadyIn.cons rfl (fun K hK => ?_) ?_
              · skip
                go_simp
                refine hK _ _ ?_
                clear hK K
                refine wpAnyIn_ready (rs := [6]) (by kernel_rfl) (by simp) ?_
                refine AllReadyIn.cons rfl (fun K hK => ?_) ?_
                · skip
                  rw [if_pos (show Region.wanted _ _ = true from rfl)]
                  refine append_op rfl hrun rfl rfl ?_
                  refine hK _ _ ?_
                  clear hK K
                  refine wpAnyIn_ready (rs := [7]) (by kernel_rfl) (by simp) ?_
                  refine AllReadyIn.cons rfl (fun K hK => ?_) ?_
                  · skip
                    go_simp
                    refine hK _ _ ?_
                    clear hK K
                    refine wpAnyIn_done (by kernel_rfl) ?_ _
                    gi_wp2
                    exact ⟨((KeepsOthers.drew W).trans hk2).from _, ⟨(Below.refl _ W).drew.trans hb2, hS2.trans hS.symm⟩, ⟨⟨_, hv2, by simpa using hr2, trivial⟩, hB.trans ((Below.refl _ W).drew.trans hb2)⟩, hS2⟩
                  exact AllReadyIn.nil
                exact AllReadyIn.nil
              exact AllReadyIn.nil
            exact AllReadyIn.nil
          exact AllReadyIn.nil
        exact AllReadyIn.nil
      exact AllReadyIn.nil
    exact AllReadyIn.nil
  case done =>
    rintro D ys W hD rfl ⟨⟨⟨v, hv, hrow, _⟩, hB⟩, _⟩ hK
    have hc := hv.cell
    have hrow' : W.ownsRow u.heap.size 35 1 v (vls l a b).length ((vls l a b).map (Value.float .f64)) := by
      unfold vls
      rw [List.length_map]
      exact hrow
    have hsum := real_Sum_own hrow' (fun x hx => by unfold vls at hx; obtain ⟨c, _, rfl⟩ := List.mem_map.1 hx; exact vlv_lt c)
    gi_wp2_with fail
    refine ⟨trivial, ?_⟩
    refine (callsIn_wide.2 hsum).mono ?_
    rintro e w3 ⟨x, rfl, hx, hb3⟩
    have hK3 : w3.heap[D]? = some (.deferred (some [])) := (hb3.block D (Array.getElem?_eq_some_iff.1 hK).1).trans hK
    obtain ⟨r, nn, hq, lr, zr⟩ := run_fop (P := Try.prog) .quo (by simp) 35 x tx w3
    have E := Lib.hid (show r < 18446744073709551616 ∧ nz r = fop .quo (sumX (vls l a b)) (sumX (tms l a b)) from ⟨lr, by rw [zr, hx.out.2, htx.out.2]⟩)
    clear lr zr
    gi_wp2
    refine ⟨by simp, .inl ⟨_, _, rfl, run_takeDeferred (w := w3.drewN nn) hK3, ?_⟩⟩
    exact ⟨_, results_tmp2 rfl _ _ _, r, rfl, E, Bu.trans (((hB.mono (by omega)).trans (below_drewN (hb3.mono (by have := hB.size; omega)) nn)).trans (belowK_b (w := w) (Nat.le_refl _) (w3.drewN nn) D _ _ (by omega) hK3 rfl rfl))⟩
  case stop =>
    rintro D c pre W _ _ h _
    exact h.elim
theorem mean_Mean {w : World} {p : Option Addr} {l : List Pt} (cap : Nat) (a b : Int) (h : PtS w p l) (hl : l.length ≤ 6000000000000) (hI : ∀ k, k < l.length → PtI (pt l k)) : Calls Try.prog 9 #[.slice p l.length cap, spn a b] w (GFE w (meanX l a b) (totE l)) := by
  cases hr : rightL l
  · unfold meanX
    have hR := fun w h => mean_Total (w := w) (p := p) (l := l) cap a b h hl hI
    unfold totX totE at *
    rw [hr] at *
    simp only [Bool.false_eq_true, if_false] at *
    have h1 : PtS (w.alloc (.cells #[.int .i64 a, .int .i64 b] 24)) p l := h.below ((Below.refl _ _).alloc (Nat.le_refl _) _)
    clear hI hr
    go_enter Try.func9, Try.ntmps9
    go_wp2_with fail
    refine (hR _ h1).mono ?_
    rintro e w1 ⟨tx, rfl, htx, hb⟩
    go_wp2_with fail
    go_ret2
    exact ⟨0, rfl, Lib.hid ⟨by decide, by decide⟩, ((Below.refl _ w).alloc (Nat.le_refl _) _).trans (hb.mono (by simp))⟩
  · have := mean_Mean_y cap a b h hl hI hr
    unfold meanX totE
    rw [hr]
    simpa using this
end Go.Proofs.Ytjddmcecllhlhaa
