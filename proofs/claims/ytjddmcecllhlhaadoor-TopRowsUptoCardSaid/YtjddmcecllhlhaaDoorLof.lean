/-
  lines.Of: lines of a source whose every line ends in a feed.
-/
import Derived.Test.YtjddmcecllhlhaaDoorLin
namespace Go.Proofs.YtjddmcecllhlhaaDoor
open Go.RowKit Go.Shelf
attribute [local go_sem] Oper.semAt_some
theorem append_op {F : Fence} {n : Nat} {P : Program} {w w' : World} {o : Oper} {a : Act} {K : Act → World → Prop} {Q : Exit → Act → World → Prop} {s x : Operand} {t : TypeId} {u v v' : Value} (hop : o.op = Op.call { callee := Callee.builtin Builtin.append, args := #[s, x], argTypes := #[t, t] })
    (hrun : (Builtin.append_ #[t, t] o.type #[v, u]).run P w = .ok v' w') (hs : a.eval s = v) (hx : a.eval x = u) (hK : K (a.put o.dst v') w') : Oper.wpIn F n P o a w K Q := by
  unfold Oper.wpIn
  refine ⟨?_, ?_⟩
  · simp [Oper.about, hop, resolve, Target.leads, Sem.run_pure]
  · rw [Oper.semAt_plain F _ _ (by rw [hop]; intro c hc'; cases hc')]
    simp [execOp, hop, resolve, invoke, builtin, hs, hx, hrun, Result.andThen]
    exact hK
/-- What stands ahead of a line's feed. -/
def cutL (x : Ln) : ByteArray := ⟨(Lib.trimSuffix x.1.data.toList [10]).toArray⟩
theorem cut_fed {x : ByteArray} (h : x.size ≤ 2000 ∧ ∀ b ∈ x.data.toList, b ≠ 10) : cutL (fedL x) = x := by
  unfold cutL
  rw [fedL_val h.1]
  have e : Lib.trimSuffix (x.data.toList ++ [10]) [10] = x.data.toList := by
    unfold Lib.trimSuffix Lib.hasSuffix
    simp
  show (⟨(Lib.trimSuffix (x.data.toList ++ [10]) [10]).toArray⟩ : ByteArray) = x
  rw [e]
theorem own_turn {A B : World} {n₀ Bs : Nat} {e : TypeId} {size k : Nat} {v : Value} {xs : List Value} (h : A.ownsRow n₀ e size v k xs) (hne : v.ownBlock ≠ some Bs) (hg : A.grownBy B (some Bs)) : B.ownsRow n₀ e size v k xs := by
  obtain ⟨h1, h2⟩ := h
  refine ⟨h1, ?_⟩
  rcases h2 with h2 | ⟨g, cap, cur, hv, hg', hh, r⟩
  · exact .inl h2
  · refine .inr ⟨g, cap, cur, hv, hg', ?_, r⟩
    have : some g ≠ some Bs := by rw [hv] at hne; exact hne
    exact (hg.block g (Array.getElem?_eq_some_iff.1 hh).1 this).trans hh
theorem own_ne {A : World} {n₀ D : Nat} {e : TypeId} {size k : Nat} {v : Value} {xs : List Value} {o : Obj} (h : A.ownsRow n₀ e size v k xs) (hD : A.heap[D]? = some o) (ho : o.isCells = false) : v.ownBlock ≠ some D := by
  obtain ⟨h1, h2⟩ := h
  rcases h2 with ⟨rfl, _⟩ | ⟨g, cap, cur, rfl, hg', hh, r⟩
  · simp [Value.ownBlock]
  · intro e
    obtain rfl : g = D := by simpa [Value.ownBlock] using e
    rw [hD] at hh
    cases hh
    cases ho
theorem below_turn {B₀ : Nat} {w A B : World} {Bs : Nat} (h : Below B₀ w A) (hs : B₀ ≤ Bs) (hg : A.grownBy B (some Bs)) (hA : B₀ ≤ A.heap.size) : Below B₀ w B :=
  ⟨hg.os.trans h.os, hg.tape.trans h.tape, hg.output.trans h.output, Nat.le_trans h.size hg.size, fun k hk => (hg.block k (by omega) (fun e => by cases e; omega)).trans (h.block k hk)⟩
set_option maxRecDepth 100000 in
set_option maxHeartbeats 8000000 in
theorem lines_Of (l : List ByteArray) (hl : l.length ≤ 40) (hf : NoFeed l) (w : World) : Calls Tryd.prog 8 #[.string ⟨(lnl l).toArray⟩] w fun e w' => ∃ v, e = .returned v ∧ w'.ownsRow w.heap.size 9 1 v l.length (l.map Value.string) ∧ Below w.heap.size w w' := by
  obtain ⟨i0, hi, hz0, hz1, hz2⟩ := info_parts Tryd.infoStr
  have HF := Lib.hid hf
  clear hf
  obtain ⟨S, hS⟩ : ∃ S : ByteArray, S = ⟨(lnl l).toArray⟩ := ⟨_, rfl⟩
  rw [← hS]
  refine (callsIn_wide (n := 9)).1 ?_
  refine callsIn_of_wp_marks Tryd.func8 rfl trivial ?_ rfl
  simp only [Tryd.ntmps8, List.size_toArray, List.length_cons, List.length_nil, Nat.reduceAdd, Nat.reduceSub, Array.replicate_succ, Array.replicate_zero, List.push_toArray, List.append_toArray, List.nil_append, List.cons_append]
  have HS := Lib.hid hS
  clear hS
  gi_wp2_with fail
  refine ⟨trivial, ?_⟩
  refine (callsIn_wide.2 (strings_Lines _ _)).mono ?_
  rintro e w2 ⟨rfl, rfl⟩
  gi_wp2
  have W0sz : ((w.alloc (.cells #[.slice none 0 0] 23)).alloc (.cells #[.string S] 9)).heap.size = w.heap.size + 1 + 1 := by simp
  have bO : Boxed ((w.alloc (.cells #[.slice none 0 0] 23)).alloc (.cells #[.string S] 9)) w.heap.size 23 (.slice none 0 0) := (Boxed.new w _ _).alloc _
  have c1 : ((w.alloc (.cells #[.slice none 0 0] 23)).alloc (.cells #[.string S] 9)).cell? ⟨w.heap.size + 1, 0, none⟩ = some (.string S) := by go_simp
  have z1 : ((w.alloc (.cells #[.slice none 0 0] 23)).alloc (.cells #[.string S] 9)).frozen? ⟨w.heap.size + 1, 0, none⟩ = false := by go_simp
  have B0 : Below w.heap.size w ((w.alloc (.cells #[.slice none 0 0] 23)).alloc (.cells #[.string S] 9)) := ((Below.refl _ w).alloc (Nat.le_refl _) _).alloc (by simp) _
  generalize ((w.alloc (.cells #[.slice none 0 0] 23)).alloc (.cells #[.string S] 9)) = W0 at *
  have hseq : SeqCell Fence.wide (9 - 1) Tryd.prog 54 #[.pointer (some ⟨w.heap.size + 1, 0, none⟩)] lnEnc (w.heap.size + 1) (fun xs => xs = l.map fedL) l.length W0 := fun lp J W hW hJ hY h0 =>
    lines_in (9 - 1) (by omega) lp (w.heap.size + 1) l hl HF.out J W (by have := hW.size; omega) hJ hY h0 (by rw [← HS.out]; exact (hW.cell (p := ⟨w.heap.size + 1, 0, none⟩) (by simp; omega)).trans c1) ((hW.frozen (p := ⟨w.heap.size + 1, 0, none⟩) (by simp; omega)).trans z1)
  refine wpIn_range_cell rfl (by omega) (gf := 54) (lb := #[.pointer (some ⟨w.heap.size + 1, 0, none⟩)]) rfl trivial (enters_of Tryd.func54 (by kernel_rfl) rfl) hseq (by omega) (fun _ => rfl)
    (fun pre W => (∃ v, Boxed W w.heap.size 23 v ∧ W.ownsRow w.heap.size 9 1 v pre.length ((pre.map cutL).map Value.string) ∧ v.ownBlock ≠ some (w.heap.size + 1)) ∧ Below w.heap.size w W ∧ w.heap.size + 2 ≤ W.heap.size)
    (OwnFrom.and (Own.from (holdsRow_own w.heap.size w.heap.size 23 9 1 (fun pre : List Ln => pre.length) (fun pre : List Ln => (pre.map cutL).map Value.string) (fun _ v => v.ownBlock ≠ some (w.heap.size + 1))) _) (OwnFrom.and (ownFrom_below (Nat.le_refl _) (by omega)) (fun s A B row h hg _ => Nat.le_trans h hg.size)))
    (fun s A B hs hg => by
      obtain ⟨⟨v, h1, h2, h3⟩, h4, h5⟩ := hs
      exact ⟨⟨v, (hg.block _ h1.lt (by simp)).trans h1, own_turn h2 h3 hg, h3⟩, below_turn h4 (by omega) hg h4.size, Nat.le_trans h5 hg.size⟩)
    ⟨⟨_, bO, World.ownsRow_nil _ _ _ _, by simp [Value.ownBlock]⟩, B0, by omega⟩
    (fun x => { tmps := #[.string S, undef, .slice none 0 0, .pointer (some ⟨w.heap.size, 0, none⟩), .string x.1, .string S, .func (.func 54) #[] #[.pointer (some ⟨w.heap.size + 1, 0, none⟩)], .string x.1, undef, undef, undef, undef, undef, undef], defers := [] }) ?assign ?body ?done
  case assign =>
    intro lp x W K hK
    unfold lnEnc
    gi_wp2
    exact hK
  case body =>
    rintro lp pre x W ⟨⟨v, hv, hrow, hnb⟩, hB, hsz⟩ hlt
    have hv' : Boxed W.drew w.heap.size 23 v := hv
    have hrow' : W.drew.ownsRow w.heap.size 9 1 v pre.length ((pre.map cutL).map Value.string) := hrow
    have hc := hv'.cell
    have hc2 := (hv'.alloc (.cells #[.string (cutL x)] 9)).cell
    have hc3 : (W.alloc (.cells #[.string (cutL x)] 9)).drew.cell? ⟨w.heap.size, 0, none⟩ = some v := hc2
    have hT := fun W => Tryd.strings_TrimSuffix x.1 ⟨#[10]⟩ W (by have := x.2; omega)
    change ∀ W : World, Calls _ _ _ W (fun e w' => e = .returned (.string (cutL x)) ∧ w' = W) at hT
    have hmx : Tryd.prog.follows .mixedOrders = true := by kernel_rfl
    obtain ⟨v', w1, hrun, hown', hgrow, hnil, hat⟩ := run_append_own_at (P := Tryd.prog) (w := W.drew.alloc (.cells #[.string (cutL x)] 9)) w.heap.size 23 23 9 i0 (.string ⟨#[]⟩) 1 16 Tryd.underlying23 hi hz0 hz1 hz2 rfl (by decide) v pre.length _ (hrow'.alloc _) ⟨W.heap.size, 0, none⟩ 1 1 [.string (cutL x)] rfl (cell_one_new _ _ _) (by simp [Value.oneCell']) (by unfold maxLen; omega) (by omega) (by have := hB.size; simp; omega)
    obtain ⟨g', cap', rfl⟩ := ownsRow_succ hown'
    obtain ⟨hv1, hv2, hr2, hk2, hb2⟩ := hv'.appended (by decide) hrow' hB.size (Nat.le_refl _) hown' hgrow
    have hne : (Value.slice (some ⟨g', 0, none⟩) (pre.length + 1) cap').ownBlock ≠ some (w.heap.size + 1) := by
      rcases hat with h | h
      · rw [h]; exact hnb
      · rw [h]; simp; omega
    have hbs : (w1.setCell ⟨w.heap.size, 0, none⟩ (.slice (some ⟨g', 0, none⟩) (pre.length + 1) cap')).heap[w.heap.size + 1]? = W.heap[w.heap.size + 1]? :=
      (Below.heap_setCell _ _ _ _ (by simp)).trans ((hgrow.block _ (by rw [World.size_alloc]; show _ < W.heap.size + 1; omega) (fun e => hnb e.symm)).trans (Below.heap_alloc _ _ _ (show _ < W.heap.size by omega)))
    have hc1 := hv1.cell
    have hf1 := hv1.frozen
    gi_wp2_with fail
    refine wpIn_region_any (by assumption) ?_
    try (change wpAnyIn _ _ _ _ _ _ _ _ _ (World.drew _))
    refine wpAnyIn_ready (rs := [0, 1]) (by kernel_rfl) (by simp) ?_
    refine AllReadyIn.cons rfl (fun K hK => ?_) ?_
    · skip
      go_simp
      refine hK _ _ ?_
      clear hK K
      refine wpAnyIn_ready (rs := [1]) (by kernel_rfl) (by simp) ?_
      refine AllReadyIn.cons rfl (fun K hK => ?_) ?_
      · skip
        go_simp
        refine hK _ _ ?_
        clear hK K
        refine wpAnyIn_ready (rs := [2]) (by kernel_rfl) (by simp) ?_
        refine AllReadyIn.cons rfl (fun K hK => ?_) ?_
        · skip
          go_simp
          gi_wp2_with (refine ⟨trivial, ?_⟩; gi_at_call 24; refine (CallsIn.inRound lp (callsIn_wide.2 (hT _))).mono ?_; rintro e w2 ⟨rfl, rfl⟩)
          refine wpAnyIn_ready (rs := [3]) (by kernel_rfl) (by simp) ?_
          refine AllReadyIn.cons rfl (fun K hK => ?_) ?_
          · skip
            go_simp
            refine hK _ _ ?_
            clear hK K
            refine wpAnyIn_ready (rs := [4]) (by kernel_rfl) (by simp) ?_
            refine AllReadyIn.cons rfl (fun K hK => ?_) ?_
            · skip
              rw [if_pos (show Region.wanted _ _ = true from rfl)]
              refine append_op rfl hrun rfl rfl ?_
              refine hK _ _ ?_
              clear hK K
              refine wpAnyIn_ready (rs := [5]) (by kernel_rfl) (by simp) ?_
              refine AllReadyIn.cons rfl (fun K hK => ?_) ?_
              · skip
                go_simp
                refine hK _ _ ?_
                clear hK K
                refine wpAnyIn_done (by kernel_rfl) ?_ _
                gi_wp2
                exact ⟨((KeepsOthers.drew W).trans hk2).from _, hbs, ⟨⟨_, hv2, by simpa using hr2, hne⟩, hB.trans ((Below.refl _ W).drew.trans hb2), Nat.le_trans hsz hk2.size⟩⟩
              exact AllReadyIn.nil
            exact AllReadyIn.nil
          exact AllReadyIn.nil
        exact AllReadyIn.nil
      exact AllReadyIn.nil
    refine AllReadyIn.cons rfl (fun K hK => ?_) ?_
    · skip
      go_simp
      refine hK _ _ ?_
      clear hK K
      refine wpAnyIn_ready (rs := [0, 2]) (by kernel_rfl) (by simp) ?_
      refine AllReadyIn.cons rfl (fun K hK => ?_) ?_
      · skip
        go_simp
        refine hK _ _ ?_
        clear hK K
        refine wpAnyIn_ready (rs := [2]) (by kernel_rfl) (by simp) ?_
        refine AllReadyIn.cons rfl (fun K hK => ?_) ?_
        · skip
          go_simp
          gi_wp2_with (refine ⟨trivial, ?_⟩; gi_at_call 24; refine (CallsIn.inRound lp (callsIn_wide.2 (hT _))).mono ?_; rintro e w2 ⟨rfl, rfl⟩)
          refine wpAnyIn_ready (rs := [3]) (by kernel_rfl) (by simp) ?_
          refine AllReadyIn.cons rfl (fun K hK => ?_) ?_
          · skip
            go_simp
            refine hK _ _ ?_
            clear hK K
            refine wpAnyIn_ready (rs := [4]) (by kernel_rfl) (by simp) ?_
            refine AllReadyIn.cons rfl (fun K hK => ?_) ?_
            · skip
              rw [if_pos (show Region.wanted _ _ = true from rfl)]
              refine append_op rfl hrun rfl rfl ?_
              refine hK _ _ ?_
              clear hK K
              refine wpAnyIn_ready (rs := [5]) (by kernel_rfl) (by simp) ?_
              refine AllReadyIn.cons rfl (fun K hK => ?_) ?_
              · skip
                go_simp
                refine hK _ _ ?_
                clear hK K
                refine wpAnyIn_done (by kernel_rfl) ?_ _
                gi_wp2
                exact ⟨((KeepsOthers.drew W).trans hk2).from _, hbs, ⟨⟨_, hv2, by simpa using hr2, hne⟩, hB.trans ((Below.refl _ W).drew.trans hb2), Nat.le_trans hsz hk2.size⟩⟩
              exact AllReadyIn.nil
            exact AllReadyIn.nil
          exact AllReadyIn.nil
        exact AllReadyIn.nil
      refine AllReadyIn.cons rfl (fun K hK => ?_) ?_
      · skip
        go_simp
        gi_wp2_with (refine ⟨trivial, ?_⟩; gi_at_call 24; refine (CallsIn.inRound lp (callsIn_wide.2 (hT _))).mono ?_; rintro e w2 ⟨rfl, rfl⟩)
        refine wpAnyIn_ready (rs := [0, 3]) (by kernel_rfl) (by simp) ?_
        refine AllReadyIn.cons rfl (fun K hK => ?_) ?_
        · skip
          go_simp
          refine hK _ _ ?_
          clear hK K
          refine wpAnyIn_ready (rs := [3]) (by kernel_rfl) (by simp) ?_
          refine AllReadyIn.cons rfl (fun K hK => ?_) ?_
          · skip
            go_simp
            refine hK _ _ ?_
            clear hK K
            refine wpAnyIn_ready (rs := [4]) (by kernel_rfl) (by simp) ?_
            refine AllReadyIn.cons rfl (fun K hK => ?_) ?_
            · skip
              rw [if_pos (show Region.wanted _ _ = true from rfl)]
              refine append_op rfl hrun rfl rfl ?_
              refine hK _ _ ?_
              clear hK K
              refine wpAnyIn_ready (rs := [5]) (by kernel_rfl) (by simp) ?_
              refine AllReadyIn.cons rfl (fun K hK => ?_) ?_
              · skip
                go_simp
                refine hK _ _ ?_
                clear hK K
                refine wpAnyIn_done (by kernel_rfl) ?_ _
                gi_wp2
                exact ⟨((KeepsOthers.drew W).trans hk2).from _, hbs, ⟨⟨_, hv2, by simpa using hr2, hne⟩, hB.trans ((Below.refl _ W).drew.trans hb2), Nat.le_trans hsz hk2.size⟩⟩
              exact AllReadyIn.nil
            exact AllReadyIn.nil
          exact AllReadyIn.nil
        refine AllReadyIn.cons rfl (fun K hK => ?_) ?_
        · skip
          go_simp
          refine hK _ _ ?_
          clear hK K
          refine wpAnyIn_ready (rs := [0]) (by kernel_rfl) (by simp) ?_
          refine AllReadyIn.cons rfl (fun K hK => ?_) ?_
          · skip
            go_simp
            refine hK _ _ ?_
            clear hK K
            refine wpAnyIn_ready (rs := [4]) (by kernel_rfl) (by simp) ?_
            refine AllReadyIn.cons rfl (fun K hK => ?_) ?_
            · skip
              rw [if_pos (show Region.wanted _ _ = true from rfl)]
              refine append_op rfl hrun rfl rfl ?_
              refine hK _ _ ?_
              clear hK K
              refine wpAnyIn_ready (rs := [5]) (by kernel_rfl) (by simp) ?_
              refine AllReadyIn.cons rfl (fun K hK => ?_) ?_
              · skip
                go_simp
                refine hK _ _ ?_
                clear hK K
                refine wpAnyIn_done (by kernel_rfl) ?_ _
                gi_wp2
                exact ⟨((KeepsOthers.drew W).trans hk2).from _, hbs, ⟨⟨_, hv2, by simpa using hr2, hne⟩, hB.trans ((Below.refl _ W).drew.trans hb2), Nat.le_trans hsz hk2.size⟩⟩
              exact AllReadyIn.nil
            exact AllReadyIn.nil
          exact AllReadyIn.nil
        exact AllReadyIn.nil
      exact AllReadyIn.nil
    exact AllReadyIn.nil
  case done =>
    rintro ys W rfl ⟨⟨v, hv, hrow, hnb⟩, hB, hsz⟩ hK
    have hc := hv.cell
    have hrow' : Hid (W.ownsRow w.heap.size 9 1 v l.length (l.map Value.string)) := Lib.hid (by
      have e : (l.map fedL).map cutL = l := by
        rw [List.map_map]
        conv => rhs; rw [← List.map_id l]
        exact List.map_congr_left (fun x hx => cut_fed (HF.out x hx))
      rw [e, List.length_map] at hrow
      exact hrow)
    clear hrow
    gi_wp2
    refine ⟨by simp, .inl ⟨_, _, rfl, run_takeDeferred hK, ?_⟩⟩
    refine ⟨_, results_tmp rfl _ _ _, v, rfl, ?_, hB.trans (belowK_b (w := w) (Nat.le_refl _) W W0.heap.size _ _ (by omega) hK rfl rfl)⟩
    exact own_turn hrow'.out (own_ne hrow'.out hK rfl) (grownBy_putObj' W _ _)
end Go.Proofs.YtjddmcecllhlhaaDoor
