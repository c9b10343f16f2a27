/-
  occur.In at a table of one rule: the first fifty years.
-/
import Derived.Test.YtjddmcecllhlhaaDoorEyI
namespace Go.Proofs.YtjddmcecllhlhaaDoor
open Go.RowKit Go.Shelf Cal
attribute [local go_sem] Oper.semAt_some
theorem ey_append {F : Fence} {n : Nat} {P : Program} {w w' : World} {o : Oper} {a : Act} {K : Act → World → Prop} {Q : Exit → Act → World → Prop} {s x : Operand} {t : TypeId} {u v v' : Value} (hop : o.op = Op.call { callee := Callee.builtin Builtin.append, args := #[s, x], argTypes := #[t, t] })
    (hrun : (Builtin.append_ #[t, t] o.type #[v, u]).run P w = .ok v' w') (hs : a.eval s = v) (hx : a.eval x = u) (hK : K (a.put o.dst v') w') : Oper.wpIn F n P o a w K Q := by
  unfold Oper.wpIn
  refine ⟨?_, ?_⟩
  · simp [Oper.about, hop, resolve, Target.leads, Sem.run_pure]
  · rw [Oper.semAt_plain F _ _ (by rw [hop]; intro c hc'; cases hc')]
    simp [execOp, hop, resolve, invoke, builtin, hs, hx, hrun, Result.andThen]
    exact hK
theorem ey_turn {A B : World} {n₀ Bs : Nat} {e : TypeId} {size k : Nat} {v : Value} {xs : List Value} (h : A.ownsRow n₀ e size v k xs) (hne : v.ownBlock ≠ some Bs) (hg : A.grownBy B (some Bs)) : B.ownsRow n₀ e size v k xs := by
  obtain ⟨h1, h2⟩ := h
  refine ⟨h1, ?_⟩
  rcases h2 with h2 | ⟨g, cap, cur, hv, hg', hh, r⟩
  · exact .inl h2
  · refine .inr ⟨g, cap, cur, hv, hg', ?_, r⟩
    have : some g ≠ some Bs := by rw [hv] at hne; exact hne
    exact (hg.block g (Array.getElem?_eq_some_iff.1 hh).1 this).trans hh
theorem ey_ne {A : World} {n₀ D : Nat} {e : TypeId} {size k : Nat} {v : Value} {xs : List Value} {o : Obj} (h : A.ownsRow n₀ e size v k xs) (hD : A.heap[D]? = some o) (ho : o.isCells = false) : v.ownBlock ≠ some D := by
  obtain ⟨h1, h2⟩ := h
  rcases h2 with ⟨rfl, _⟩ | ⟨g, cap, cur, rfl, hg', hh, r⟩
  · simp [Value.ownBlock]
  · intro e
    obtain rfl : g = D := by simpa [Value.ownBlock] using e
    rw [hD] at hh
    cases hh
    cases ho
theorem ey_bturn {B₀ : Nat} {w A B : World} {Bs : Nat} (h : Below B₀ w A) (hs : B₀ ≤ Bs) (hg : A.grownBy B (some Bs)) (hA : B₀ ≤ A.heap.size) : Below B₀ w B :=
  ⟨hg.os.trans h.os, hg.tape.trans h.tape, hg.output.trans h.output, Nat.le_trans h.size hg.size, fun k hk => (hg.block k (by omega) (fun e => by cases e; omega)).trans (h.block k hk)⟩
theorem Tryd.infoOc : (Tryd.prog.info? 53).map (fun i => (i.zero, i.size, i.bytes)) = some (some (.agg #[.int .i64 0, .int .i64 0, .int .i64 0]), 3, 24) := by kernel_rfl
/-- The cells of a row of occurrences. -/
def ocells (r : Ru) : List Int → List Value
  | [] => []
  | y :: l => .int .i64 0 :: .int .i64 y :: .int .i64 (nomV r y) :: ocells r l
theorem ocells_snoc (r : Ru) (l : List Int) (y : Int) : ocells r (l ++ [y]) = ocells r l ++ [.int .i64 0, .int .i64 y, .int .i64 (nomV r y)] := by
  induction l with
  | nil => rfl
  | cons a l ih => simp [ocells, ih]
theorem ownBlock_lt {A : World} {n₀ g : Nat} {e : TypeId} {size k : Nat} {v : Value} {xs : List Value} (h : A.ownsRow n₀ e size v k xs) (hg : v.ownBlock = some g) : g < A.heap.size := by
  obtain ⟨h1, h2⟩ := h
  rcases h2 with ⟨rfl, _⟩ | ⟨g', cap, cur, rfl, hg', hh, r⟩
  · simp [Value.ownBlock] at hg
  · obtain rfl : g' = g := by simpa [Value.ownBlock] using hg
    exact (Array.getElem?_eq_some_iff.1 hh).1
/-- What stands when some have come. -/
def InI (r : Ru) (w : World) (bo : Nat) (ks : List Nat) (pre : List Int) (W : World) : Prop :=
  ((∃ v, Boxed W bo 48 v ∧ W.ownsRow bo 53 3 v pre.length (ocells r pre) ∧ ∀ k ∈ ks, v.ownBlock ≠ some k) ∧ Below bo w W) ∧ bo < W.heap.size ∧ (∀ k ∈ ks, bo < k ∧ k < W.heap.size) ∧ pre.length < 50
def InX (r : Ru) (w : World) (bo : Nat) (id : Nat) (pre : List Int) (W : World) : Prop :=
  id = 0 ∧ ((∀ y ∈ pre, r.f ≤ y ∧ y ≤ r.t) → ((∃ v, Boxed W bo 48 v ∧ W.ownsRow bo 53 3 v pre.length (ocells r pre) ∧ True) ∧ Below bo w W) ∧ pre.length = 50)
theorem InI.own (r : Ru) (w : World) (bo D : Nat) (hD : bo ≤ D) (hw : bo ≤ w.heap.size) (ks : List Nat) : OwnFrom D (InI r w bo ks) := by
  refine OwnFrom.and (OwnFrom.and (Own.from (holdsRow_own bo bo 48 53 3 (fun pre : List Int => pre.length) (fun pre : List Int => ocells r pre) (fun _ v => ∀ k ∈ ks, v.ownBlock ≠ some k)) _) (ownFrom_below hw hD)) ?_
  intro s A B row h hg _
  exact ⟨Nat.lt_of_lt_of_le h.1 hg.size, fun k hk => ⟨(h.2.1 k hk).1, Nat.lt_of_lt_of_le (h.2.1 k hk).2 hg.size⟩, h.2.2⟩
theorem InX.own (r : Ru) (w : World) (bo D : Nat) (hD : bo ≤ D) (hw : bo ≤ w.heap.size) (id : Nat) : OwnFrom D (InX r w bo id) := by
  intro s A B row h hg hr
  refine ⟨h.1, fun hy => ⟨?_, (h.2 hy).2⟩⟩
  exact OwnFrom.and (Own.from (holdsRow_own bo bo 48 53 3 (fun pre : List Int => pre.length) (fun pre : List Int => ocells r pre) (fun _ v => True)) _) (ownFrom_below hw hD) s A B row (h.2 hy).1 hg hr
theorem InI.turn (r : Ru) (w : World) (bo : Nat) (ks : List Nat) (s : List Int) (A B : World) (c : Nat) (hc : c ∈ ks) (h : InI r w bo ks s A) (hg : A.grownBy B (some c)) : InI r w bo ks s B := by
  obtain ⟨⟨⟨v, h1, h2, h3⟩, h4⟩, h5, h6, h7⟩ := h
  have hbc := (h6 c hc).1
  exact ⟨⟨⟨v, (hg.block _ h1.lt (by simp; omega)).trans h1, ey_turn h2 (h3 c hc) hg, h3⟩, ey_bturn h4 (by omega) hg (by omega)⟩, Nat.lt_of_lt_of_le h5 hg.size, fun k hk => ⟨(h6 k hk).1, Nat.lt_of_lt_of_le (h6 k hk).2 hg.size⟩, h7⟩
theorem InI.fresh (r : Ru) (w : World) (bo : Nat) (ks : List Nat) (c : Nat) (A B : World) (h : InI r w bo ks [] A) (hg : A.grownBy B none) (hc : A.heap.size ≤ c) (hB : c < B.heap.size) : InI r w bo (c :: ks) [] B := by
  obtain ⟨⟨⟨v, h1, h2, h3⟩, h4⟩, h5, h6, h7⟩ := h
  have hg' : A.grownBy B (some c) := ⟨hg.os, hg.tape, hg.output, hg.size, fun k hk _ => hg.block k hk (by simp)⟩
  have hne : v.ownBlock ≠ some c := fun e => by have := ownBlock_lt h2 e; omega
  refine ⟨⟨⟨v, (hg.block _ h1.lt (by simp)).trans h1, ey_turn h2 hne hg', fun k hk => ?_⟩, ey_bturn h4 (by omega) hg' (by omega)⟩, Nat.lt_of_lt_of_le h5 hg.size, fun k hk => ?_, h7⟩
  · rcases List.mem_cons.1 hk with rfl | hk
    · exact hne
    · exact h3 k hk
  · rcases List.mem_cons.1 hk with rfl | hk
    · exact ⟨by omega, hB⟩
    · exact ⟨(h6 k hk).1, Nat.lt_of_lt_of_le (h6 k hk).2 hg.size⟩
theorem all_seq (r : Ru) (hR : RightIs r true) (hr : RuFine r) (n : Nat) (hn : 1 ≤ n) (Bl Bn Bf n₀ bl : Nat) (hb : bl < n₀) (W : World) (hn0 : n₀ ≤ W.heap.size) (l1 : Bl < W.heap.size) (l2 : Bn < W.heap.size) (l3 : Bf < W.heap.size)
    (c1 : W.cell? ⟨Bl, 0, none⟩ = some (tabV bl)) (c2 : W.cell? ⟨Bn, 0, none⟩ = some (.string r.nm)) (f0 : W.cell? ⟨Bf, 0, none⟩ = some (.int .i64 (-1))) (f1 : W.cell? ⟨Bf, 1, none⟩ = some (.int .i64 0)) (f2 : W.cell? ⟨Bf, 2, none⟩ = some (.int .i64 (-2192387558400))) (hT : TabAt W bl r) :
    SeqKs Fence.wide n Tryd.prog 70 #[.pointer (some ⟨Bl, 0, none⟩), .pointer (some ⟨Bn, 0, none⟩), .pointer (some ⟨Bf, 0, none⟩)] (occEnc r) n₀ [Bl, Bn] (fun xs => xs = yrs r.f (yrsN r)) (fun pre => ∃ k, 1 ≤ k ∧ k ≤ yrsN r ∧ pre = yrs r.f k) W := fun lp J Jx W' hW hJ hJ3 hY h0 =>
  all_in r hR hr n hn lp Bl Bn Bf n₀ bl hb J Jx W' (Nat.le_trans hn0 hW.size) (Nat.lt_of_lt_of_le l1 hW.size) (Nat.lt_of_lt_of_le l2 hW.size) hJ hJ3 hY ((hW.cell (p := ⟨Bl, 0, none⟩) l1).trans c1) ((hW.cell (p := ⟨Bn, 0, none⟩) l2).trans c2) ((hW.cell (p := ⟨Bf, 0, none⟩) l3).trans f0) ((hW.cell (p := ⟨Bf, 1, none⟩) l3).trans f1) ((hW.cell (p := ⟨Bf, 2, none⟩) l3).trans f2) (hT.below hW hT.lt (Nat.le_refl _)) h0
end Go.Proofs.YtjddmcecllhlhaaDoor
