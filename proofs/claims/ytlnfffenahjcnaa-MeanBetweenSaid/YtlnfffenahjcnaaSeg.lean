/-
  Drawn regions in pieces: runs whose order is forced, and single operations that look at no memory and may be taken first.
-/
import Derived.Test.YtlnfffenahjcnaaTail
namespace Go.Proofs.Ytlnfffenahjcnaa
open Go
section
variable {P : Program} {md : Region.Mode} {ops : Array Oper}
theorem Oper.wp_mono2 {o : Oper} {a : Act} {w : World} {K K' : Act → World → Prop} {Q Q' : Exit → Act → World → Prop} (h : ∀ a w, K a w → K' a w) (hp : ∀ c a w, Q (.panic c) a w → Q' (.panic c) a w) (hl : LetsOut Q → LetsOut Q')
    (hh : o.wp P a w K Q) : o.wp P a w K' Q' := by
  unfold Oper.wp at *
  generalize (execOp a.eval o).run P w = r at *
  cases r with
  | ok n w' =>
    cases n <;> simp only [Oper.upon] at hh ⊢ <;>
      first
        | exact h _ _ hh
        | exact Calls.mono hh (fun e w'' he => by cases e <;> first | exact h _ _ he | exact hp _ _ _ he | exact hl he)
        | exact Rows.mono hh (fun v w'' he => h _ _ he)
        | exact hh
  | halt x w' => cases x <;> simp only [Oper.upon] at hh ⊢ <;> first | exact hp _ _ _ hh | exact hh
theorem wpOp_mono2 {i : Nat} {a : Act} {w : World} {K K' : Act → World → Prop} {Q Q' : Exit → Act → World → Prop} (h : ∀ a w, K a w → K' a w) (hp : ∀ c a w, Q (.panic c) a w → Q' (.panic c) a w) (hl : LetsOut Q → LetsOut Q')
    (hh : wpOp P ops Q i K a w) : wpOp P ops Q' i K' a w := by
  unfold wpOp at *
  split
  · exact h _ _ (by simpa [*] using hh)
  · rename_i o ho
    simp only [ho] at hh
    split
    · rename_i hw; simp only [hw, if_true] at hh; exact hh.imp (Oper.wp_mono2 h hp hl) (fun x => ⟨x.1, hl x.2⟩)
    · rename_i hw; simp only [hw] at hh; exact h _ _ hh
/-- What is left behind a run. -/
def thenAny (P : Program) (md : Region.Mode) (ops : Array Oper) (Q : Exit → Act → World → Prop) (f : Nat) (d : Array Bool) : Exit → Act → World → Prop
  | .normal, a, w => wpAny P md ops Q f d a w
  | _, _, _ => False
theorem thenAny_normal {Q : Exit → Act → World → Prop} {f : Nat} {d : Array Bool} {a : Act} {w : World} (h : wpAny P md ops Q f d a w) : thenAny P md ops Q f d .normal a w := h
theorem thenAny_out {Q : Exit → Act → World → Prop} {f : Nat} {d : Array Bool} (h : LetsOut (thenAny P md ops Q f d)) : LetsOut Q := by
  obtain ⟨a, w, h⟩ := h
  exact h.elim
def runB (md : Region.Mode) (ops : Array Oper) : Nat → Nat → Array Bool → Bool
  | 0, _, _ => true
  | g + 1, k, d => decide (Region.ready md ops d = [k]) && runB md ops g (k + 1) (d.setIfInBounds k true)
def runD : Nat → Nat → Array Bool → Array Bool
  | 0, _, d => d
  | g + 1, k, d => runD g (k + 1) (d.setIfInBounds k true)
/-- A run whose order is forced. -/
theorem wpAny_run {Q : Exit → Act → World → Prop} {f : Nat} : ∀ (l : List Oper) (k : Nat) (d d' : Array Bool) (a : Act) (w : World), (∀ j, j < l.length → l[j]? = ops[k + j]?) →
    runB md ops l.length k d = true → runD l.length k d = d' → wpList P ops (thenAny P md ops Q f d') l a w → wpAny P md ops Q (l.length + f) d a w
  | [], k, d, d', a, w, _, _, hd, h => by
    simp only [List.length_nil, runD] at hd
    subst hd
    rw [List.length_nil, Nat.zero_add]
    exact h
  | o :: l, k, d, d', a, w, hl, hB, hd, h => by
    have h0 : ops[k]? = some o := by simpa using (hl 0 (by simp)).symm
    simp only [List.length_cons, runB, Bool.and_eq_true, decide_eq_true_eq] at hB
    simp only [List.length_cons, runD] at hd
    rw [List.length_cons, show l.length + 1 + f = (l.length + f) + 1 by omega]
    refine ⟨fun h1 => (by rw [hB.1] at h1; cases h1), fun i hi => ?_⟩
    rw [hB.1] at hi
    have hik : i = k := by simpa using hi
    subst hik
    have hw : wpOp P ops (thenAny P md ops Q f d') i (wpList P ops (thenAny P md ops Q f d') l) a w := by unfold wpOp; simp only [h0]; exact h
    exact wpOp_mono2 (fun a' w' h' => wpAny_run l (i + 1) _ d' a' w' (fun j hj => by have := hl (j + 1) (by simp; omega); simpa [Nat.add_assoc, Nat.add_comm 1 j] using this) hB.2 hd h') (fun _ _ _ x => x.elim) thenAny_out hw
/-- The last run. -/
theorem wpAny_last {Q : Exit → Act → World → Prop} (l : List Oper) (k : Nat) (d : Array Bool) (a : Act) (w : World) (hl : ∀ j, l[j]? = ops[k + j]?) (hB : Region.seqB md ops l.length k d = true) (h : wpList P ops Q l a w) : wpAny P md ops Q l.length d a w :=
  wpAny_of_seq l k d a w hl hB h
/-- An operation that yields v, whatever the memory. -/
def PureY (P : Program) (ops : Array Oper) (o : Oper) (v : Value) (a : Act) : Prop :=
  (Region.wanted o (yielded ops a.tmps) = true ∧ ∀ w, (execOp a.eval o).run P w = .ok (.value v) w) ∨ (Region.wanted o (yielded ops a.tmps) = false ∧ v = undef)
theorem PureY.of_same {o : Oper} {v : Value} {a a' : Act} (hy : PureY P ops o v a) (he : execOp a'.eval o = execOp a.eval o) (hw : Region.wanted o (yielded ops a'.tmps) = Region.wanted o (yielded ops a.tmps)) : PureY P ops o v a' := by
  unfold PureY at *
  rw [he, hw]
  exact hy
theorem PureY.wpOp {Q : Exit → Act → World → Prop} {i : Nat} {o : Oper} {v : Value} {a : Act} {w : World} (hi : ops[i]? = some o) (hy : PureY P ops o v a) {K : Act → World → Prop} (h : K (a.put o.dst v) w) : wpOp P ops Q i K a w := by
  unfold Go.wpOp
  simp only [hi]
  rcases hy with ⟨hw, hv⟩ | ⟨hw, rfl⟩
  · simp only [hw, if_true]
    left
    unfold Oper.wp
    rw [hv w]
    exact h
  · simp only [hw, Bool.false_eq_true, if_false]; exact h
theorem put_defers (a : Act) (d : Option Tmp) (v : Value) (x : Deferred) : ({ tmps := (a.put d v).tmps, defers := x :: (a.put d v).defers } : Act) = Act.put ⟨a.tmps, x :: a.defers⟩ d v := by
  cases d <;> rfl
theorem wpOp_put {Q : Exit → Act → World → Prop} (hQ : ∀ c a d v w, Q (.panic c) (Act.put a d v) w → Q (.panic c) a w) {j : Nat} {oi oj : Oper} {v : Value} (hj : ops[j]? = some oj) (hap : oi.apart ops oj = true)
    (hsi : ∀ cs b, oi.op ≠ .select cs b) (hsj : ∀ cs b, oj.op ≠ .select cs b) {K : Act → World → Prop} {a : Act} {w : World}
    (hy : PureY P ops oi v a) (h : wpOp P ops Q j K (a.put oi.dst v) w) :
    wpOp P ops Q j (fun a' w' => PureY P ops oi v a' ∧ K (a'.put oi.dst v) w') a w := by
  obtain ⟨h1, h2, h3⟩ := Oper.apart_spec hap
  have keep : ∀ (a : Act), PureY P ops oi v a → ∀ u, PureY P ops oi v (a.put oj.dst u) := fun a hy u =>
    hy.of_same (execOp_put oi hsi a oj.dst u h3) (wanted_put oi a oj.dst u h3)
  have keep2 : ∀ (ds : List Deferred) (u : Value), PureY P ops oi v (Act.put ⟨a.tmps, ds⟩ oj.dst u) := fun ds u => keep ⟨a.tmps, ds⟩ (hy.of_same rfl rfl) u
  have comm := fun (a : Act) u => Act.put_comm a v u h2
  unfold wpOp at *
  simp only [hj] at *
  rw [wanted_put oj a oi.dst v h1] at h
  split
  · rename_i hw
    simp only [hw, if_true] at h
    unfold Oper.wp Oper.asks at *
    rw [execOp_put oj hsj a oi.dst v h1] at h
    refine h.imp (fun h => ?_) id
    generalize (execOp a.eval oj).run P w = r at *
    cases r with
    | ok n w' =>
      cases n <;> simp only [Oper.upon] at h ⊢ <;>
        first
          | exact h.elim
          | exact ⟨keep a hy _, by rw [← comm a]; exact h⟩
          | exact Calls.mono h (fun e w'' he => by cases e <;> first | exact ⟨keep a hy _, by rw [← comm a]; exact he⟩ | exact hQ _ _ _ _ _ he | exact he)
          | exact Rows.mono h (fun v w'' he => ⟨keep a hy _, by rw [← comm a]; exact he⟩)
          | (rw [put_defers] at h; exact ⟨keep2 _ _, by rw [← comm]; exact h⟩)
    | halt x w' => cases x <;> simp only [Oper.upon] at h ⊢ <;> first | exact hQ _ _ _ _ _ h | exact h
  · rename_i hw
    simp only [hw] at h
    exact ⟨keep a hy _, by rw [← comm a]; exact h⟩
theorem wpOp_mono' {Q : Exit → Act → World → Prop} {i : Nat} {a : Act} {w : World} {K K' : Act → World → Prop} (h : ∀ a w, K a w → K' a w) (hh : wpOp P ops Q i K a w) : wpOp P ops Q i K' a w := wpOp_mono h hh
/-- An operation that looks at no memory may be taken first, if every other one that has not come up waits for it or is apart from it. -/
theorem wpAny_first {Q : Exit → Act → World → Prop} (hQ : ∀ c a d v w, Q (.panic c) (Act.put a d v) w → Q (.panic c) a w) {i : Nat} {oi : Oper} {v : Value} (hi : ops[i]? = some oi) (hsel : ∀ (j : Nat) (o : Oper) cs b, ops[j]? = some o → o.op ≠ .select cs b) :
    ∀ (fuel : Nat) (listed : Array Bool) (a : Act) (w : World),
      (∀ j oj, ops[j]? = some oj → j ≠ i → listed.getD j true = false → (∀ e ∈ oj.after, Region.binds md e = true → e.on ≠ i) → oi.apart ops oj = true) →
      i ∈ Region.ready md ops listed → PureY P ops oi v a →
      wpAny P md ops Q fuel (listed.setIfInBounds i true) (a.put oi.dst v) w → wpAny P md ops Q (fuel + 1) listed a w := by
  intro fuel
  induction fuel with
  | zero =>
    intro listed a w _ hr hy H
    refine ⟨fun h => (by rw [h] at hr; cases hr), fun j hj => ?_⟩
    by_cases hji : j = i
    · subst hji; exact hy.wpOp hi H
    · have := ready_mono hj hji
      rw [H.1] at this
      cases this
  | succ fuel ih =>
    intro listed a w hfree hr hy H
    refine ⟨fun h => (by rw [h] at hr; cases hr), fun j hj => ?_⟩
    by_cases hji : j = i
    · subst hji; exact hy.wpOp hi H
    · have h1 := H.2 j (ready_mono hj hji)
      obtain ⟨hjun, oj, hoj, hall⟩ := mem_ready.1 hj
      have hnot : ∀ e ∈ oj.after, Region.binds md e = true → e.on ≠ i := fun e he hb heq => by
        have h1 := hall e he hb
        have h0 := (mem_ready.1 hr).1
        rw [heq] at h1
        rcases Nat.lt_or_ge i listed.size with h' | h'
        · simp [h'] at h0 h1; rw [h0] at h1; cases h1
        · simp [Array.getElem?_eq_none h'] at h1
      have h2 := wpOp_put hQ hoj (hfree j oj hoj hji hjun hnot) (fun cs b => hsel i oi cs b hi) (fun cs b => hsel j oj cs b hoj) hy h1
      have hfree' : ∀ k ok, ops[k]? = some ok → k ≠ i → (listed.setIfInBounds j true).getD k true = false →
          (∀ e ∈ ok.after, Region.binds md e = true → e.on ≠ i) → oi.apart ops ok = true := fun k ok hk hki hun hno => by
        refine hfree k ok hk hki ?_ hno
        by_cases hjk : j = k
        · subst hjk; exact hjun
        · rw [getD_set_ne true hjk] at hun; exact hun
      refine wpOp_mono (fun a' w' h3 => ih (listed.setIfInBounds j true) a' w' hfree' (ready_mono hr (Ne.symm hji)) h3.1 ?_) h2
      rw [Array.setIfInBounds_comm _ _ hji]
      exact h3.2
/-- The same, its conditions as one closed test. -/
def firstB (md : Region.Mode) (ops : Array Oper) (i : Nat) (d : Array Bool) : Bool := Region.noSelect ops && (Region.ready md ops d).contains i && Region.free md ops d i
theorem wpAny_pure {Q : Exit → Act → World → Prop} (hQ : ∀ c a d v w, Q (.panic c) (Act.put a d v) w → Q (.panic c) a w) (i : Nat) {oi : Oper} (v : Value) {fuel : Nat} {listed d' : Array Bool} {a : Act} {w : World} (hi : ops[i]? = some oi)
    (hB : firstB md ops i listed = true) (hd : listed.setIfInBounds i true = d') (hy : PureY P ops oi v a) (H : wpAny P md ops Q fuel d' (a.put oi.dst v) w) : wpAny P md ops Q (fuel + 1) listed a w := by
  unfold firstB at hB
  simp only [Bool.and_eq_true] at hB
  subst hd
  exact wpAny_first hQ hi (Region.noSelect_spec hB.1.1) fuel listed a w (Region.free_spec hi hB.2) (List.contains_iff_mem.1 hB.1.2) hy H
end
end Go.Proofs.Ytlnfffenahjcnaa
