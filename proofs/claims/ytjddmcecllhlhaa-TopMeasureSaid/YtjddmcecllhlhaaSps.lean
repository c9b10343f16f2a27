/-
  Slices of spans: how they lie, what is read; one that came in, opened.
-/
import Derived.Test.YtjddmcecllhlhaaSpanL
import Derived.Test.YtjddmcecllhlhaaMenA
import Derived.Test.YtjddmcecllhlhaaMenB
import Derived.Test.YtjddmcecllhlhaaSwpB
import Derived.Deep.Slices
import Derived.WideKeyArgs
import Derived.Lib.SmallJoins
namespace Go.Proofs.Ytjddmcecllhlhaa
open Go.RowKit Go.ChangeShapes Go.WideShapes Go.Deep
abbrev Sp := Int × Int
def spa (l : List Sp) (k : Nat) : Sp := l[k]?.getD (0, 0)
theorem spa_get {l : List Sp} {k : Nat} (h : k < l.length) : spa l k = l[k] := by unfold spa; rw [List.getElem?_eq_getElem h]; rfl
def SpAt (w : World) (b off : Nat) (l : List Sp) : Prop := ∀ k, k < l.length → w.cell? ⟨b, off + k * 2, none⟩ = some (.int .i64 (spa l k).1) ∧ w.cell? ⟨b, off + k * 2 + 1, none⟩ = some (.int .i64 (spa l k).2)
/-- A slice of spans. -/
def SpS (w : World) (p : Option Addr) (l : List Sp) : Prop := l = [] ∨ ∃ b off, p = some ⟨b, off, none⟩ ∧ b < w.heap.size ∧ SpAt w b off l
def SpI (x : Sp) : Prop := I64 x.1 ∧ I64 x.2
theorem SpAt.below {w w' : World} {b off : Nat} {l : List Sp} {B : Nat} (h : SpAt w b off l) (hb : Below B w w') (hB : b < B) : SpAt w' b off l := fun k hk => by
  obtain ⟨h0, h1⟩ := h k hk
  exact ⟨(hb.cell (p := ⟨b, _, none⟩) hB).trans h0, (hb.cell (p := ⟨b, _, none⟩) hB).trans h1⟩
theorem SpS.below {w w' : World} {p : Option Addr} {l : List Sp} (h : SpS w p l) (hb : Below w.heap.size w w') : SpS w' p l := by
  rcases h with h | ⟨b, off, e, hl, hc⟩
  · exact .inl h
  · exact .inr ⟨b, off, e, Nat.lt_of_lt_of_le hl hb.size, hc.below hb hl⟩
theorem SpAt.tail {w : World} {b off : Nat} {x : Sp} {l : List Sp} (h : SpAt w b off (x :: l)) : SpAt w b (off + 2) l := fun k hk => by
  obtain ⟨h0, h1⟩ := h (k + 1) (by simpa using hk)
  rw [show off + (k + 1) * 2 = off + 2 + k * 2 by omega] at h0 h1
  simpa [spa] using And.intro h0 h1
theorem scells_len (l : List Sp) : (scells l).length = l.length * 2 := by
  induction l with
  | nil => rfl
  | cons x l ih => simp [scells, ih]; omega
theorem scells_get (l : List Sp) (k : Nat) (h : k < l.length) : (scells l)[k * 2]? = some (.int .i64 (spa l k).1) ∧ (scells l)[k * 2 + 1]? = some (.int .i64 (spa l k).2) := by
  induction l generalizing k with
  | nil => simp at h
  | cons x l ih =>
    cases k with
    | zero => simp [scells, spa]
    | succ k =>
      have := ih k (by simpa using h)
      rw [show (k + 1) * 2 = k * 2 + 1 + 1 by omega]
      simpa [scells, spa] using this
/-- Where its spans lie. -/
theorem SpansAt.at {w : World} {B g : Nat} {n cap : Nat} {l : List Sp} (h : SpansAt w B (.slice (some ⟨g, 0, none⟩) n cap) l) : n = l.length ∧ B ≤ g ∧ g < w.heap.size ∧ l.length ≤ cap ∧ cap ≤ maxLen ∧ SpAt w g 0 l := by
  obtain ⟨h1, h2⟩ := h
  rcases h2 with ⟨hv, _⟩ | ⟨g', cap', cur, hv, hg, hh, hn, hc, hs, ht⟩
  · cases hv
  · have hcur := hv
    simp only [Value.slice.injEq, Option.some.injEq, Addr.mk.injEq, and_true] at hv
    obtain ⟨rfl, rfl, rfl⟩ := hv
    have hown : w.ownsRow B 24 2 (.slice (some ⟨g, 0, none⟩) l.length cap) l.length (scells l) := ⟨h1, .inr ⟨g, cap, cur, rfl, hg, hh, hn, hc, hs, ht⟩⟩
    refine ⟨rfl, hg, (Array.getElem?_eq_some_iff.1 hh).1, hn, hc, fun k hk => ?_⟩
    obtain ⟨e1, e2⟩ := scells_get l k hk
    rw [Nat.zero_add]
    exact ⟨(hown.cellAt _ (by omega)).trans e1, (hown.cellAt _ (by omega)).trans e2⟩
/-- A slice of spans of a call's own, as one that came in. -/
theorem SpansAt.toS {w : World} {B : Nat} {v : Value} {l : List Sp} (h : SpansAt w B v l) : ∃ p cap, v = .slice p l.length cap ∧ SpS w p l := by
  have h0 := h
  obtain ⟨h1, h2⟩ := h
  rcases h2 with ⟨rfl, hn⟩ | ⟨g, cap, cur, rfl, hg, hh, hn, hc, hs, ht⟩
  · exact ⟨none, 0, by rw [hn], .inl (List.eq_nil_of_length_eq_zero hn)⟩
  · obtain ⟨_, _, a, b, c, d⟩ := h0.at
    exact ⟨_, cap, rfl, .inr ⟨g, 0, rfl, a, d⟩⟩
theorem SpansAt.store {w : World} {B g cap : Nat} {o : List Sp} {q : Sp} {n : Nat} (h : SpansAt w B (.slice (some ⟨g, 0, none⟩) n cap) (o ++ [q])) (t : Int) :
    SpansAt (w.setCell ⟨g, o.length * 2 + 1, none⟩ (.int .i64 t)) B (.slice (some ⟨g, 0, none⟩) n cap) (o ++ [(q.1, t)]) := by
  obtain ⟨rfl, _⟩ := h.at
  have hh : w.ownsRow B 24 2 (.slice (some ⟨g, 0, none⟩) (o ++ [q]).length cap) (o ++ [q]).length (scells (o ++ [q])) := h
  have := (hh.stored (o.length * 2 + 1) (.int .i64 t)).1
  unfold SpansAt
  have e : (scells (o ++ [q])).set (o.length * 2 + 1) (.int .i64 t) = scells (o ++ [(q.1, t)]) := by
    rw [scells_append, scells_append, ← scells_len o, List.set_append_right _ _ (by omega), Nat.add_sub_cancel_left]
    rfl
  rw [e] at this
  simp only [List.length_append, List.length_singleton] at this ⊢
  exact this
theorem choose_spans {p : Nat → Sp → Prop} : ∀ n : Nat, (∀ i, i < n → ∃ b, p i b) → ∃ l : List Sp, l.length = n ∧ ∀ i, i < l.length → p i (spa l i)
  | 0, _ => ⟨[], rfl, fun i hi => by simp at hi⟩
  | n + 1, h => by
    obtain ⟨l, hl, hp⟩ := choose_spans n (fun i hi => h i (by omega))
    obtain ⟨b, hb⟩ := h n (by omega)
    refine ⟨l ++ [b], by simp [hl], fun i hi => ?_⟩
    unfold spa
    rw [List.getElem?_append]
    split
    · exact hp i (by assumption)
    · have : i = n := by simp at hi; omega
      subst this
      simpa [hl] using hb
set_option maxRecDepth 100000 in
theorem span_cells {H : Type} {enc : TypeId × Value → H} {w : World} {base : Nat} {sp : Nat → Bool} {hd : Bool} {n : Nat} {cs : List Value} {x : DataW H × List MemPlace} (h : DataW.trod enc Try.prog w base sp hd n 24 cs = some x) :
    ∃ a b, cs = [.int .i64 a, .int .i64 b] ∧ SpI (a, b) := by
  have c1 : Try.prog.cellsOf 2 = 1 := by kernel_rfl
  have c2 : Try.prog.cellsOf 24 = 2 := by kernel_rfl
  obtain ⟨y0, y1, n1, _, hl, h0, h1⟩ := trod_struct2 Try.underlying24 h
  rw [c2] at hl
  match cs, hl with
  | [u0, u1], _ =>
    rw [c1] at h0 h1
    simp at h0 h1
    obtain ⟨a, e0, _, w0⟩ := DataW.trod_int Try.underlying2 h0
    obtain ⟨b, e1, _, w1⟩ := DataW.trod_int Try.underlying2 h1
    simp at e0 e1
    subst e0 e1
    exact ⟨a, b, rfl, I64.of_wf w0, I64.of_wf w1⟩
set_option maxRecDepth 100000 in
theorem spans_of {H : Type} {enc : TypeId × Value → H} {w : World} {v : Value} {d : DataW H} {ps : List MemPlace} (hv : ∃ a len cap, v = .slice a len cap) (h : DataW.Trod enc Try.prog w 0 (fun _ => true) true 22 v d ps) :
    ∃ (p : Option Addr) (cap : Nat) (l : List Sp), v = .slice p l.length cap ∧ (∀ k, k < l.length → SpI (spa l k)) ∧ SpS w p l := by
  have c2 : Try.prog.cellsOf 24 = 2 := by kernel_rfl
  obtain ⟨a, len, cap, rfl⟩ := hv
  obtain ⟨n, hn⟩ := h
  rcases open_slice Try.underlying22 (by simpa [Value.cells] using hn) with ⟨hcs, _⟩ | ⟨a', len', cap', m, n', D, Pl, hcs, _, hl, hm, hmm, _, hcell⟩
  · simp at hcs
    obtain ⟨rfl, rfl, rfl⟩ := hcs
    exact ⟨none, 0, [], rfl, fun k hk => by simp at hk, .inl rfl⟩
  · simp at hcs
    obtain ⟨rfl, rfl, rfl⟩ := hcs
    simp at hmm
    subst hmm
    rw [c2] at hcell
    obtain ⟨l, hll, hp⟩ := choose_spans (p := fun i b => SpI b ∧ w.cell? (a'.add (i * 2)) = some (.int .i64 b.1) ∧ w.cell? (a'.add (i * 2 + 1)) = some (.int .i64 b.2)) len (fun i hi => by
      obtain ⟨cs', h1, h2⟩ := hcell i (by omega)
      obtain ⟨x, y, rfl, hI⟩ := span_cells h2
      obtain ⟨_, _, hc⟩ := World.cells?_some h1
      exact ⟨(x, y), hI, by simpa [Addr.add_add] using hc 0 (by simp), by simpa [Addr.add_add] using hc 1 (by simp)⟩)
    subst hll
    refine ⟨some a', _, l, rfl, fun k hk => (hp k hk).1, ?_⟩
    by_cases h0 : l = []
    · exact .inl h0
    · refine .inr ?_
      have hpos : 0 < l.length := List.length_pos_iff.2 h0
      obtain ⟨b, o, k⟩ := a'
      have hc0 := (hp 0 hpos).2.1
      have hs : k = none := by simpa [Addr.add] using World.cell?_spot hc0
      subst hs
      have hlt : b < w.heap.size := by
        simp [Addr.add, World.cell?] at hc0
        split at hc0
        · rename_i hb; exact (Array.getElem?_eq_some_iff.1 hb).1
        · cases hc0
      exact ⟨b, o, rfl, hlt, fun i hi => by obtain ⟨_, k1, k2⟩ := hp i hi; rw [add_plain] at k1 k2; exact ⟨k1, by rw [← Nat.add_assoc] at k2; exact k2⟩⟩
end Go.Proofs.Ytjddmcecllhlhaa
