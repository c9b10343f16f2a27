/-
  Merged parts in memory: mean.Merge, the reference's Merge and Same.
-/
import Derived.Test.YtlnfffenahjcnaaMenP
import Derived.Test.YtlnfffenahjcnaaSpanL
namespace Go.Proofs.Ytlnfffenahjcnaa
open Go.RowKit
attribute [local go_sem] BW.cell BW.frozen
/-- The cells of parts. -/
def pcells : List Pt → List Value
  | [] => []
  | (a, b, c) :: l => .int .i64 a :: .int .i64 b :: .int .i64 c :: pcells l
theorem pcells_append (l k : List Pt) : pcells (l ++ k) = pcells l ++ pcells k := by
  induction l with
  | nil => rfl
  | cons x l ih => simp [pcells, ih]
theorem pcells_len (l : List Pt) : (pcells l).length = l.length * 3 := by
  induction l with
  | nil => rfl
  | cons x l ih => simp [pcells, ih]; omega
theorem pcells_get (l : List Pt) (k : Nat) (h : k < l.length) : (pcells l)[k * 3]? = some (.int .i64 (pt l k).1) ∧ (pcells l)[k * 3 + 1]? = some (.int .i64 (pt l k).2.1) ∧ (pcells l)[k * 3 + 2]? = some (.int .i64 (pt l k).2.2) := by
  induction l generalizing k with
  | nil => simp at h
  | cons x l ih =>
    cases k with
    | zero => simp [pcells, pt]
    | succ k =>
      have := ih k (by simpa using h)
      rw [show (k + 1) * 3 = k * 3 + 1 + 1 + 1 by omega]
      simpa [pcells, pt] using this
/-- v is a slice of parts that reads as l, in memory from block B on. -/
def PtsAt (w : World) (B : Nat) (v : Value) (l : List Pt) : Prop := w.ownsRow B 39 3 v l.length (pcells l)
theorem PtsAt.below {w w' : World} {B : Nat} {v : Value} {l : List Pt} (h : PtsAt w B v l) (hb : Below w.heap.size w w') : PtsAt w' B v l := own_below h hb
theorem PtsAt.nil (w : World) (B : Nat) : PtsAt w B (.slice none 0 0) [] := World.ownsRow_nil w B _ _
theorem PtsAt.lt {w : World} {B : Nat} {v : Value} {l : List Pt} (h : PtsAt w B v l) : ∀ k, v.ownBlock = some k → B ≤ k := fun k hk => (World.ownsRow.lt h k hk).1
theorem PtsAt.mono {w : World} {B B' : Nat} {v : Value} {l : List Pt} (h : PtsAt w B v l) (hB : B' ≤ B) : PtsAt w B' v l := by
  obtain ⟨h1, h2⟩ := h
  refine ⟨h1, ?_⟩
  rcases h2 with h2 | ⟨g, cap, cur, hv, hg, r⟩
  · exact .inl h2
  · exact .inr ⟨g, cap, cur, hv, Nat.le_trans hB hg, r⟩
/-- Where its parts lie. -/
theorem PtsAt.at {w : World} {B g : Nat} {n cap : Nat} {l : List Pt} (h : PtsAt w B (.slice (some ⟨g, 0, none⟩) n cap) l) : n = l.length ∧ B ≤ g ∧ g < w.heap.size ∧ l.length ≤ cap ∧ cap ≤ maxLen ∧ PtAt w g 0 l := by
  obtain ⟨h1, h2⟩ := h
  rcases h2 with ⟨hv, _⟩ | ⟨g', cap', cur, hv, hg, hh, hn, hc, hs, ht⟩
  · cases hv
  · have hcur := hv
    simp only [Value.slice.injEq, Option.some.injEq, Addr.mk.injEq, and_true] at hv
    obtain ⟨rfl, rfl, rfl⟩ := hv
    have hown : w.ownsRow B 39 3 (.slice (some ⟨g, 0, none⟩) l.length cap) l.length (pcells l) := ⟨h1, .inr ⟨g, cap, cur, rfl, hg, hh, hn, hc, hs, ht⟩⟩
    refine ⟨rfl, hg, (Array.getElem?_eq_some_iff.1 hh).1, hn, hc, fun k hk => ?_⟩
    obtain ⟨e1, e2, e3⟩ := pcells_get l k hk
    rw [Nat.zero_add]
    exact ⟨(hown.cellAt _ (by omega)).trans e1, (hown.cellAt _ (by omega)).trans e2, (hown.cellAt _ (by omega)).trans e3⟩
/-- A slice of parts of a call's own, as one that came in. -/
theorem PtsAt.toS {w : World} {B : Nat} {v : Value} {l : List Pt} (h : PtsAt w B v l) : ∃ p cap, v = .slice p l.length cap ∧ l.length ≤ maxLen ∧ PtS w p l := by
  have h0 := h
  obtain ⟨h1, h2⟩ := h
  rcases h2 with ⟨rfl, hn⟩ | ⟨g, cap, cur, rfl, hg, hh, hn, hc, hs, ht⟩
  · exact ⟨none, 0, by rw [hn], by omega, .inl (List.eq_nil_of_length_eq_zero hn)⟩
  · obtain ⟨_, _, a, b, c, d⟩ := h0.at
    exact ⟨_, cap, rfl, by omega, .inr ⟨g, 0, rfl, a, d⟩⟩
theorem Try.infoPt : (Try.prog.info? 39).map (fun i => (i.zero, i.size, i.bytes)) = some (some (.agg #[.int .i64 0, .int .i64 0, .int .i64 0]), 3, 24) := by kernel_rfl
/-- append(l, p), p one part. -/
theorem app_pt {Q : Exit → Act → World → Prop} {ops : Array Oper} {rest : List Oper} {o : Oper} {a : Act} {w : World} (hgd : o.guard = none) (s x : Operand)
    (ho : o.op = .call { callee := .builtin .append, args := #[s, x], argTypes := #[22, 22] }) (B : Nat) (v : Value) (l : List Pt) (hs : a.eval s = v) (hown : PtsAt w B v l) (ad : Addr) (p q r : Int)
    (hx : a.eval x = .slice (some ad) 1 1) (h0 : w.cell? (ad.add 0) = some (.int .i64 p)) (h1 : w.cell? (ad.add 1) = some (.int .i64 q)) (h2 : w.cell? (ad.add 2) = some (.int .i64 r)) (hn : l.length ≤ 1000000000000) (hB : B ≤ w.heap.size)
    (h : ∀ g cap w', PtsAt w' B (.slice (some ⟨g, 0, none⟩) (l.length + 1) cap) (l ++ [(p, q, r)]) → Below B w w' → wpList Try.prog ops Q rest (a.put o.dst (.slice (some ⟨g, 0, none⟩) (l.length + 1) cap)) w') : wpList Try.prog ops Q (o :: rest) a w := by
  obtain ⟨i, hi, hz0, hz1, hz2⟩ := info_parts Try.infoPt
  refine wpList_append_own w hgd s x 22 ho B 39 i _ 3 24 Try.underlying22 hi hz0 hz1 hz2 rfl (by decide) v l.length (pcells l) hs hown ad 1 1 [.int .i64 p, .int .i64 q, .int .i64 r] hx rfl ?_ ?_ (by unfold maxLen; omega) (by omega) hB ?_
  · intro j u hj
    match j, hj with
    | 0, hj => simp at hj; rw [h0, hj]
    | 1, hj => simp at hj; rw [h1, hj]
    | 2, hj => simp at hj; rw [h2, hj]
  · intro u hu; simp at hu; rcases hu with rfl | rfl | rfl <;> rfl
  · intro v' w' h2 h3 _
    have hp : PtsAt w' B v' (l ++ [(p, q, r)]) := by
      unfold PtsAt
      rw [pcells_append]
      simpa [pcells] using h2
    obtain ⟨g, cap, rfl⟩ := ownsRow_succ h2
    exact h g cap w' hp ((Below.refl _ _).grown h3 hB hown.lt)
theorem Below.ofRow {B : Nat} {w : World} {b j : Nat} {u : Value} (h : B ≤ b) : Below B w (w.setCell ⟨b, j, none⟩ u) := (Below.refl _ _).setCell (p := ⟨b, j, none⟩) h u
/-- The last one's end is stored. -/
theorem PtsAt.store {w : World} {B g cap : Nat} {o : List Pt} {q : Pt} {n : Nat} (h : PtsAt w B (.slice (some ⟨g, 0, none⟩) n cap) (o ++ [q])) (t : Int) :
    PtsAt (w.setCell ⟨g, o.length * 3 + 1, none⟩ (.int .i64 t)) B (.slice (some ⟨g, 0, none⟩) n cap) (o ++ [(q.1, t, q.2.2)]) := by
  obtain ⟨rfl, _⟩ := h.at
  have hh : w.ownsRow B 39 3 (.slice (some ⟨g, 0, none⟩) (o ++ [q]).length cap) (o ++ [q]).length (pcells (o ++ [q])) := h
  have := (hh.stored (o.length * 3 + 1) (.int .i64 t)).1
  unfold PtsAt
  have e : (pcells (o ++ [q])).set (o.length * 3 + 1) (.int .i64 t) = pcells (o ++ [(q.1, t, q.2.2)]) := by
    rw [pcells_append, pcells_append, ← pcells_len o, List.set_append_right _ _ (by omega), Nat.add_sub_cancel_left]
    rfl
  rw [e] at this
  simp only [List.length_append, List.length_singleton] at this ⊢
  exact this
end Go.Proofs.Ytlnfffenahjcnaa
