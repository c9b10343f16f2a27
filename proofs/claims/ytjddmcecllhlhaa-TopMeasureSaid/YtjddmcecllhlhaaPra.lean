/-
  Slices of parts and of spans of a call's own.
-/
import Derived.Test.YtjddmcecllhlhaaEdg
namespace Go.Proofs.Ytjddmcecllhlhaa
open Go.RowKit
attribute [local go_sem] BW.cell BW.frozen
/-- v is a slice of parts that reads as l, in memory from block B on. -/
def PrtAt (w : World) (B : Nat) (v : Value) (l : List Pt) : Prop := w.ownsRow B 33 3 v l.length (ecells l)
theorem PrtAt.below {w w' : World} {B : Nat} {v : Value} {l : List Pt} (h : PrtAt w B v l) (hb : Below w.heap.size w w') : PrtAt w' B v l := own_below h hb
theorem PrtAt.nil (w : World) (B : Nat) : PrtAt w B (.slice none 0 0) [] := World.ownsRow_nil w B _ _
theorem PrtAt.lt {w : World} {B : Nat} {v : Value} {l : List Pt} (h : PrtAt w B v l) : ∀ k, v.ownBlock = some k → B ≤ k := fun k hk => (World.ownsRow.lt h k hk).1
theorem PrtAt.toS {w : World} {B : Nat} {v : Value} {l : List Pt} (h : PrtAt w B v l) : ∃ p cap, v = .slice p l.length cap ∧ PtS w p l := by
  obtain ⟨h1, h2⟩ := h
  rcases h2 with ⟨rfl, hn⟩ | ⟨g, cap, cur, rfl, hg, hh, hn, hc, hs, ht⟩
  · exact ⟨none, 0, by rw [hn], .inl (List.eq_nil_of_length_eq_zero hn)⟩
  · have hown : w.ownsRow B 33 3 (.slice (some ⟨g, 0, none⟩) l.length cap) l.length (ecells l) := ⟨h1, .inr ⟨g, cap, cur, rfl, hg, hh, hn, hc, hs, ht⟩⟩
    refine ⟨_, cap, rfl, .inr ⟨g, 0, rfl, (Array.getElem?_eq_some_iff.1 hh).1, fun k hk => ?_⟩⟩
    obtain ⟨e1, e2, e3⟩ := ecells_get l k hk
    rw [Nat.zero_add]
    exact ⟨(hown.cellAt _ (by omega)).trans e1, (hown.cellAt _ (by omega)).trans e2, (hown.cellAt _ (by omega)).trans e3⟩
theorem Try.infoPr : (Try.prog.info? 33).map (fun i => (i.zero, i.size, i.bytes)) = some (some (.agg #[.int .i64 0, .int .i64 0, .int .i64 0]), 3, 24) := by kernel_rfl
theorem app_prt {Q : Exit → Act → World → Prop} {ops : Array Oper} {rest : List Oper} {o : Oper} {a : Act} {w : World} (hgd : o.guard = none) (s x : Operand)
    (ho : o.op = .call { callee := .builtin .append, args := #[s, x], argTypes := #[31, 31] }) (B : Nat) (v : Value) (l : List Pt) (hs : a.eval s = v) (hown : PrtAt w B v l) (ad : Addr) (p q r : Int)
    (hx : a.eval x = .slice (some ad) 1 1) (h0 : w.cell? (ad.add 0) = some (.int .i64 p)) (h1 : w.cell? (ad.add 1) = some (.int .i64 q)) (h2 : w.cell? (ad.add 2) = some (.int .i64 r)) (hn : l.length ≤ 400000) (hB : B ≤ w.heap.size)
    (h : ∀ v' w', PrtAt w' B v' (l ++ [(p, q, r)]) → Below B w w' → wpList Try.prog ops Q rest (a.put o.dst v') w') : wpList Try.prog ops Q (o :: rest) a w := by
  obtain ⟨i, hi, hz0, hz1, hz2⟩ := info_parts Try.infoPr
  refine wpList_append_own w hgd s x 31 ho B 33 i _ 3 24 Try.underlying31 hi hz0 hz1 hz2 rfl (by decide) v l.length (ecells l) hs hown ad 1 1 [.int .i64 p, .int .i64 q, .int .i64 r] hx rfl ?_ ?_ (by unfold maxLen; omega) (by omega) hB ?_
  · intro j u hj
    match j, hj with
    | 0, hj => simp at hj; rw [h0, hj]
    | 1, hj => simp at hj; rw [h1, hj]
    | 2, hj => simp at hj; rw [h2, hj]
  · intro u hu; simp at hu; rcases hu with rfl | rfl | rfl <;> rfl
  · intro v' w' h2 h3 _
    refine h v' w' ?_ ((Below.refl _ _).grown h3 hB hown.lt)
    unfold PrtAt
    rw [ecells_append]
    simpa [ecells] using h2
/-- A slice of spans that is looked at: what it reads, and how much room it has. -/
def SpV (w : World) (v : Value) (l : List Sp) : Prop := (l = [] ∧ ∃ p cap, v = .slice p 0 cap) ∨ ∃ b off cap, v = .slice (some ⟨b, off, none⟩) l.length cap ∧ b < w.heap.size ∧ l.length ≤ cap ∧ cap ≤ maxLen ∧ SpAt w b off l
theorem SpansAt.toV {w : World} {B : Nat} {v : Value} {l : List Sp} (h : SpansAt w B v l) : SpV w v l := by
  have h0 := h
  obtain ⟨h1, h2⟩ := h
  rcases h2 with ⟨rfl, hn⟩ | ⟨g, cap, cur, rfl, hg, hh, hn, hc, hs, ht⟩
  · exact .inl ⟨List.eq_nil_of_length_eq_zero hn, none, 0, rfl⟩
  · obtain ⟨_, _, a, b, c, d⟩ := h0.at
    exact .inr ⟨g, 0, cap, rfl, a, b, c, d⟩
theorem SpV.below {w w' : World} {v : Value} {l : List Sp} (h : SpV w v l) (hb : Below w.heap.size w w') : SpV w' v l := by
  rcases h with h | ⟨b, off, cap, e, h1, h2, h3, h4⟩
  · exact .inl h
  · exact .inr ⟨b, off, cap, e, Nat.lt_of_lt_of_le h1 hb.size, h2, h3, h4.below hb h1⟩
theorem SpV.nil {w : World} {v : Value} (h : SpV w v []) : ∃ p cap, v = .slice p 0 cap := by
  rcases h with ⟨_, h⟩ | ⟨b, off, cap, e, _⟩
  · exact h
  · exact ⟨_, cap, e⟩
theorem SpV.cons {w : World} {v : Value} {x : Sp} {l : List Sp} (h : SpV w v (x :: l)) : ∃ b off cap, v = .slice (some ⟨b, off, none⟩) (l.length + 1) cap ∧ b < w.heap.size ∧ l.length + 1 ≤ cap ∧ cap ≤ maxLen ∧ w.cell? ⟨b, off, none⟩ = some (.int .i64 x.1) ∧ w.cell? ⟨b, off + 1, none⟩ = some (.int .i64 x.2) ∧ SpAt w b (off + 2) l := by
  rcases h with ⟨h, _⟩ | ⟨b, off, cap, e, h1, h2, h3, h4⟩
  · cases h
  · obtain ⟨c0, c1⟩ := h4 0 (by simp)
    exact ⟨b, off, cap, e, h1, h2, h3, by simpa [spa] using c0, by simpa [spa] using c1, h4.tail⟩
theorem SpV.rest {w : World} {b off cap : Nat} {l : List Sp} (h1 : b < w.heap.size) (h2 : l.length + 1 ≤ cap) (h3 : cap ≤ maxLen) (h4 : SpAt w b (off + 2) l) : SpV w (.slice (if cap = 1 then some ⟨b, off, none⟩ else some ⟨b, off + 2, none⟩) l.length (cap - 1)) l := by
  by_cases h : cap = 1
  · rw [if_pos h]
    obtain rfl : l = [] := List.eq_nil_of_length_eq_zero (by omega)
    exact .inl ⟨rfl, _, _, rfl⟩
  · rw [if_neg h]
    exact .inr ⟨b, off + 2, cap - 1, rfl, h1, by omega, by omega, h4⟩
end Go.Proofs.Ytjddmcecllhlhaa
