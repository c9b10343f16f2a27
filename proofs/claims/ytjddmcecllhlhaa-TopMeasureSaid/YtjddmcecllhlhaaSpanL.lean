/-
  Lists of spans in memory; span.Less and the reference's Less.
-/
import Derived.Test.YtjddmcecllhlhaaSpanR
import Derived.LoopN
namespace Go.Proofs.Ytjddmcecllhlhaa
open Go.RowKit

/-- The cells of a list of spans. -/
def scells : List (Int × Int) → List Value
  | [] => []
  | (a, b) :: l => .int .i64 a :: .int .i64 b :: scells l
theorem scells_append (l k : List (Int × Int)) : scells (l ++ k) = scells l ++ scells k := by
  induction l with
  | nil => rfl
  | cons x l ih => simp [scells, ih]
/-- v is a slice of spans that reads as l, in memory from block B on. -/
def SpansAt (w : World) (B : Nat) (v : Value) (l : List (Int × Int)) : Prop := w.ownsRow B 24 2 v l.length (scells l)
theorem own_below {w w' : World} {B : Nat} {e : TypeId} {size : Nat} {v : Value} {n : Nat} {xs : List Value} (h : w.ownsRow B e size v n xs) (hb : Below w.heap.size w w') : w'.ownsRow B e size v n xs := by
  obtain ⟨h1, h2⟩ := h
  refine ⟨h1, ?_⟩
  rcases h2 with h2 | ⟨g, cap, cur, hv, hg, hh, r⟩
  · exact .inl h2
  · exact .inr ⟨g, cap, cur, hv, hg, by rw [hb.block g (Array.getElem?_eq_some_iff.1 hh).1]; exact hh, r⟩
theorem SpansAt.below {w w' : World} {B : Nat} {v : Value} {l : List (Int × Int)} (h : SpansAt w B v l) (hb : Below w.heap.size w w') : SpansAt w' B v l := own_below h hb
theorem SpansAt.nil (w : World) (B : Nat) : SpansAt w B (.slice none 0 0) [] := World.ownsRow_nil w B _ _
theorem SpansAt.lt {w : World} {B : Nat} {v : Value} {l : List (Int × Int)} (h : SpansAt w B v l) : ∀ k, v.ownBlock = some k → B ≤ k := fun k hk => (World.ownsRow.lt h k hk).1

theorem SpansAt.mono {w : World} {B B' : Nat} {v : Value} {l : List (Int × Int)} (h : SpansAt w B v l) (hB : B' ≤ B) : SpansAt w B' v l := by
  obtain ⟨h1, h2⟩ := h
  refine ⟨h1, ?_⟩
  rcases h2 with h2 | ⟨g, cap, cur, hv, hg, r⟩
  · exact .inl h2
  · exact .inr ⟨g, cap, cur, hv, Nat.le_trans hB hg, r⟩

theorem Try.infoSpan : (Try.prog.info? 24).map (fun i => (i.zero, i.size, i.bytes)) = some (some (.agg #[.int .i64 0, .int .i64 0]), 2, 16) := by kernel_rfl

/-- append(l, s), s one span. -/
theorem app_span {Q : Exit → Act → World → Prop} {ops : Array Oper} {rest : List Oper} {o : Oper} {a : Act} {w : World} (hgd : o.guard = none) (s x : Operand)
    (ho : o.op = .call { callee := .builtin .append, args := #[s, x], argTypes := #[22, 22] }) (B : Nat) (v : Value) (l : List (Int × Int)) (hs : a.eval s = v) (hown : SpansAt w B v l) (ad : Addr) (p q : Int)
    (hx : a.eval x = .slice (some ad) 1 1) (h0 : w.cell? (ad.add 0) = some (.int .i64 p)) (h1 : w.cell? (ad.add 1) = some (.int .i64 q)) (hn : l.length ≤ 1000000000000) (hB : B ≤ w.heap.size)
    (h : ∀ v' w', SpansAt w' B v' (l ++ [(p, q)]) → Below B w w' → wpList Try.prog ops Q rest (a.put o.dst v') w') : wpList Try.prog ops Q (o :: rest) a w := by
  obtain ⟨i, hi, hz0, hz1, hz2⟩ := info_parts Try.infoSpan
  refine wpList_append_own w hgd s x 22 ho B 24 i _ 2 16 Try.underlying22 hi hz0 hz1 hz2 rfl (by decide) v l.length (scells l) hs hown ad 1 1 [.int .i64 p, .int .i64 q] hx rfl ?_ ?_ (by unfold maxLen; omega) (by omega) hB ?_
  · intro j u hj
    match j, hj with
    | 0, hj => simp at hj; rw [h0, hj]
    | 1, hj => simp at hj; rw [h1, hj]
  · intro u hu; simp at hu; rcases hu with rfl | rfl <;> rfl
  · intro v' w' h2 h3 _
    refine h v' w' ?_ ((Below.refl _ _).grown h3 hB hown.lt)
    unfold SpansAt
    rw [scells_append]
    simpa [scells] using h2

/-- What one span has, and the other has not. -/
def lessL (a b c d : Int) : List (Int × Int) :=
  if meetB a b c d = true then (if a < c then [(a, c)] else []) ++ (if d < b then [(d, b)] else []) else if a < b then [(a, b)] else []

/-- A call that hands back a slice of spans, in new memory. -/
def GivesL (w : World) (l : List (Int × Int)) (e : Ending) (w' : World) : Prop := ∃ v, e = .returned v ∧ SpansAt w' w.heap.size v l ∧ Below w.heap.size w w'

theorem less_cases (a b c d : Int) : ((meetB a b c d = true ∧ a < c ∧ d < b) ∧ lessL a b c d = [(a, c), (d, b)]) ∨ ((meetB a b c d = true ∧ a < c ∧ ¬ d < b) ∧ lessL a b c d = [(a, c)]) ∨
    ((meetB a b c d = true ∧ ¬ a < c ∧ d < b) ∧ lessL a b c d = [(d, b)]) ∨ ((meetB a b c d = true ∧ ¬ a < c ∧ ¬ d < b) ∧ lessL a b c d = []) ∨
    ((meetB a b c d = false ∧ a < b) ∧ lessL a b c d = [(a, b)]) ∨ ((meetB a b c d = false ∧ ¬ a < b) ∧ lessL a b c d = []) := by
  cases hm : meetB a b c d <;> by_cases h1 : a < c <;> by_cases h2 : d < b <;> by_cases h3 : a < b <;> simp [lessL, hm, h1, h2, h3]
end Go.Proofs.Ytjddmcecllhlhaa
