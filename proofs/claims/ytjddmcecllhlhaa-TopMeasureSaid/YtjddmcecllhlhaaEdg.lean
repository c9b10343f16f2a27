/-
  spans.edges, but for the sorting: the edges of two lists, in memory.
-/
import Derived.Test.YtjddmcecllhlhaaSps
namespace Go.Proofs.Ytjddmcecllhlhaa
open Go.RowKit Swp
attribute [local go_sem] BW.cell BW.frozen
/-- The cells of edges. -/
def ecells : List Pt → List Value
  | [] => []
  | (a, b, c) :: l => .int .i64 a :: .int .i64 b :: .int .i64 c :: ecells l
theorem ecells_append (l k : List Pt) : ecells (l ++ k) = ecells l ++ ecells k := by
  induction l with
  | nil => rfl
  | cons x l ih => simp [ecells, ih]
theorem ecells_len (l : List Pt) : (ecells l).length = l.length * 3 := by
  induction l with
  | nil => rfl
  | cons x l ih => simp [ecells, ih]; omega
theorem ecells_get (l : List Pt) (k : Nat) (h : k < l.length) : (ecells l)[k * 3]? = some (.int .i64 (pt l k).1) ∧ (ecells l)[k * 3 + 1]? = some (.int .i64 (pt l k).2.1) ∧ (ecells l)[k * 3 + 2]? = some (.int .i64 (pt l k).2.2) := by
  induction l generalizing k with
  | nil => simp at h
  | cons x l ih =>
    cases k with
    | zero => simp [ecells, pt]
    | succ k =>
      have := ih k (by simpa using h)
      rw [show (k + 1) * 3 = k * 3 + 1 + 1 + 1 by omega]
      simpa [ecells, pt] using this
/-- v is a slice of edges that reads as l, in memory from block B on. -/
def EdsAt (w : World) (B : Nat) (v : Value) (l : List Pt) : Prop := w.ownsRow B 53 3 v l.length (ecells l)
theorem EdsAt.below {w w' : World} {B : Nat} {v : Value} {l : List Pt} (h : EdsAt w B v l) (hb : Below w.heap.size w w') : EdsAt w' B v l := own_below h hb
theorem EdsAt.nil (w : World) (B : Nat) : EdsAt w B (.slice none 0 0) [] := World.ownsRow_nil w B _ _
theorem EdsAt.lt {w : World} {B : Nat} {v : Value} {l : List Pt} (h : EdsAt w B v l) : ∀ k, v.ownBlock = some k → B ≤ k := fun k hk => (World.ownsRow.lt h k hk).1
/-- Where its edges lie. -/
theorem EdsAt.at {w : World} {B g : Nat} {n cap : Nat} {l : List Pt} (h : EdsAt w B (.slice (some ⟨g, 0, none⟩) n cap) l) : n = l.length ∧ B ≤ g ∧ g < w.heap.size ∧ l.length ≤ cap ∧ cap ≤ maxLen ∧ PtAt w g 0 l ∧ ∀ j, w.frozen? ⟨g, j, none⟩ = false := by
  obtain ⟨h1, h2⟩ := h
  rcases h2 with ⟨hv, _⟩ | ⟨g', cap', cur, hv, hg, hh, hn, hc, hs, ht⟩
  · cases hv
  · have hcur := hv
    simp only [Value.slice.injEq, Option.some.injEq, Addr.mk.injEq, and_true] at hv
    obtain ⟨rfl, rfl, rfl⟩ := hv
    have hown : w.ownsRow B 53 3 (.slice (some ⟨g, 0, none⟩) l.length cap) l.length (ecells l) := ⟨h1, .inr ⟨g, cap, cur, rfl, hg, hh, hn, hc, hs, ht⟩⟩
    refine ⟨rfl, hg, (Array.getElem?_eq_some_iff.1 hh).1, hn, hc, fun k hk => ?_, hown.frozenAt⟩
    obtain ⟨e1, e2, e3⟩ := ecells_get l k hk
    rw [Nat.zero_add]
    exact ⟨(hown.cellAt _ (by omega)).trans e1, (hown.cellAt _ (by omega)).trans e2, (hown.cellAt _ (by omega)).trans e3⟩
theorem Try.infoEd : (Try.prog.info? 53).map (fun i => (i.zero, i.size, i.bytes)) = some (some (.agg #[.int .i64 0, .int .i64 0, .int .i64 0]), 3, 24) := by kernel_rfl
/-- append(l, x, y), x and y edges. -/
theorem app_ed {Q : Exit → Act → World → Prop} {ops : Array Oper} {rest : List Oper} {o : Oper} {a : Act} {w : World} (hgd : o.guard = none) (s x : Operand)
    (ho : o.op = .call { callee := .builtin .append, args := #[s, x], argTypes := #[50, 50] }) (B : Nat) (v : Value) (l : List Pt) (hs : a.eval s = v) (hown : EdsAt w B v l) (ad : Addr) (p q k : Int)
    (hx : a.eval x = .slice (some ad) 2 2) (hc : ∀ j u, [Value.int .i64 p, .int .i64 1, .int .i64 k, .int .i64 q, .int .i64 (-1), .int .i64 k][j]? = some u → w.cell? (ad.add j) = some u) (hn : l.length ≤ 400000) (hB : B ≤ w.heap.size)
    (h : ∀ v' w', EdsAt w' B v' (l ++ [(p, 1, k), (q, -1, k)]) → Below B w w' → wpList Try.prog ops Q rest (a.put o.dst v') w') : wpList Try.prog ops Q (o :: rest) a w := by
  obtain ⟨i, hi, hz0, hz1, hz2⟩ := info_parts Try.infoEd
  refine wpList_append_own w hgd s x 50 ho B 53 i _ 3 24 Try.underlying50 hi hz0 hz1 hz2 rfl (by decide) v l.length (ecells l) hs hown ad 2 2 [.int .i64 p, .int .i64 1, .int .i64 k, .int .i64 q, .int .i64 (-1), .int .i64 k] hx rfl hc ?_ (by unfold maxLen; omega) (by omega) hB ?_
  · intro u hu; simp at hu; rcases hu with rfl | rfl | rfl | rfl | rfl | rfl <;> rfl
  · intro v' w' h2 h3 _
    refine h v' w' ?_ ((Below.refl _ _).grown h3 hB hown.lt)
    unfold EdsAt
    rw [ecells_append]
    simpa [ecells] using h2
theorem edg_take {k : Int} {l : List Sp} {n : Nat} (h : n < l.length) : edg k (l.take (n + 1)) = edg k (l.take n) ++ (if (spa l n).1 < (spa l n).2 then [((spa l n).1, 1, k), ((spa l n).2, -1, k)] else []) := by
  rw [List.take_succ_eq_append_getElem h]
  unfold edg
  rw [List.flatMap_append, List.flatMap_singleton, spa_get h]
end Go.Proofs.Ytjddmcecllhlhaa
