/-
  format.written.
-/
import Derived.Test.YtjddmcecllhlhaaDoorClkA
import Derived.RangeFuncRecord
namespace Go.Proofs.YtjddmcecllhlhaaDoor
open Go.RowKit Go.Lib
/-- A row of one byte, just laid. -/
theorem BytesAt.new (w : World) (b : UInt8) : BytesAt (w.alloc (.cells #[.int .u8 (b.toNat : Int)] 5)) w.heap.size (.slice (some ⟨w.heap.size, 0, none⟩) 1 1) [b] := by
  refine ⟨by simp [bcells], .inr ⟨w.heap.size, 1, #[.int .u8 (b.toNat : Int)], rfl, Nat.le_refl _, World.alloc_heap_new _ _, by simp, by unfold maxLen; omega, by simp, by simp [bcells]⟩⟩
/-- append(l, b, c), two bytes. -/
theorem app_two {Q : Exit → Act → World → Prop} {ops : Array Oper} {rest : List Oper} {o : Oper} {a : Act} {w : World} (hgd : o.guard = none) (s x : Operand)
    (ho : o.op = .call { callee := .builtin .append, args := #[s, x], argTypes := #[70, 70] }) (B : Nat) (v : Value) (l : List UInt8) (hs : a.eval s = v) (hown : BytesAt w B v l) (ad : Addr) (b c : UInt8)
    (hx : a.eval x = .slice (some ad) 2 2) (h0 : w.cell? (ad.add 0) = some (.int .u8 (b.toNat : Int))) (h1 : w.cell? (ad.add 1) = some (.int .u8 (c.toNat : Int))) (hn : l.length ≤ 1000000000000) (hB : B ≤ w.heap.size)
    (h : ∀ v' w', BytesAt w' B v' (l ++ [b, c]) → Below B w w' → wpList Tryd.prog ops Q rest (a.put o.dst v') w') : wpList Tryd.prog ops Q (o :: rest) a w := by
  obtain ⟨i, hi, hz0, hz1, hz2⟩ := info_parts Tryd.infoByte
  refine wpList_append_own w hgd s x 70 ho B 5 i _ 1 1 Tryd.underlying70 hi hz0 hz1 hz2 rfl (by decide) v l.length (bcells l) hs hown ad 2 2 [.int .u8 (b.toNat : Int), .int .u8 (c.toNat : Int)] hx rfl ?_ ?_ (by unfold maxLen; omega) (by omega) hB ?_
  · intro j u hj
    match j, hj with
    | 0, hj => simp at hj; rw [h0, hj]
    | 1, hj => simp at hj; rw [h1, hj]
  · intro u hu; simp at hu; rcases hu with rfl | rfl <;> rfl
  · intro v' w' h2 h3 _
    refine h v' w' ?_ ((Below.refl _ _).grown h3 hB (fun k hk => (World.ownsRow.lt hown k hk).1))
    unfold BytesAt
    rw [bcells_append]
    simpa [bcells] using h2
end Go.Proofs.YtjddmcecllhlhaaDoor
