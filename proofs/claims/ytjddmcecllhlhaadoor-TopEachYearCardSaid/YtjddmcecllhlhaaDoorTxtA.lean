/-
  Bytes in memory; the text of a number.
-/
import Derived.Test.YtjddmcecllhlhaaDoorNum
import Derived.LoopN
import Derived.Lib.AppendStr
import Derived.Laws.IdiomStrings
import Derived.Laws.BytesArg
import Derived.Laws.MakeOwn
namespace Go.Proofs.YtjddmcecllhlhaaDoor
open Go.RowKit Go.Lib

/-- The cells of bytes. -/
def bcells (l : List UInt8) : List Value := l.map fun b => .int .u8 (b.toNat : Int)
theorem bcells_append (l k : List UInt8) : bcells (l ++ k) = bcells l ++ bcells k := by simp [bcells]
/-- v is a slice of bytes that reads as l, in memory from block B on. -/
def BytesAt (w : World) (B : Nat) (v : Value) (l : List UInt8) : Prop := w.ownsRow B 5 1 v l.length (bcells l)
theorem BytesAt.below {w w' : World} {B : Nat} {v : Value} {l : List UInt8} (h : BytesAt w B v l) (hb : Below w.heap.size w w') : BytesAt w' B v l := by
  obtain ⟨h1, h2⟩ := h
  refine ⟨h1, ?_⟩
  rcases h2 with h2 | ⟨g, cap, cur, hv, hg, hh, r⟩
  · exact .inl h2
  · exact .inr ⟨g, cap, cur, hv, hg, by rw [hb.block g (Array.getElem?_eq_some_iff.1 hh).1]; exact hh, r⟩
theorem BytesAt.nil (w : World) (B : Nat) : BytesAt w B (.slice none 0 0) [] := World.ownsRow_nil w B _ _
theorem BytesAt.lt {w : World} {B : Nat} {v : Value} {l : List UInt8} (h : BytesAt w B v l) : ∀ k, v.ownBlock = some k → B ≤ k := fun k hk => (World.ownsRow.lt h k hk).1
theorem BytesAt.mono {w : World} {B B' : Nat} {v : Value} {l : List UInt8} (h : BytesAt w B v l) (hB : B' ≤ B) : BytesAt w B' v l := by
  obtain ⟨h1, h2⟩ := h
  refine ⟨h1, ?_⟩
  rcases h2 with h2 | ⟨g, cap, cur, hv, hg, r⟩
  · exact .inl h2
  · exact .inr ⟨g, cap, cur, hv, Nat.le_trans hB hg, r⟩
/-- What a slice of bytes is, as a value. -/
theorem BytesAt.slice {w : World} {B : Nat} {v : Value} {l : List UInt8} (h : BytesAt w B v l) : ∃ a cap, v = .slice a l.length cap := by
  rcases h.2 with ⟨rfl, h2⟩ | ⟨g, cap, cur, rfl, _⟩
  · exact ⟨none, 0, by rw [h2]⟩
  · exact ⟨_, _, rfl⟩
theorem Tryd.infoByte : (Tryd.prog.info? 5).map (fun i => (i.zero, i.size, i.bytes)) = some (some (.int .u8 0), 1, 1) := by kernel_rfl
/-- append(l, b), b one byte. -/
theorem app_byte {Q : Exit → Act → World → Prop} {ops : Array Oper} {rest : List Oper} {o : Oper} {a : Act} {w : World} (hgd : o.guard = none) (s x : Operand)
    (ho : o.op = .call { callee := .builtin .append, args := #[s, x], argTypes := #[70, 70] }) (B : Nat) (v : Value) (l : List UInt8) (hs : a.eval s = v) (hown : BytesAt w B v l) (ad : Addr) (b : UInt8)
    (hx : a.eval x = .slice (some ad) 1 1) (h0 : w.cell? (ad.add 0) = some (.int .u8 (b.toNat : Int))) (hn : l.length ≤ 1000000000000) (hB : B ≤ w.heap.size)
    (h : ∀ v' w', BytesAt w' B v' (l ++ [b]) → Below B w w' → wpList Tryd.prog ops Q rest (a.put o.dst v') w') : wpList Tryd.prog ops Q (o :: rest) a w := by
  obtain ⟨i, hi, hz0, hz1, hz2⟩ := info_parts Tryd.infoByte
  refine wpList_append_own w hgd s x 70 ho B 5 i _ 1 1 Tryd.underlying70 hi hz0 hz1 hz2 rfl (by decide) v l.length (bcells l) hs hown ad 1 1 [.int .u8 (b.toNat : Int)] hx rfl ?_ ?_ (by unfold maxLen; omega) (by omega) hB ?_
  · intro j u hj
    match j, hj with
    | 0, hj => simp at hj; rw [h0, hj]
  · intro u hu; simp at hu; rcases hu with rfl; rfl
  · intro v' w' h2 h3 _
    refine h v' w' ?_ ((Below.refl _ _).grown h3 hB hown.lt)
    unfold BytesAt
    rw [bcells_append]
    simpa [bcells] using h2
/-- append(l, s...), s a text. -/
theorem app_text {Q : Exit → Act → World → Prop} {ops : Array Oper} {rest : List Oper} {o : Oper} {a : Act} {w : World} (hgd : o.guard = none) (s x : Operand)
    (ho : o.op = .call { callee := .builtin .append, args := #[s, x], argTypes := #[70, 9] }) (B : Nat) (v : Value) (l k : List UInt8) (hs : a.eval s = v) (hown : BytesAt w B v l)
    (hx : a.eval x = .string ⟨k.toArray⟩) (hn : l.length + k.length ≤ 1000000000000) (hB : B ≤ w.heap.size)
    (h : ∀ v' w', BytesAt w' B v' (l ++ k) → Below B w w' → wpList Tryd.prog ops Q rest (a.put o.dst v') w') : wpList Tryd.prog ops Q (o :: rest) a w := by
  obtain ⟨i, hi, hz0, hz1, hz2⟩ := info_parts Tryd.infoByte
  have hz : (⟨k.toArray⟩ : ByteArray).size = k.length := rfl
  refine wpList_append_own_string w hgd s x 70 9 ho B 5 i Tryd.underlying70 Tryd.underlying9 hi hz0 hz1 hz2 v l.length (bcells l) hs hown _ hx (by rw [hz]; unfold maxLen; omega) (by rw [hz]; omega) hB ?_
  intro v' w' h2 h3 _
  refine h v' w' ?_ ((Below.refl _ _).grown h3 hB hown.lt)
  unfold BytesAt
  rw [bcells_append, List.length_append]
  exact h2
/-- string(l). -/
theorem back_text {w : World} {B : Nat} {v : Value} {l : List UInt8} (h : BytesAt w B v l) : (convert 70 9 v).run Tryd.prog w = .ok (.string ⟨l.toArray⟩) w := by
  rcases h.2 with ⟨rfl, h2⟩ | ⟨g, cap, cur, rfl, _⟩
  · have : l = [] := List.length_eq_zero_iff.1 h2
    subst this
    exact run_convert_bytes_nil _ _ _ Tryd.underlying70 Tryd.underlying5 _ _ _ Tryd.underlying9
  · refine run_convert_bytes_back w _ _ _ _ cap l Tryd.underlying70 Tryd.underlying5 Tryd.underlying9 fun j hj => ?_
    refine World.ownsRow.cells h (g := g) rfl j _ ?_
    simp [bcells, List.getElem?_eq_getElem hj]
/-- make([]byte, 0, c). -/
theorem make_bytes (w : World) (c : Nat) (hc : c ≤ 1000000) : ∃ w', (Instr.makeSlice 70 (.int .i64 0) (.int .i64 (c : Int))).run Tryd.prog w = .ok (.slice (some ⟨w.heap.size, 0, none⟩) 0 c) w' ∧ BytesAt w' w.heap.size (.slice (some ⟨w.heap.size, 0, none⟩) 0 c) [] ∧ Below w.heap.size w w' := by
  obtain ⟨i, hi, hz0, hz1, hz2⟩ := info_parts Tryd.infoByte
  obtain ⟨w', h1, h2, h3⟩ := run_makeSlice_owned (P := Tryd.prog) (w := w) w.heap.size 70 5 i _ 1 Tryd.underlying70 hi hz0 hz1 .i64 .i64 c (by omega) (by rw [hz2]; omega) (by unfold maxLen; omega) (Nat.le_refl _)
  exact ⟨w', h1, h2, (Below.refl _ _).grown h3 (Nat.le_refl _) (fun k e => by cases e)⟩
end Go.Proofs.YtjddmcecllhlhaaDoor
