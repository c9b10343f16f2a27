/-
  lines.Join: lines as a source.
-/
import Derived.Test.YtjddmcecllhlhaaDoorRow
namespace Go.Proofs.YtjddmcecllhlhaaDoor
open Go.RowKit
/-- Lines, each with a feed behind it. -/
def lnl (l : List ByteArray) : List UInt8 := (l.map fun x => x.data.toList ++ [10]).flatten
theorem lnl_take {l : List ByteArray} {k : Nat} {x : ByteArray} (h : l[k]? = some x) : lnl (l.take (k + 1)) = lnl (l.take k) ++ x.data.toList ++ [10] := by
  obtain ⟨hk, rfl⟩ := List.getElem?_eq_some_iff.1 h
  unfold lnl
  rw [List.take_succ_eq_append_getElem hk, List.map_append, List.flatten_append]
  simp
theorem lnl_len (l : List ByteArray) (h : ∀ x ∈ l, x.size ≤ 2000) : (lnl l).length ≤ l.length * 2001 := by
  induction l with
  | nil => simp [lnl]
  | cons x l ih =>
    have h1 := h x List.mem_cons_self
    have h2 := ih (fun y hy => h y (List.mem_cons_of_mem _ hy))
    unfold lnl at *
    rw [List.map_cons, List.flatten_cons, List.length_append, List.length_append, List.length_cons (a := x), Nat.add_mul, Nat.one_mul]
    have : x.data.toList.length = x.size := by simp
    simp only [List.length_cons, List.length_nil]
    omega
set_option maxRecDepth 100000 in
theorem new_builder (w : World) (B : Nat) (hB : B ≤ w.heap.size) : Lib.IsBuilder 72 5 B w.heap.size [] (w.alloc (.cells #[.pointer none, .slice none 0 0] 72)) :=
  .inl ⟨hB, .slice none 0 0, (show (w.heap.push _)[w.heap.size]? = some _ by rw [Array.getElem?_push, if_pos rfl]), World.ownsRow_nil _ _ _ _, by simp [Value.ownBlock]⟩
set_option maxRecDepth 100000 in
set_option maxHeartbeats 4000000 in
theorem lines_Join {w : World} {p : Option Addr} {l : List ByteArray} (cap : Nat) (h : StrS w p l) (hn : l.length ≤ 40) (hf : ∀ f ∈ l, f.size ≤ 2000) : Calls Tryd.prog 9 #[.slice p l.length cap] w fun e w' => e = .returned (.string ⟨(lnl l).toArray⟩) ∧ Below w.heap.size w w' := by
  have HR := Lib.hid h
  have HF := Lib.hid hf
  clear h hf
  go_enter Tryd.func9, Tryd.ntmps9
  go_wp2_with fail
  go_loopw [8, 5] (fun i _ wr => ∃ k : Nat, i = .int .i64 k ∧ k ≤ l.length ∧ Hid (Lib.IsBuilder 72 5 w.heap.size w.heap.size (Lib.byteCells (lnl (l.take k))) wr) ∧ Below w.heap.size w wr) (fun i _ _ => l.length - (intOf i).toNat)
  case atStart => exact ⟨0, rfl, Nat.zero_le _, Lib.hid (new_builder w _ (Nat.le_refl _)), (Below.refl _ w).alloc (Nat.le_refl _) _⟩
  case round =>
    obtain ⟨k, rfl, hk, HI, hB⟩ := hrel
    have hsz := hB.size
    by_cases hlt : k < l.length
    · have b0 : (k : Int) < (l.length : Int) := by omega
      have b1 : 0 ≤ (k : Int) := by omega
      obtain ⟨f, hfk⟩ : ∃ f, l[k]? = some f := ⟨l[k], List.getElem?_eq_getElem hlt⟩
      obtain ⟨bk, off, hp, hbk, hc⟩ : ∃ b off, p = some ⟨b, off, none⟩ ∧ b < w.heap.size ∧ StrAt w b off l := by
        rcases HR.out with h | h
        · rw [h] at hlt; cases hlt
        · exact h
      subst hp
      have d0 := (hB.cell (p := ⟨bk, off + k, none⟩) hbk).trans (hc k f hfk)
      have hlen := lnl_len (l.take k) (fun x hx => HF.out x (List.mem_of_mem_take hx))
      rw [List.length_take, Nat.min_eq_left (by omega)] at hlen
      have hf2 := HF.out f (List.mem_of_getElem? hfk)
      have hT := lnl_take hfk
      have HTk := Lib.hid hT
      have hlen2 : (lnl (l.take k)).length ≤ 40 * 2001 := Nat.le_trans hlen (Nat.mul_le_mul_right _ (by omega))
      have W1 := Tryd.Builder_WriteString w.heap.size w.heap.size (Lib.byteCells (lnl (l.take k))) f wr HI.out (by rw [Lib.byteCells_length]; omega) hsz
      clear hc hfk hT hlen
      go_wp2_with fail
      refine W1.mono ?_
      rintro e w2 ⟨rfl, hb1, hb2⟩
      have B2 := hB.trans hb2
      have W2 := Tryd.Builder_WriteString w.heap.size w.heap.size _ ⟨#[10]⟩ w2 (.inr hb1) (by rw [List.length_append, Lib.byteCells_length, Lib.strCells_length]; show _ + _ + 1 ≤ _; omega) B2.size
      clear hb1 hb2 W1
      go_wp2_with fail
      refine W2.mono ?_
      rintro e w3 ⟨rfl, hb1, hb2⟩
      have HI2 := Lib.hid hb1
      have B3 := B2.trans hb2
      clear hb1 hb2 W2
      go_wp2_with fail
      go_roundw
      case rel => exact ⟨k + 1, by go_num, by omega, Lib.hid (.inr (by rw [HTk.out]; have := HI2.out; simpa [Lib.byteCells, Lib.strCells] using this)), B3⟩
      case measure => simp [intOf]; omega
    · obtain rfl : k = l.length := by omega
      rw [List.take_length] at HI
      have W1 := Tryd.Builder_String_any w.heap.size w.heap.size (lnl l) wr HI.out hsz
      go_wp2_with fail
      refine W1.mono ?_
      rintro e w2 ⟨rfl, hb1⟩
      go_wp2_with fail
      go_ret
      exact ⟨rfl, hB.trans hb1⟩
end Go.Proofs.YtjddmcecllhlhaaDoor
