/-
  A slice of floats that came in, opened; read again behind the call.
-/
import Derived.Test.YtblmlglkjmilkacDoorWhlB
import Derived.Deep.Slices
import Derived.WideKeyArgs
import Derived.Lib.SmallJoins
namespace Go.Proofs.YtblmlglkjmilkacDoor
open Go.RowKit Go.ChangeShapes Go.WideShapes Go.Deep Flo
section
variable {H : Type} {enc : TypeId × Value → H} {P : Program} {w : World}
theorem int_cell {t : TypeId} {n : Nat} {v : Value} {x : DataW H × List MemPlace} {base : Nat} {sp : Nat → Bool} {hd : Bool} (ht : P.underlying t = some (.int .i64)) (h : DataW.trod enc P w base sp hd n t [v] = some x) : ∃ b, v = .int .i64 b := by
  cases n with
  | zero => simp [DataW.trod] at h
  | succ n =>
    simp only [DataW.trod, ht] at h
    cases v with
    | int k b =>
      by_cases hw : k = .i64 ∧ (Lit.int .i64 b).wf = true
      · obtain ⟨rfl, hw⟩ := hw
        exact ⟨b, rfl⟩
      · simp only [hw, if_false] at h
        cases h
    | _ => simp at h
theorem choose_int {p : Nat → Int → Prop} : ∀ n : Nat, (∀ i, i < n → ∃ b, p i b) → ∃ l : List Int, l.length = n ∧ ∀ i (hi : i < l.length), p i l[i]
  | 0, _ => ⟨[], rfl, fun i hi => by simp at hi⟩
  | n + 1, h => by
    obtain ⟨l, hl, hp⟩ := choose_int n (fun i hi => h i (by omega))
    obtain ⟨b, hb⟩ := h n (by omega)
    refine ⟨l ++ [b], by simp [hl], fun i hi => ?_⟩
    rw [List.getElem_append]
    split
    · exact hp i _
    · have : i = n := by simp at hi; omega
      subst this
      simpa [hl] using hb
theorem ints_of {t e : TypeId} (ht : P.underlying t = some (.slice e)) (he : P.underlying e = some (.int .i64)) (hc : P.cellsOf e = 1) {v : Value} {d : DataW H} {ps : List MemPlace} (hv : ∃ a len cap, v = .slice a len cap) (h : DataW.Trod enc P w 0 (fun _ => true) true t v d ps) :
    ∃ (p : Option Addr) (cap : Nat) (l : List Int), v = .slice p l.length cap ∧ (l = [] ∨ ∃ c off, p = some ⟨c, off, none⟩ ∧ IntAt w c off l) := by
  obtain ⟨a, len, cap, rfl⟩ := hv
  obtain ⟨n, hn⟩ := h
  rcases open_slice1 ht hc (by simpa [Value.cells] using hn) with ⟨hcs, _⟩ | ⟨a', len', cap', m, n', V, D, Pl, hcs, _, hl, hm, hmm, _, hcell⟩
  · simp at hcs
    obtain ⟨rfl, rfl, rfl⟩ := hcs
    exact ⟨none, 0, [], rfl, .inl rfl⟩
  · simp at hcs
    obtain ⟨rfl, rfl, rfl⟩ := hcs
    simp at hmm
    subst hmm
    obtain ⟨l, hll, hp⟩ := choose_int (p := fun i b => w.cell? (a'.add i) = some (.int .i64 b)) len (fun i hi => by
      obtain ⟨h1, h2⟩ := hcell i (by omega)
      obtain ⟨b, hb⟩ := int_cell he h2
      exact ⟨b, by rw [h1, hb]⟩)
    subst hll
    refine ⟨some a', _, l, rfl, ?_⟩
    by_cases h0 : l = []
    · exact .inl h0
    · refine .inr ?_
      have hpos : 0 < l.length := List.length_pos_iff.2 h0
      obtain ⟨b, o, k⟩ := a'
      have hs : k = none := by simpa [Addr.add] using World.cell?_spot (hp 0 hpos)
      subst hs
      exact ⟨b, o, rfl, fun i hi => by rw [← Go.WideShapes.add_plain]; exact hp i hi⟩
end
end Go.Proofs.YtblmlglkjmilkacDoor
