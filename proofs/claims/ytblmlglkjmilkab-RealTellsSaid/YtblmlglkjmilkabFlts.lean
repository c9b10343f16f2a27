/-
  A slice of floats that came in, opened; read again behind the call.
-/
import Derived.Test.YtblmlglkjmilkabReaG
import Derived.Deep.Slices
import Derived.WideKeyArgs
import Derived.Lib.SmallJoins
namespace Go.Proofs.Ytblmlglkjmilkab
open Go.RowKit Go.ChangeShapes Go.WideShapes Go.Deep Flo
section
variable {H : Type} {enc : TypeId × Value → H} {P : Program} {w : World}
theorem float_cell {t : TypeId} {n : Nat} {v : Value} {x : DataW H × List MemPlace} {base : Nat} {sp : Nat → Bool} {hd : Bool} (ht : P.underlying t = some (.float .f64)) (h : DataW.trod enc P w base sp hd n t [v] = some x) : ∃ b, v = .float .f64 b ∧ b < 18446744073709551616 := by
  cases n with
  | zero => simp [DataW.trod] at h
  | succ n =>
    simp only [DataW.trod, ht] at h
    cases v with
    | float k b =>
      by_cases hw : k = .f64 ∧ (Lit.float .f64 b).wf = true
      · obtain ⟨rfl, hw⟩ := hw
        simp only [Lit.wf, decide_eq_true_eq] at hw
        exact ⟨b, rfl, hw⟩
      · simp only [hw, if_false] at h
        cases h
    | _ => simp at h
theorem choose_nat {p : Nat → Nat → Prop} : ∀ n : Nat, (∀ i, i < n → ∃ b, p i b) → ∃ l : List Nat, l.length = n ∧ ∀ i (hi : i < l.length), p i l[i]
  | 0, _ => ⟨[], rfl, fun i hi => by simp at hi⟩
  | n + 1, h => by
    obtain ⟨l, hl, hp⟩ := choose_nat n (fun i hi => h i (by omega))
    obtain ⟨b, hb⟩ := h n (by omega)
    refine ⟨l ++ [b], by simp [hl], fun i hi => ?_⟩
    rw [List.getElem_append]
    split
    · exact hp i _
    · have : i = n := by simp at hi; omega
      subst this
      simpa [hl] using hb
theorem floats_of {t e : TypeId} (ht : P.underlying t = some (.slice e)) (he : P.underlying e = some (.float .f64)) (hc : P.cellsOf e = 1) {v : Value} {d : DataW H} {ps : List MemPlace} (hv : ∃ a len cap, v = .slice a len cap) (h : DataW.Trod enc P w 0 (fun _ => true) true t v d ps) :
    ∃ (p : Option Addr) (cap : Nat) (l : List Nat), v = .slice p l.length cap ∧ (∀ x ∈ l, x < 18446744073709551616) ∧ (l = [] ∨ ∃ c off, p = some ⟨c, off, none⟩ ∧ FlAt w c off cap l) := by
  obtain ⟨a, len, cap, rfl⟩ := hv
  obtain ⟨n, hn⟩ := h
  rcases open_slice1 ht hc (by simpa [Value.cells] using hn) with ⟨hcs, _⟩ | ⟨a', len', cap', m, n', V, D, Pl, hcs, _, hl, hm, hmm, _, hcell⟩
  · simp at hcs
    obtain ⟨rfl, rfl, rfl⟩ := hcs
    exact ⟨none, 0, [], rfl, by simp, .inl rfl⟩
  · simp at hcs
    obtain ⟨rfl, rfl, rfl⟩ := hcs
    simp at hmm
    subst hmm
    obtain ⟨l, hll, hp⟩ := choose_nat (p := fun i b => w.cell? (a'.add i) = some (.float .f64 b) ∧ b < 18446744073709551616) len (fun i hi => by
      obtain ⟨h1, h2⟩ := hcell i (by omega)
      obtain ⟨b, hb, hlt⟩ := float_cell he h2
      exact ⟨b, by rw [h1, hb], hlt⟩)
    subst hll
    refine ⟨some a', _, l, rfl, fun x hx => ?_, ?_⟩
    · obtain ⟨i, hi, rfl⟩ := List.getElem_of_mem hx
      exact (hp i hi).2
    · by_cases h0 : l = []
      · exact .inl h0
      · refine .inr ?_
        have hpos : 0 < l.length := List.length_pos_iff.2 h0
        obtain ⟨b, o, k⟩ := a'
        have hs : k = none := by simpa [Addr.add] using World.cell?_spot (hp 0 hpos).1
        subst hs
        exact ⟨b, o, rfl, hpos, hl, by unfold maxLen at hm; omega, fun i hi => by rw [← Go.WideShapes.add_plain]; exact (hp i hi).1⟩
end
end Go.Proofs.Ytblmlglkjmilkab
