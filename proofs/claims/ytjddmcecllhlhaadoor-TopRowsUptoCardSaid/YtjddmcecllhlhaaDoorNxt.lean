/-
  The cutter's next field.
-/
import Derived.Test.YtjddmcecllhlhaaDoorBlk
namespace Go.Proofs.YtjddmcecllhlhaaDoor
open Go.RowKit
/-- All that lay below B lies as it lay, but for block c. -/
structure Cut (B c : Nat) (w w' : World) : Prop where
  os : w'.os = w.os
  tape : w'.tape = w.tape
  output : w'.output = w.output
  size : w.heap.size ≤ w'.heap.size
  block : ∀ k, k < B → k ≠ c → w'.heap[k]? = w.heap[k]?
theorem Cut.of {B c : Nat} {w w' : World} (h : Below B w w') : Cut B c w w' := ⟨h.os, h.tape, h.output, h.size, fun k hk _ => h.block k hk⟩
theorem Cut.trans {B c : Nat} {a b d : World} (h : Cut B c a b) (k : Cut B c b d) : Cut B c a d := ⟨k.os.trans h.os, k.tape.trans h.tape, k.output.trans h.output, Nat.le_trans h.size k.size, fun i hi hn => (k.block i hi hn).trans (h.block i hi hn)⟩
theorem Cut.mono {B B' c : Nat} {w w' : World} (h : Cut B c w w') (hB : B' ≤ B) : Cut B' c w w' := ⟨h.os, h.tape, h.output, h.size, fun k hk hn => h.block k (by omega) hn⟩
theorem Cut.setCell {B c : Nat} {w w' : World} (h : Cut B c w w') (j : Nat) (u : Value) : Cut B c w (w'.setCell ⟨c, j, none⟩ u) :=
  ⟨h.os, h.tape, h.output, by simpa using h.size, fun k hk hn => (Below.heap_setCell _ _ _ _ (show k ≠ c from hn)).trans (h.block k hk hn)⟩
theorem IsBuilder.other {T e : TypeId} {B b D j : Nat} {bs : List Value} {w : World} {u : Value} (h : Lib.IsBuilder T e B b bs w) (hD : D < B) : Lib.IsBuilder T e B b bs (w.setCell ⟨D, j, none⟩ u) := by
  have one : ∀ p, Lib.BuilderAt T e B b p bs w → Lib.BuilderAt T e B b p bs (w.setCell ⟨D, j, none⟩ u) := by
    rintro p ⟨hB, v, hb, ho, hne⟩
    refine ⟨hB, v, (Below.heap_setCell _ _ _ _ (show b ≠ D by omega)).trans hb, ?_, hne⟩
    obtain ⟨h1, h2⟩ := ho
    refine ⟨h1, ?_⟩
    rcases h2 with h2 | ⟨g, cap, cur, hv, hg, hh, r⟩
    · exact .inl h2
    · exact .inr ⟨g, cap, cur, hv, hg, (Below.heap_setCell _ _ _ _ (show g ≠ D by omega)).trans hh, r⟩
  exact h.imp (one _) (one _)
theorem trim_sep {sep : List UInt8} (hs : sep = [] ∨ sep = [32]) (y : UInt8) (hy : y ≠ 32 ∧ y ≠ 9) (t : List UInt8) : Lib.trimLeftS (sep ++ y :: t) [32, 9] = y :: t := by
  unfold Lib.trimLeftS
  rcases hs with rfl | rfl <;> simp [hy.1, hy.2]
/-- What next hands back, and leaves. -/
def NextGives (w : World) (c : Nat) (f : List UInt8) (is : Bool) (rest : List UInt8) (e : Ending) (w' : World) : Prop :=
  e = .returned (.tuple #[.string (bts f), .bool is]) ∧ w'.cell? ⟨c, 0, none⟩ = some (.string (bts rest)) ∧ w'.frozen? ⟨c, 0, none⟩ = false ∧ Cut w.heap.size c w w'
theorem TrimLeft_at (l : List UInt8) (hl : l.length ≤ 4294967200) (w : World) : Calls Tryd.prog 48 #[.string (bts l), .string ⟨#[32, 9]⟩] w fun e w' => e = .returned (.string (bts (Lib.trimLeftS l [32, 9]))) ∧ Below w.heap.size w w' :=
  Tryd.strings_TrimLeft (bts l) ⟨#[32, 9]⟩ w (by decide) (fun j b h => by
    have : j = 0 ∨ j = 1 ∨ 2 ≤ j := by omega
    rcases this with rfl | rfl | h3
    · cases h; decide
    · cases h; decide
    · rw [show (⟨#[32, 9]⟩ : ByteArray).data.toList = [32, 9] from rfl, List.getElem?_eq_none (by simpa using h3)] at h
      cases h)
set_option maxRecDepth 100000 in
theorem next_none (c : Nat) (w : World) (h : w.cell? ⟨c, 0, none⟩ = some (.string (bts []))) (hz : w.frozen? ⟨c, 0, none⟩ = false) (hc : c < w.heap.size) : Calls Tryd.prog 20 #[.pointer (some ⟨c, 0, none⟩)] w (NextGives w c [] false []) := by
  have hT := TrimLeft_at [] (by simp) w
  rw [show Lib.trimLeftS [] [32, 9] = [] from rfl] at hT
  unfold NextGives bts at *
  go_enter Tryd.func20, Tryd.ntmps20
  go_wp2_with fail
  refine hT.mono ?_
  rintro e w1 ⟨rfl, hb⟩
  have c1 := (hb.cell (p := ⟨c, 0, none⟩) hc).trans h
  have z1 := (hb.frozen (p := ⟨c, 0, none⟩) hc).trans hz
  have hc1 := Nat.lt_of_lt_of_le hc hb.size
  go_wp2_with fail
  go_ret2
  exact ⟨rfl, by go_simp, by go_simp, (Cut.of hb).setCell _ _⟩
end Go.Proofs.YtjddmcecllhlhaaDoor
