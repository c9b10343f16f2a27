/-
  spans.sweep: the walk, over what the sorting says.
-/
import Derived.Test.YtjddmcecllhlhaaEdh
import Derived.Test.YtjddmcecllhlhaaSwpE
import Derived.Test.YtjddmcecllhlhaaTail
namespace Go.Proofs.Ytjddmcecllhlhaa
open Go.RowKit Swp
attribute [local go_sem] BW.cell BW.frozen
theorem SpansAt.other {w : World} {B D j : Nat} {v u : Value} {l : List Sp} (h : SpansAt w B v l) (hD : D < B) : SpansAt (w.setCell ⟨D, j, none⟩ u) B v l := by
  obtain ⟨h1, h2⟩ := h
  refine ⟨h1, ?_⟩
  rcases h2 with h2 | ⟨g, cap, cur, hv, hg, hh, r⟩
  · exact .inl h2
  · exact .inr ⟨g, cap, cur, hv, hg, by rw [Below.heap_setCell _ _ _ _ (show g ≠ D by omega)]; exact hh, r⟩
theorem PtAt.other {w : World} {D j bk off : Nat} {u : Value} {l : List Pt} (h : PtAt w bk off l) (hne : D < bk) : PtAt (w.setCell ⟨D, j, none⟩ u) bk off l := fun k hk => by
  have e : ∀ i, (w.setCell ⟨D, j, none⟩ u).cell? ⟨bk, i, none⟩ = w.cell? ⟨bk, i, none⟩ := fun i => World.cell?_of_block (Below.heap_setCell _ _ _ _ (show bk ≠ D by omega))
  rw [e, e, e]
  exact h k hk
/-- A call that hands back the set that is wanted of two lists. -/
def GivesR (w : World) (keep : Bool → Bool → Bool) (a b : List Sp) (e : Ending) (w' : World) : Prop := ∃ v R, e = .returned v ∧ SpansAt w' w.heap.size v R ∧ Sep R ∧ (∀ t, inL R t = wnt keep a b t) ∧ R.length ≤ 2 * (a.length + b.length) ∧ Below w.heap.size w w'
/-- What holds at the head of the sweep's loops. -/
structure Swept (w : World) (B : Nat) (wr : World) (bk off : Nat) (l : List Pt) (k : Nat) (out : Value) (R : List Sp) : Prop where
  pts : PtAt wr bk off l
  out_ : SpansAt wr B out R
  bel : Below w.heap.size w wr
  sz : bk < B ∧ w.heap.size < bk ∧ B ≤ wr.heap.size
  d0 : wr.cell? ⟨w.heap.size, 0, none⟩ = some (.int .i64 (dpE l 0 k))
  d1 : wr.cell? ⟨w.heap.size, 1, none⟩ = some (.int .i64 (dpE l 1 k))
  fr : ∀ j, wr.frozen? ⟨w.heap.size, j, none⟩ = false
theorem Swept.below {w wr wr' : World} {B bk off : Nat} {l : List Pt} {k : Nat} {out : Value} {R : List Sp} (h : Swept w B wr bk off l k out R) (hb : Below wr.heap.size wr wr') : Swept w B wr' bk off l k out R := by
  obtain ⟨h1, h2, h3, ⟨h4, h5, h9⟩, h6, h7, h8⟩ := h
  have hD : w.heap.size < wr.heap.size := by omega
  exact ⟨h1.below hb (by omega), h2.below hb, h3.trans (hb.mono h3.size), ⟨h4, h5, Nat.le_trans h9 hb.size⟩, (hb.cell (p := ⟨w.heap.size, 0, none⟩) hD).trans h6, (hb.cell (p := ⟨w.heap.size, 1, none⟩) hD).trans h7, fun j => (hb.frozen (p := ⟨w.heap.size, j, none⟩) hD).trans (h8 j)⟩
theorem Swept.store0 {w wr : World} {B bk off : Nat} {l : List Pt} {k : Nat} {out : Value} {R : List Sp} (h : Swept w B wr bk off l k out R) {y : Int} (h0 : dpE l 0 (k + 1) = y) (h1 : dpE l 1 (k + 1) = dpE l 1 k) :
    Swept w B (wr.setCell ⟨w.heap.size, 0, none⟩ (.int .i64 y)) bk off l (k + 1) out R := by
  obtain ⟨g1, g2, g3, ⟨g4, g5, g9⟩, g6, g7, g8⟩ := h
  refine ⟨g1.other g5, g2.other (by omega), g3.setCell (p := ⟨w.heap.size, 0, none⟩) (Nat.le_refl _) _, ⟨g4, g5, by simpa using g9⟩, ?_, ?_, fun j => ?_⟩
  · rw [h0]; go_simp
  · rw [h1]; go_simp
  · have := g8 j; go_simp
theorem Swept.store1 {w wr : World} {B bk off : Nat} {l : List Pt} {k : Nat} {out : Value} {R : List Sp} (h : Swept w B wr bk off l k out R) {y : Int} (h0 : dpE l 1 (k + 1) = y) (h1 : dpE l 0 (k + 1) = dpE l 0 k) :
    Swept w B (wr.setCell ⟨w.heap.size, 1, none⟩ (.int .i64 y)) bk off l (k + 1) out R := by
  obtain ⟨g1, g2, g3, ⟨g4, g5, g9⟩, g6, g7, g8⟩ := h
  refine ⟨g1.other g5, g2.other (by omega), g3.setCell (p := ⟨w.heap.size, 1, none⟩) (Nat.le_refl _) _, ⟨g4, g5, by simpa using g9⟩, ?_, ?_, fun j => ?_⟩
  · rw [h1]; go_simp
  · rw [h0]; go_simp
  · have := g8 j; go_simp
theorem SpansAt.isSome {w : World} {B : Nat} {v : Value} {l : List Sp} (h : SpansAt w B v l) (h0 : 0 < l.length) : ∃ g cap, v = .slice (some ⟨g, 0, none⟩) l.length cap ∧ B ≤ g := by
  obtain ⟨h1, h2⟩ := h
  rcases h2 with ⟨_, hn⟩ | ⟨g, cap, cur, rfl, hg, r⟩
  · omega
  · exact ⟨g, cap, rfl, hg⟩
theorem SpansAt.frozen {w : World} {B g n cap : Nat} {l : List Sp} (h : SpansAt w B (.slice (some ⟨g, 0, none⟩) n cap) l) (j : Nat) : w.frozen? ⟨g, j, none⟩ = false := by
  obtain ⟨rfl, _⟩ := h.at
  have hh : w.ownsRow B 24 2 (.slice (some ⟨g, 0, none⟩) l.length cap) l.length (scells l) := h
  exact hh.frozenAt j
/-- What is set behind a group. -/
theorem Swept.grew {w wr wr' : World} {B bk off : Nat} {l : List Pt} {k : Nat} {out out' : Value} {R R' : List Sp} (h : Swept w B wr bk off l k out R) (hb : Below B wr wr') (ho : SpansAt wr' B out' R') : Swept w B wr' bk off l k out' R' := by
  obtain ⟨h1, h2, h3, ⟨h4, h5, h9⟩, h6, h7, h8⟩ := h
  have hD : w.heap.size < B := by omega
  exact ⟨h1.below hb h4, ho, h3.trans (hb.mono (by omega)), ⟨h4, h5, Nat.le_trans h9 hb.size⟩, (hb.cell (p := ⟨w.heap.size, 0, none⟩) hD).trans h6, (hb.cell (p := ⟨w.heap.size, 1, none⟩) hD).trans h7, fun j => (hb.frozen (p := ⟨w.heap.size, j, none⟩) hD).trans (h8 j)⟩
end Go.Proofs.Ytjddmcecllhlhaa
