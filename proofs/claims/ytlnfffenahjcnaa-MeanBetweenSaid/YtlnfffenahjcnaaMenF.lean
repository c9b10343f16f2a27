/-
  The ends, whether the parts are right or not.
-/
import Derived.Test.YtlnfffenahjcnaaMenE
namespace Go.Proofs.Ytlnfffenahjcnaa
open Go.RowKit Go.Shelf Flo
/-- What tells the ends. -/
def GEnds (w : World) (E : Int × Int × Bool) (e : Ending) (w' : World) : Prop := e = .returned (.tuple #[.int .i64 E.1, .int .i64 E.2.1, .bool E.2.2]) ∧ Below w.heap.size w w'
set_option maxRecDepth 100000 in
theorem mean_Ends {w : World} {p : Option Addr} {l : List Pt} (cap : Nat) (a b : Int) (h : PtS w p l) (hl : l.length ≤ 6000000000000) (hI : ∀ k, k < l.length → PtI (pt l k)) : Calls Try.prog 12 #[.slice p l.length cap, spn a b] w (GEnds w (ends l a b)) := by
  unfold ends
  cases hr : rightL l
  · have hR := fun w h => mean_Right (w := w) (p := p) (l := l) cap h (by omega)
    rw [hr] at hR
    have BW : Below w.heap.size w ((((w.alloc (.cells #[.int .i64 a, .int .i64 b] 24)).alloc (.cells #[.int .i64 0] 2)).alloc (.cells #[.int .i64 0] 2)).alloc (.cells #[.bool false] 4)) := ((((Below.refl _ w).alloc (Nat.le_refl _) _).alloc (by simp) _).alloc (by first | (simp; done) | (simp; omega) | omega) _).alloc (by first | (simp; done) | (simp; omega) | omega) _
    have h1 := h.below BW
    have x1 : Boxed ((((w.alloc (.cells #[.int .i64 a, .int .i64 b] 24)).alloc (.cells #[.int .i64 0] 2)).alloc (.cells #[.int .i64 0] 2)).alloc (.cells #[.bool false] 4)) (w.heap.size + 1) 2 (.int .i64 0) := by
      have := ((Boxed.new (w.alloc (.cells #[.int .i64 a, .int .i64 b] 24)) 2 (.int .i64 0)).alloc (.cells #[.int .i64 0] 2)).alloc (.cells #[.bool false] 4)
      simpa using this
    have x2 : Boxed ((((w.alloc (.cells #[.int .i64 a, .int .i64 b] 24)).alloc (.cells #[.int .i64 0] 2)).alloc (.cells #[.int .i64 0] 2)).alloc (.cells #[.bool false] 4)) (w.heap.size + 1 + 1) 2 (.int .i64 0) := by
      have := (Boxed.new ((w.alloc (.cells #[.int .i64 a, .int .i64 b] 24)).alloc (.cells #[.int .i64 0] 2)) 2 (.int .i64 0)).alloc (.cells #[.bool false] 4)
      simpa using this
    have x3 : Boxed ((((w.alloc (.cells #[.int .i64 a, .int .i64 b] 24)).alloc (.cells #[.int .i64 0] 2)).alloc (.cells #[.int .i64 0] 2)).alloc (.cells #[.bool false] 4)) (w.heap.size + 1 + 1 + 1) 4 (.bool false) := by
      have := Boxed.new (((w.alloc (.cells #[.int .i64 a, .int .i64 b] 24)).alloc (.cells #[.int .i64 0] 2)).alloc (.cells #[.int .i64 0] 2)) 4 (.bool false)
      simpa using this
    have zW : ((((w.alloc (.cells #[.int .i64 a, .int .i64 b] 24)).alloc (.cells #[.int .i64 0] 2)).alloc (.cells #[.int .i64 0] 2)).alloc (.cells #[.bool false] 4)).heap.size = w.heap.size + 1 + 1 + 1 + 1 := by simp
    clear hI hr
    go_enter Try.func12, Try.ntmps12
    go_wp2_with fail
    refine (hR _ h1).mono ?_
    rintro e w1 ⟨rfl, hb⟩
    have z1 : Boxed w1 (w.heap.size + 1) 2 (.int .i64 0) := (hb.block _ (by omega)).trans x1
    have z2 : Boxed w1 (w.heap.size + 1 + 1) 2 (.int .i64 0) := (hb.block _ (by omega)).trans x2
    have z3 : Boxed w1 (w.heap.size + 1 + 1 + 1) 4 (.bool false) := (hb.block _ (by omega)).trans x3
    have Bu : Below w.heap.size w w1 := BW.trans (hb.mono (by omega))
    have c1 := z1.cell
    have c2 := z2.cell
    have c3 := z3.cell
    have f1 := z1.frozen
    have f2 := z2.frozen
    have f3 := z3.frozen
    clear hb h1 hR x1 x2 x3 BW zW
    go_wp2_with fail
    have s1 := (((z1.set (.int .i64 0)).other (B' := w.heap.size + 1 + 1) (by omega) (.int .i64 0)).other (B' := w.heap.size + 1 + 1 + 1) (by omega) (.bool false)).cell
    have s2 := (((z2.other (B' := w.heap.size + 1) (by omega) (.int .i64 0)).set (.int .i64 0)).other (B' := w.heap.size + 1 + 1 + 1) (by omega) (.bool false)).cell
    have s3 := (((z3.other (B' := w.heap.size + 1) (by omega) (.int .i64 0)).other (B' := w.heap.size + 1 + 1) (by omega) (.int .i64 0)).set (.bool false)).cell
    have BB := ((Bu.setCell (p := ⟨w.heap.size + 1, 0, none⟩) (by first | (simp; done) | (simp; omega) | omega) (.int .i64 0)).setCell (p := ⟨w.heap.size + 1 + 1, 0, none⟩) (by first | (simp; done) | (simp; omega) | omega) (.int .i64 0)).setCell (p := ⟨w.heap.size + 1 + 1 + 1, 0, none⟩) (by first | (simp; done) | (simp; omega) | omega) (.bool false)
    generalize (((w1.setCell ⟨w.heap.size + 1, 0, none⟩ (.int .i64 0)).setCell ⟨w.heap.size + 1 + 1, 0, none⟩ (.int .i64 0)).setCell ⟨w.heap.size + 1 + 1 + 1, 0, none⟩ (.bool false)) = X at s1 s2 s3 BB ⊢
    exact bodyPost_ret (v := .tuple #[.int .i64 0, .int .i64 0, .bool false]) (by simp [results, Try.results12, go_sem, s1, s2, s3]) rfl ⟨rfl, BB⟩
  · exact mean_Ends_y cap a b h hl hI hr
end Go.Proofs.Ytlnfffenahjcnaa
