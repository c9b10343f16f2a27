/-
  Sums, products and quotients of floats in a walk, not a number too; the edges of numbers.
-/
import Derived.Test.YtjddmcecllhlhaaReaF
namespace Go.Proofs.Ytjddmcecllhlhaa
open Go.RowKit Flo
attribute [local go_sem] unary_neg_float
theorem run_fop {P : Program} (op : BinOp) (hop : op = .add ∨ op = .sub ∨ op = .mul ∨ op = .quo) (t : TypeId) (x y : Nat) (w : World) :
    ∃ r n, (binOp op t (.float .f64 x) (.float .f64 y)).run P w = .ok (.float .f64 r) (w.drewN n) ∧ r < 18446744073709551616 ∧ nz r = fop op (nz x) (nz y) := by
  cases h : floatBits op .f64 x y with
  | some r => exact ⟨r, 0, run_float_arith w op t .f64 x y r h, (bits_word h).2, by rw [fop_nz, h, nz_some (bits_word h).1]⟩
  | none =>
    have hf : (Question.nanBits .f64 x y).forced = false := rfl
    have hc : ∀ k : Nat, (Question.nanBits .f64 x y).cut k < 18446744073709551616 ∧ isnan ((Question.nanBits .f64 x y).cut k) = true := by
      intro k
      have e : (Question.nanBits .f64 x y).cut k = (k % 2) * 9223372036854775808 + 9218868437227405312 + 1 + (k / 2) % 4503599627370495 := rfl
      rw [e]
      have hq : k / 2 % 4503599627370495 < 4503599627370495 := Nat.mod_lt _ (by omega)
      have hp : k % 2 = 0 ∨ k % 2 = 1 := by omega
      generalize k / 2 % 4503599627370495 = q at *
      refine ⟨by omega, ?_⟩
      unfold isnan rg
      rcases hp with hp | hp <;> rw [hp] <;> simp <;> omega
    refine ⟨(Question.nanBits .f64 x y).cut (w.tape w.drawn (.nanBits .f64 x y)), 1, ?_, (hc _).1, by rw [nz_none (hc _).2, fop_nz, h]⟩
    unfold floatBits at h
    rcases hop with rfl | rfl | rfl | rfl <;> simp only at h <;> simp [binOp, Op.floatArith, h, run_choose_drew, hf] <;> rfl

/-- A slice of the five edges. -/
def EdgesAt (w : World) (e : Ending) (w' : World) : Prop := ∃ g n, e = .returned (.slice (some ⟨g, 0, none⟩) 5 5) ∧ g < w'.heap.size ∧ w'.cell? ⟨g, 0, none⟩ = some (.float .f64 n) ∧ w'.cell? ⟨g, 1, none⟩ = some (.float .f64 18442240474082181120) ∧ w'.cell? ⟨g, 2, none⟩ = some (.float .f64 9223372036854775808) ∧
  w'.cell? ⟨g, 3, none⟩ = some (.float .f64 0) ∧ w'.cell? ⟨g, 4, none⟩ = some (.float .f64 9218868437227405312) ∧ Hid (isnan n = true ∧ n < 18446744073709551616) ∧ Below w.heap.size w w'
end Go.Proofs.Ytjddmcecllhlhaa
