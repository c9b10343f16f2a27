/-
  The reference's date of a number.
-/
import Derived.Test.YtjddmcecllhlhaaDoorCivD
namespace Go.Proofs.YtjddmcecllhlhaaDoor
open Go.RowKit Cal
attribute [local go_sem] BW.cell BW.frozen
theorem year_le (n y : Int) : Cal.ahead y ≤ n ↔ y ≤ dateY n := by
  obtain ⟨a, b⟩ := year_in n _ rfl
  constructor
  · intro h
    by_cases g : y ≤ dateY n
    · exact g
    · have := ahead_mono (a := dateY n + 1) (b := y) (by omega)
      omega
  · intro h
    have := ahead_mono (a := y) (b := dateY n) h
    omega
theorem A0_eq : Cal.ahead (-40000) = -15329228 := by decide
theorem A1_eq : Cal.ahead 40001 = 13890538 := by decide
theorem dt_iff (n : Int) : dtOk n = true ↔ (-15329228 ≤ n ∧ n < 13890538) := by
  have h0 := year_le n (-40000)
  have h1 := year_le n 40001
  rw [A0_eq] at h0
  rw [A1_eq] at h1
  simp only [dtOk, decide_eq_true_eq]
  omega
theorem date_parts (n : Int) : 1 ≤ dateM n ∧ dateM n ≤ 12 ∧ 1 ≤ dateD n ∧ dateD n ≤ mlen (dateY n) (dateM n) ∧ n = Cal.ahead (dateY n) + cum (dateY n) (dateM n) + dateD n - 1 := by
  obtain ⟨a, b, c, d, e⟩ := date_ok n
  exact ⟨a, b, c, d, by unfold numb at e; omega⟩

end Go.Proofs.YtjddmcecllhlhaaDoor
