/-
  Contracts of num.Add, num.Sub, num.Div and of the references' Add, Sub, Div, Floor, Rest.
-/
import Derived.Test.YtjddmcecllhlhaaDoorBase
namespace Go.Proofs.YtjddmcecllhlhaaDoor
open Go.RowKit

/-- An int64. -/
def I64 (a : Int) : Prop := -9223372036854775808 ≤ a ∧ a ≤ 9223372036854775807
def okI (a : Int) : Bool := decide (-9223372036854775808 ≤ a ∧ a ≤ 9223372036854775807)
/-- The value and the error of a result that may be too great. -/
def valI (a : Int) : Int := if okI a = true then a else 0
def errI (a : Int) : Int := if okI a = true then 0 else 1
theorem I64.of_wf {a : Int} (h : (Lit.int .i64 a).wf = true) : I64 a := by
  simp only [Lit.wf, IntKind.min, IntKind.max, IntKind.signed, IntKind.bits, Bool.and_eq_true, decide_eq_true_eq, if_true] at h
  unfold I64; omega
theorem I64.wf {a : Int} (h : I64 a) : (Lit.int .i64 a).wf = true := WalkArith.wf_i64 (by unfold I64 at h; omega)
theorem I64.sm {a : Int} (h : -4611686018427387904 ≤ a ∧ a ≤ 4611686018427387904) : I64 a := by unfold I64; omega
theorem okI_y {a : Int} (h : -9223372036854775808 ≤ a ∧ a ≤ 9223372036854775807) : okI a = true := by simpa [okI] using h
theorem valI_y {a : Int} (h : okI a = true) : valI a = a ∧ errI a = 0 := by simp [valI, errI, h]
theorem valI_n {a : Int} (h : okI a = false) : valI a = 0 ∧ errI a = 1 := by simp [valI, errI, h]
theorem ret2 {k l : IntKind} {a b c d : Int} (h : a = c) (g : b = d) : Ending.returned (.tuple #[.int k a, .int l b]) = .returned (.tuple #[.int k c, .int l d]) := by rw [h, g]
theorem ret3 {k l m : IntKind} {a b c d x y : Int} (h : a = c) (g : b = d) (i : x = y) : Ending.returned (.tuple #[.int k a, .int l b, .int m x]) = .returned (.tuple #[.int k c, .int l d, .int m y]) := by rw [h, g, i]

theorem sum_fact {a b : Int} (ha : I64 a) (hb : I64 b) : (okI (a + b) = true ∧ wrap64 (a + b) = a + b ∧ ((decide (a < 0) == decide (b < 0)) && (decide (wrap64 (a + b) < 0) != decide (a < 0))) = false) ∨
    (okI (a + b) = false ∧ ((decide (a < 0) == decide (b < 0)) && (decide (wrap64 (a + b) < 0) != decide (a < 0))) = true) := by
  unfold I64 at ha hb
  by_cases h : -9223372036854775808 ≤ a + b ∧ a + b ≤ 9223372036854775807
  · left
    have e : wrap64 (a + b) = a + b := by unfold wrap64; omega
    refine ⟨okI_y h, e, ?_⟩
    rw [e]
    by_cases h1 : a < 0 <;> by_cases h2 : b < 0 <;> by_cases h3 : a + b < 0 <;> simp [h1, h2, h3] <;> omega
  · right
    have hc : wrap64 (a + b) = a + b + 18446744073709551616 ∧ a < 0 ∧ b < 0 ∨ wrap64 (a + b) = a + b - 18446744073709551616 ∧ ¬ a < 0 ∧ ¬ b < 0 := by unfold wrap64; omega
    refine ⟨by simpa [okI] using h, ?_⟩
    rcases hc with ⟨e, h1, h2⟩ | ⟨e, h1, h2⟩
    · have h3 : ¬ wrap64 (a + b) < 0 := by omega
      simp [h1, h2, h3]
    · have h3 : wrap64 (a + b) < 0 := by omega
      simp [h1, h2, h3]

theorem dif_fact {a b : Int} (ha : I64 a) (hb : I64 b) : (okI (a - b) = true ∧ wrap64 (a - b) = a - b ∧ ((decide (a < 0) != decide (b < 0)) && (decide (wrap64 (a - b) < 0) != decide (a < 0))) = false) ∨
    (okI (a - b) = false ∧ ((decide (a < 0) != decide (b < 0)) && (decide (wrap64 (a - b) < 0) != decide (a < 0))) = true) := by
  unfold I64 at ha hb
  by_cases h : -9223372036854775808 ≤ a - b ∧ a - b ≤ 9223372036854775807
  · left
    have e : wrap64 (a - b) = a - b := by unfold wrap64; omega
    refine ⟨okI_y h, e, ?_⟩
    rw [e]
    by_cases h1 : a < 0 <;> by_cases h2 : b < 0 <;> by_cases h3 : a - b < 0 <;> simp [h1, h2, h3] <;> omega
  · right
    have hc : wrap64 (a - b) = a - b + 18446744073709551616 ∧ a < 0 ∧ ¬ b < 0 ∨ wrap64 (a - b) = a - b - 18446744073709551616 ∧ ¬ a < 0 ∧ b < 0 := by unfold wrap64; omega
    refine ⟨by simpa [okI] using h, ?_⟩
    rcases hc with ⟨e, h1, h2⟩ | ⟨e, h1, h2⟩
    · have h3 : ¬ wrap64 (a - b) < 0 := by omega
      simp [h1, h2, h3]
    · have h3 : wrap64 (a - b) < 0 := by omega
      simp [h1, h2, h3]

theorem rsum_fact {a b : Int} (ha : I64 a) (hb : I64 b) : (okI (a + b) = true ∧ wrap64 (a + b) = a + b ∧ ¬ (0 < b ∧ wrap64 (9223372036854775807 - b) < a ∨ b < 0 ∧ a < wrap64 (-9223372036854775808 - b))) ∨ (okI (a + b) = false ∧ (0 < b ∧ wrap64 (9223372036854775807 - b) < a ∨ b < 0 ∧ a < wrap64 (-9223372036854775808 - b))) := by
  unfold I64 at ha hb
  by_cases h : -9223372036854775808 ≤ a + b ∧ a + b ≤ 9223372036854775807
  · exact .inl ⟨okI_y h, by unfold wrap64; omega, by unfold wrap64; omega⟩
  · exact .inr ⟨by simpa [okI] using h, by unfold wrap64; omega⟩

theorem rdif_fact {a b : Int} (ha : I64 a) (hb : I64 b) : (okI (a - b) = true ∧ wrap64 (a - b) = a - b ∧ ¬ (b < 0 ∧ wrap64 (9223372036854775807 + b) < a ∨ 0 < b ∧ a < wrap64 (-9223372036854775808 + b))) ∨ (okI (a - b) = false ∧ (b < 0 ∧ wrap64 (9223372036854775807 + b) < a ∨ 0 < b ∧ a < wrap64 (-9223372036854775808 + b))) := by
  unfold I64 at ha hb
  by_cases h : -9223372036854775808 ≤ a - b ∧ a - b ≤ 9223372036854775807
  · exact .inl ⟨okI_y h, by unfold wrap64; omega, by unfold wrap64; omega⟩
  · exact .inr ⟨by simpa [okI] using h, by unfold wrap64; omega⟩

end Go.Proofs.YtjddmcecllhlhaaDoor
