/-
  Floats.
-/
import Derived.Test.YtjddmcecllhlhaaFloG
namespace Go.Proofs.Ytjddmcecllhlhaa.Flo
open Ieee

/-- How far the nearest rung is. -/
theorem rd_err {N D r t : Nat} (h : Rd N D r) (hD : 0 < D) (hN : N ≤ D * (9007199254740992 * 2 ^ t)) : 2 * (D * mg r) ≤ 2 * N + D * 2 ^ t ∧ 2 * N ≤ 2 * (D * mg r) + D * 2 ^ t := by
  have e0 : mg (t * 4503599627370496 + 9007199254740992) = 9007199254740992 * 2 ^ t := mg_mk t _ (by omega) (.inr (by omega))
  have hr : r ≤ t * 4503599627370496 + 9007199254740992 := by
    have := Rd.exact D (t * 4503599627370496 + 9007199254740992) hD
    rw [e0] at this
    exact h.mono this hD hD (Nat.mul_le_mul_right _ hN)
  -- a gap below this rung is no wider
  have gap : ∀ s, s < t * 4503599627370496 + 9007199254740992 → mg (s + 1) ≤ mg s + 2 ^ t := by
    intro s hs
    obtain ⟨t', q, rfl, hq, hq'⟩ := rung_form s
    rw [mg_succ_form t' q hq hq']
    have : t' ≤ t := by
      rcases hq' with h | h
      · omega
      · refine Nat.le_of_not_lt fun hlt => ?_
        have : (t + 1) * 4503599627370496 ≤ t' * 4503599627370496 := Nat.mul_le_mul_right _ hlt
        omega
    have := Nat.pow_le_pow_right (show 0 < 2 by omega) this
    omega
  constructor
  · cases r with
    | zero => rw [mg_zero]; simp
    | succ s =>
      have g := gap s (by omega)
      have l := (h.2 s rfl).1
      have e1 : D * mg (s + 1) ≤ D * (mg s + 2 ^ t) := Nat.mul_le_mul_left _ g
      rw [Nat.mul_add] at l e1
      omega
  · by_cases he : r < t * 4503599627370496 + 9007199254740992
    · have g := gap r he
      have u := h.1.1
      have e1 : D * mg (r + 1) ≤ D * (mg r + 2 ^ t) := Nat.mul_le_mul_left _ g
      rw [Nat.mul_add] at u e1
      omega
    · have : r = t * 4503599627370496 + 9007199254740992 := by omega
      rw [this, e0]
      have := Nat.zero_le (D * 2 ^ t)
      omega

/-- The same, by the magnitude: of a normal number at most the 2 ^ 53rd part. -/
theorem rd_rel {N D r : Nat} (h : Rd N D r) (hr : 4503599627370496 ≤ r) : 9007199254740992 * (D * mg r) ≤ 9007199254740992 * N + D * mg r ∧ 9007199254740992 * N ≤ 9007199254740992 * (D * mg r) + D * mg r := by
  obtain ⟨t, q, rfl, hq, hq'⟩ := rung_form r
  have hq2 : 4503599627370496 ≤ q := by
    rcases hq' with h | h
    · subst h; omega
    · exact h
  have m0 := mg_mk t q (by omega) hq'
  have m1 := mg_succ_form t q hq hq'
  have big : 4503599627370496 * 2 ^ t ≤ mg (t * 4503599627370496 + q) := by rw [m0]; exact Nat.mul_le_mul_right _ hq2
  have b2 : D * (4503599627370496 * 2 ^ t) ≤ D * mg (t * 4503599627370496 + q) := Nat.mul_le_mul_left _ big
  have b3 : D * (4503599627370496 * 2 ^ t) = 4503599627370496 * (D * 2 ^ t) := Nat.mul_left_comm _ _ _
  constructor
  · obtain ⟨s, hs⟩ : ∃ s, t * 4503599627370496 + q = s + 1 := ⟨t * 4503599627370496 + q - 1, by omega⟩
    have l := (h.2 s hs).1
    have g : mg (s + 1) ≤ mg s + 2 ^ t := by
      obtain ⟨t', q', rfl, hq1, hq1'⟩ := rung_form s
      rw [mg_succ_form t' q' hq1 hq1']
      have : t' ≤ t := by
        rcases hq1' with h | h
        · omega
        · refine Nat.le_of_not_lt fun hlt => ?_
          have : (t + 1) * 4503599627370496 ≤ t' * 4503599627370496 := Nat.mul_le_mul_right _ hlt
          omega
      have := Nat.pow_le_pow_right (show 0 < 2 by omega) this
      omega
    rw [← hs] at g
    have e1 : D * mg (t * 4503599627370496 + q) ≤ D * (mg s + 2 ^ t) := Nat.mul_le_mul_left _ g
    rw [Nat.mul_add] at l e1
    omega
  · have u := h.1.1
    rw [m1, Nat.mul_add, Nat.mul_add] at u
    omega

/-- Sums, products and quotients of classes of words. -/
def fop (op : Go.BinOp) : Option Nat → Option Nat → Option Nat
  | some a, some b => Go.floatBits op .f64 a b
  | _, _ => none

theorem isnan_write {d : Datum} (h : d.isNaN = false) : isnan (double.write d) = false := by
  cases d with
  | number s m p =>
    obtain ⟨r, _, e⟩ := nearest_rd s m p
    show isnan (double.nearest s m p) = false
    rw [e]; exact nan_wd s r
  | infinity s =>
    show isnan (double.word s double.infRung) = false
    have := nan_wd s 9218868437227405312
    rw [inf_eq]; exact this
  | nan s t => simp [Datum.isNaN] at h
theorem write_lt' (d : Datum) : double.write d < 18446744073709551616 := double.write_lt d

theorem sum_nan {a b c : Datum} (h : Datum.sum a b = some c) : c.isNaN = false := by
  cases a <;> cases b <;> simp only [Datum.sum] at h
  all_goals first
    | (cases h; rfl)
    | (split at h <;> first | (cases h; rfl) | cases h)
    | cases h
theorem product_nan {a b c : Datum} (h : Datum.product a b = some c) : c.isNaN = false := by
  cases a <;> cases b <;> simp only [Datum.product] at h
  all_goals first
    | (cases h; rfl)
    | (split at h <;> first | (cases h; rfl) | cases h)
    | cases h
theorem quotient_nan {k : Nat} {a b c : Datum} (h : Datum.quotient k a b = some c) : c.isNaN = false := by
  cases a <;> cases b <;> simp only [Datum.quotient] at h
  all_goals first
    | (cases h; rfl)
    | (split at h
       · split at h
         · cases h
         · cases h; rfl
       · cases h; rfl)
    | cases h

/-- A result is a word and not a NaN. -/
theorem bits_word {op : Go.BinOp} {x y r : Nat} (h : Go.floatBits op .f64 x y = some r) : isnan r = false ∧ r < 18446744073709551616 := by
  unfold Go.floatBits at h
  cases op <;> simp only at h <;> try (cases h; done)
  · change double.add x y = some r at h
    unfold Format.add at h
    obtain ⟨d, hd, rfl⟩ := Option.map_eq_some_iff.1 h
    exact ⟨isnan_write (sum_nan hd), write_lt' d⟩
  · change double.sub x y = some r at h
    unfold Format.sub at h
    obtain ⟨d, hd, rfl⟩ := Option.map_eq_some_iff.1 h
    exact ⟨isnan_write (sum_nan hd), write_lt' d⟩
  · change double.mul x y = some r at h
    unfold Format.mul at h
    obtain ⟨d, hd, rfl⟩ := Option.map_eq_some_iff.1 h
    exact ⟨isnan_write (product_nan hd), write_lt' d⟩
  · change double.div x y = some r at h
    unfold Format.div at h
    obtain ⟨d, hd, rfl⟩ := Option.map_eq_some_iff.1 h
    exact ⟨isnan_write (quotient_nan hd), write_lt' d⟩
theorem bits_nan {op : Go.BinOp} {x y : Nat} (h : isnan x = true ∨ isnan y = true) : Go.floatBits op .f64 x y = none := by
  unfold Go.floatBits
  cases op <;> simp only
  · show double.add x y = none
    unfold Format.add
    rcases h with h | h
    · rw [read_nan h]; cases double.read y <;> rfl
    · rw [read_nan h]; cases double.read x <;> rfl
  · show double.sub x y = none
    unfold Format.sub
    rcases h with h | h
    · rw [read_nan h]; cases double.read y <;> rfl
    · rw [read_nan h]; cases double.read x <;> rfl
  · show double.mul x y = none
    unfold Format.mul
    rcases h with h | h
    · rw [read_nan h]; cases double.read y <;> rfl
    · rw [read_nan h]; cases double.read x <;> rfl
  · show double.div x y = none
    unfold Format.div
    rcases h with h | h
    · rw [read_nan h]; cases double.read y <;> rfl
    · rw [read_nan h]; cases double.read x <;> rfl
theorem fop_nz (op : Go.BinOp) (x y : Nat) : fop op (nz x) (nz y) = Go.floatBits op .f64 x y := by
  cases hx : isnan x
  · cases hy : isnan y
    · rw [nz_some hx, nz_some hy]; rfl
    · rw [nz_none hy, bits_nan (.inr hy)]; cases nz x <;> rfl
  · rw [nz_none hx, bits_nan (.inl hx)]; rfl
end Go.Proofs.Ytjddmcecllhlhaa.Flo
