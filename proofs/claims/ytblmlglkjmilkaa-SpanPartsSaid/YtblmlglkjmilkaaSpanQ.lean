/-
  noontidelaw10.SpanParts: the walk.
-/
import Derived.Test.YtblmlglkjmilkaaSpanP
namespace Go.Proofs.Ytblmlglkjmilkaa
open Go.RowKit

theorem len_is {x y : Int} (kx : I64 x) (ky : I64 y) (h : x < y) (hle : y - x ≤ 9223372036854775807) : ∀ w : World, Calls Try.prog 19 #[spn x y] w fun e w' => e = .returned (.tuple #[.int .i64 (y - x), .int .i64 0]) ∧ Below w.heap.size w w' := fun w => by
  have := span_Len x y kx ky w
  have hk : okI (y - x) = true := okI_y (by omega)
  rwa [show lenV x y = y - x by unfold lenV; rw [if_pos h]; exact (valI_y hk).1, show lenE x y = 0 by unfold lenE; rw [if_pos h]; exact (valI_y hk).2] at this
theorem bboth_is {a b c d : Int} {v : Bool} (h : meetB a b c d = v) : ∀ w : World, Calls Try.prog 15 #[spn a b, spn c d] w fun e w' => e = .returned (.tuple #[spn (bothF a b c d) (bothT a b c d), .bool v]) ∧ Below w.heap.size w w' := fun w => by subst h; exact span_Both a b c d w
/-- How a span moves. -/
theorem parts_move {a b n : Int} (ka : I64 a) (kb : I64 b) (kn : I64 n) :
    (∃ u1 u2, ∀ w : World, Calls Try.prog 21 #[spn a b, .int .i64 n] w fun e w' => e = .returned (.tuple #[spn u1 u2, .int .i64 1]) ∧ Below w.heap.size w w') ∨
    ∃ u1 u2, (∀ w : World, Calls Try.prog 21 #[spn a b, .int .i64 n] w fun e w' => e = .returned (.tuple #[spn u1 u2, .int .i64 0]) ∧ Below w.heap.size w w') ∧
      ((n == -9223372036854775808) = true ∨ ((n == -9223372036854775808) = false ∧ -9223372036854775807 ≤ n ∧
        (∀ w : World, Calls Try.prog 21 #[spn u1 u2, .int .i64 (-n)] w fun e w' => e = .returned (.tuple #[spn a b, .int .i64 0]) ∧ Below w.heap.size w w') ∧
        (∀ w : World, Calls Try.prog 19 #[spn u1 u2] w fun e w' => e = .returned (.tuple #[.int .i64 (lenV a b), .int .i64 (lenE a b)]) ∧ Below w.heap.size w w'))) := by
  have hM := fun w => span_Move a b n ka kb kn w
  cases h : moveB a b n
  · left
    exact ⟨_, _, fun w => by have := hM w; rwa [show moveE a b n = 1 by simp [moveE, h]] at this⟩
  · right
    have hb := h
    unfold moveB at hb
    obtain ⟨h1, h2, h3⟩ := of_decide_eq_true hb
    have k1 : I64 (a + n) := by simpa [okI, I64] using h2
    have k2 : I64 (b + n) := by simpa [okI, I64] using h3
    refine ⟨a + n, b + n, fun w => by have := hM w; rwa [show moveE a b n = 0 by simp [moveE, h], show moveV a b n a = a + n by simp [moveV, h], show moveV a b n b = b + n by simp [moveV, h]] at this, ?_⟩
    by_cases hn : n = -9223372036854775808
    · left; simpa using hn
    · right
      have kn' : I64 (-n) := by unfold I64 at *; omega
      have mb : moveB (a + n) (b + n) (-n) = true := decide_eq_true ⟨by omega, by rw [show a + n + -n = a by omega]; exact okI_y ka, by rw [show b + n + -n = b by omega]; exact okI_y kb⟩
      refine ⟨by simpa using hn, by unfold I64 at kn; omega, fun w => ?_, fun w => ?_⟩
      · have := span_Move (a + n) (b + n) (-n) k1 k2 kn' w
        rwa [show moveE (a + n) (b + n) (-n) = 0 by simp [moveE, mb], show moveV (a + n) (b + n) (-n) (a + n) = a by simp [moveV, mb]; omega, show moveV (a + n) (b + n) (-n) (b + n) = b by simp [moveV, mb]; omega] at this
      · have := span_Len (a + n) (b + n) k1 k2 w
        have e : b + n - (a + n) = b - a := by omega
        rwa [show lenV (a + n) (b + n) = lenV a b by unfold lenV; rw [e]; by_cases h : a < b; rw [if_pos h, if_pos (by omega)]; rw [if_neg h, if_neg (by omega)], show lenE (a + n) (b + n) = lenE a b by unfold lenE; rw [e]; by_cases h : a < b; rw [if_pos h, if_pos (by omega)]; rw [if_neg h, if_neg (by omega)]] at this
theorem SpanParts_walk (a b c d n : Int) (ka : I64 a) (kb : I64 b) (kc : I64 c) (kd : I64 d) (kn : I64 n) (w : World) : Calls Try.prog 5 #[spn a b, spn c d, .int .i64 n] w fun e w' => e = .returned (.bool true) ∧ Below w.heap.size w w' := by
  have P := parts_move ka kb kn
  have ka' := ka
  have kb' := kb
  have kc' := kc
  have kd' := kd
  have kn' := kn
  unfold I64 at ka' kb' kc' kd' kn'
  by_cases hE : a < b ∧ b - a ≤ 9223372036854775807
  · obtain ⟨hab, hle⟩ := hE
    have hLen := len_is ka kb hab hle
    have eV : lenV a b = b - a := by unfold lenV; rw [if_pos hab]; exact (valI_y (okI_y (by omega))).1
    have eE : lenE a b = 0 := by unfold lenE; rw [if_pos hab]; exact (valI_y (okI_y (by omega))).2
    rw [eV, eE] at P
    have hL := fun w => span_Less a b c d w
    rcases less_cases a b c d with ⟨⟨hm, h1, h2⟩, e⟩ | ⟨⟨hm, h1, h2⟩, e⟩ | ⟨⟨hm, h1, h2⟩, e⟩ | ⟨⟨hm, h1, h2⟩, e⟩ | ⟨⟨hm, h1⟩, e⟩ | ⟨⟨hm, h1⟩, e⟩
    · rw [e] at hL
      have mt := (show a < b ∧ c < d ∧ max a c < min b d by simpa [meetB] using hm)
      obtain ⟨ef, et, _⟩ := meetB_y mt
      have ef2 : bothF a b c d = c := by omega
      have et2 : bothT a b c d = d := by omega
      have hB := bboth_is hm
      rw [ef2, et2] at hB
      rcases P with ⟨u1, u2, hM⟩ | ⟨u1, u2, hM, hn | ⟨hn, n0, hR, hK⟩⟩
      · exact SpanParts_12_n _ _ _ _ _ _ _ _ _ _ _ _ _ _ _ _ _ _ _ _ (by omega) (by omega) hLen hB (len_is kc kd (by omega) (by omega)) hL (len_is ka kc (by omega) (by omega)) (len_is kd kb (by omega) (by omega)) (by omega) (by omega) (by omega) (by omega) (bne_eq_false_iff_eq.2 (by omega)) hM w
      · exact SpanParts_12_l _ _ _ _ _ _ _ _ _ _ _ _ _ _ _ _ _ _ _ _ (by omega) (by omega) hLen hB (len_is kc kd (by omega) (by omega)) hL (len_is ka kc (by omega) (by omega)) (len_is kd kb (by omega) (by omega)) (by omega) (by omega) (by omega) (by omega) (bne_eq_false_iff_eq.2 (by omega)) hM hn w
      · exact SpanParts_12_y _ _ _ _ _ _ _ _ _ _ _ _ _ _ _ _ _ _ _ _ (by omega) (by omega) hLen hB (len_is kc kd (by omega) (by omega)) hL (len_is ka kc (by omega) (by omega)) (len_is kd kb (by omega) (by omega)) (by omega) (by omega) (by omega) (by omega) (bne_eq_false_iff_eq.2 (by omega)) hM hn n0 kn'.2 hR hK w
    · rw [e] at hL
      have mt := (show a < b ∧ c < d ∧ max a c < min b d by simpa [meetB] using hm)
      obtain ⟨ef, et, _⟩ := meetB_y mt
      have ef2 : bothF a b c d = c := by omega
      have et2 : bothT a b c d = b := by omega
      have hB := bboth_is hm
      rw [ef2, et2] at hB
      rcases P with ⟨u1, u2, hM⟩ | ⟨u1, u2, hM, hn | ⟨hn, n0, hR, hK⟩⟩
      · exact SpanParts_11_n _ _ _ _ _ _ _ _ _ _ _ _ _ _ _ _ (by omega) (by omega) hLen hB (len_is kc kb (by omega) (by omega)) hL (len_is ka kc (by omega) (by omega)) (by omega) (by omega) (by omega) (bne_eq_false_iff_eq.2 (by omega)) hM w
      · exact SpanParts_11_l _ _ _ _ _ _ _ _ _ _ _ _ _ _ _ _ (by omega) (by omega) hLen hB (len_is kc kb (by omega) (by omega)) hL (len_is ka kc (by omega) (by omega)) (by omega) (by omega) (by omega) (bne_eq_false_iff_eq.2 (by omega)) hM hn w
      · exact SpanParts_11_y _ _ _ _ _ _ _ _ _ _ _ _ _ _ _ _ (by omega) (by omega) hLen hB (len_is kc kb (by omega) (by omega)) hL (len_is ka kc (by omega) (by omega)) (by omega) (by omega) (by omega) (bne_eq_false_iff_eq.2 (by omega)) hM hn n0 kn'.2 hR hK w
    · rw [e] at hL
      have mt := (show a < b ∧ c < d ∧ max a c < min b d by simpa [meetB] using hm)
      obtain ⟨ef, et, _⟩ := meetB_y mt
      have ef2 : bothF a b c d = a := by omega
      have et2 : bothT a b c d = d := by omega
      have hB := bboth_is hm
      rw [ef2, et2] at hB
      rcases P with ⟨u1, u2, hM⟩ | ⟨u1, u2, hM, hn | ⟨hn, n0, hR, hK⟩⟩
      · exact SpanParts_11_n _ _ _ _ _ _ _ _ _ _ _ _ _ _ _ _ (by omega) (by omega) hLen hB (len_is ka kd (by omega) (by omega)) hL (len_is kd kb (by omega) (by omega)) (by omega) (by omega) (by omega) (bne_eq_false_iff_eq.2 (by omega)) hM w
      · exact SpanParts_11_l _ _ _ _ _ _ _ _ _ _ _ _ _ _ _ _ (by omega) (by omega) hLen hB (len_is ka kd (by omega) (by omega)) hL (len_is kd kb (by omega) (by omega)) (by omega) (by omega) (by omega) (bne_eq_false_iff_eq.2 (by omega)) hM hn w
      · exact SpanParts_11_y _ _ _ _ _ _ _ _ _ _ _ _ _ _ _ _ (by omega) (by omega) hLen hB (len_is ka kd (by omega) (by omega)) hL (len_is kd kb (by omega) (by omega)) (by omega) (by omega) (by omega) (bne_eq_false_iff_eq.2 (by omega)) hM hn n0 kn'.2 hR hK w
    · rw [e] at hL
      have mt := (show a < b ∧ c < d ∧ max a c < min b d by simpa [meetB] using hm)
      obtain ⟨ef, et, _⟩ := meetB_y mt
      have ef2 : bothF a b c d = a := by omega
      have et2 : bothT a b c d = b := by omega
      have hB := bboth_is hm
      rw [ef2, et2] at hB
      rcases P with ⟨u1, u2, hM⟩ | ⟨u1, u2, hM, hn | ⟨hn, n0, hR, hK⟩⟩
      · exact SpanParts_10_n _ _ _ _ _ _ _ _ _ _ _ _ (by omega) (by omega) hLen hB (len_is ka kb (by omega) (by omega)) hL (by omega) (by omega) (bne_eq_false_iff_eq.2 (by omega)) hM w
      · exact SpanParts_10_l _ _ _ _ _ _ _ _ _ _ _ _ (by omega) (by omega) hLen hB (len_is ka kb (by omega) (by omega)) hL (by omega) (by omega) (bne_eq_false_iff_eq.2 (by omega)) hM hn w
      · exact SpanParts_10_y _ _ _ _ _ _ _ _ _ _ _ _ (by omega) (by omega) hLen hB (len_is ka kb (by omega) (by omega)) hL (by omega) (by omega) (bne_eq_false_iff_eq.2 (by omega)) hM hn n0 kn'.2 hR hK w
    · rw [e] at hL
      rcases P with ⟨u1, u2, hM⟩ | ⟨u1, u2, hM, hn | ⟨hn, n0, hR, hK⟩⟩
      · exact SpanParts_01_n _ _ _ _ _ _ _ _ _ _ _ _ _ _ (by omega) (by omega) hLen (bboth_is hm) hL (len_is ka kb (by omega) (by omega)) (by omega) (by omega) (bne_eq_false_iff_eq.2 (by omega)) hM w
      · exact SpanParts_01_l _ _ _ _ _ _ _ _ _ _ _ _ _ _ (by omega) (by omega) hLen (bboth_is hm) hL (len_is ka kb (by omega) (by omega)) (by omega) (by omega) (bne_eq_false_iff_eq.2 (by omega)) hM hn w
      · exact SpanParts_01_y _ _ _ _ _ _ _ _ _ _ _ _ _ _ (by omega) (by omega) hLen (bboth_is hm) hL (len_is ka kb (by omega) (by omega)) (by omega) (by omega) (bne_eq_false_iff_eq.2 (by omega)) hM hn n0 kn'.2 hR hK w
    · rw [e] at hL
      exact absurd hab h1
  · have eV : lenV a b = 0 := by
      unfold lenV; by_cases h : a < b
      · rw [if_pos h]; exact (valI_n (by simp [okI]; omega)).1
      · rw [if_neg h]
    have eE : lenE a b = 1 := by
      unfold lenE; by_cases h : a < b
      · rw [if_pos h]; exact (valI_n (by simp [okI]; omega)).2
      · rw [if_neg h]
    have hLen := fun w => span_Len a b ka kb w
    rw [eV, eE] at P hLen
    rcases P with ⟨u1, u2, hM⟩ | ⟨u1, u2, hM, hn | ⟨hn, n0, hR, hK⟩⟩
    · exact SpanParts_x_n _ _ _ _ _ _ _ _ (by omega) (by omega) hLen hM w
    · exact SpanParts_x_l _ _ _ _ _ _ _ _ (by omega) (by omega) hLen hM hn w
    · exact SpanParts_x_y _ _ _ _ _ _ _ _ (by omega) (by omega) hLen hM hn n0 kn'.2 hR hK w
end Go.Proofs.Ytblmlglkjmilkaa
