/-
  Rungs of the format double: magnitudes, and what it is to be the nearest one.
-/
import Derived.Laws.FloatArith
namespace Go.Proofs.Ytjddmcecllhlhaa.Flo
open Ieee

/-- The magnitude of a rung of the format double, in units of 2 ^ -1074. -/
def mg (r : Nat) : Nat := if r < 4503599627370496 then r else (4503599627370496 + r % 4503599627370496) * 2 ^ (r / 4503599627370496 - 1)

theorem two_pow_pos (t : Nat) : 0 < 2 ^ t := Nat.two_pow_pos t

theorem mg_mk (t q : Nat) (h : q ≤ 9007199254740992) (h' : t = 0 ∨ 4503599627370496 ≤ q) : mg (t * 4503599627370496 + q) = q * 2 ^ t := by
  unfold mg
  by_cases hq : q < 4503599627370496
  · have : t = 0 := by omega
    subst this
    rw [if_pos (by omega)]; simp
  · rw [if_neg (by omega)]
    by_cases h2 : q = 9007199254740992
    · subst h2
      have e1 : (t * 4503599627370496 + 9007199254740992) % 4503599627370496 = 0 := by omega
      have e2 : (t * 4503599627370496 + 9007199254740992) / 4503599627370496 - 1 = t + 1 := by omega
      rw [e1, e2, Nat.pow_succ]
      omega
    · have e1 : (t * 4503599627370496 + q) % 4503599627370496 = q - 4503599627370496 := by omega
      have e2 : (t * 4503599627370496 + q) / 4503599627370496 - 1 = t := by omega
      rw [e1, e2, Nat.add_sub_cancel' (by omega)]

/-- Every rung, by its significand and its binade. -/
theorem rung_form (r : Nat) : ∃ t q, r = t * 4503599627370496 + q ∧ q < 9007199254740992 ∧ (t = 0 ∨ 4503599627370496 ≤ q) := by
  by_cases h : r < 4503599627370496
  · exact ⟨0, r, by omega, by omega, .inl rfl⟩
  · exact ⟨r / 4503599627370496 - 1, r % 4503599627370496 + 4503599627370496, by omega, by omega, .inr (by omega)⟩

theorem mg_succ_form (t q : Nat) (h : q < 9007199254740992) (h' : t = 0 ∨ 4503599627370496 ≤ q) : mg (t * 4503599627370496 + q + 1) = mg (t * 4503599627370496 + q) + 2 ^ t := by
  rw [mg_mk t q (by omega) h', Nat.add_assoc, mg_mk t (q + 1) (by omega) (by omega), Nat.succ_mul]

theorem mg_lt_succ (r : Nat) : mg r < mg (r + 1) := by
  obtain ⟨t, q, rfl, h, h'⟩ := rung_form r
  rw [mg_succ_form t q h h']
  have := two_pow_pos t
  omega

theorem mg_mono {a b : Nat} (h : a ≤ b) : mg a ≤ mg b := by
  induction b with
  | zero => obtain rfl : a = 0 := by omega
            exact Nat.le_refl _
  | succ b ih =>
    by_cases e : a = b + 1
    · subst e; exact Nat.le_refl _
    · exact Nat.le_trans (ih (by omega)) (Nat.le_of_lt (mg_lt_succ b))

theorem mg_lt {a b : Nat} (h : a < b) : mg a < mg b := Nat.lt_of_lt_of_le (mg_lt_succ a) (mg_mono h)
theorem mg_le_iff {a b : Nat} : mg a ≤ mg b ↔ a ≤ b := by
  constructor
  · intro h
    by_cases h' : a ≤ b
    · exact h'
    · have := mg_lt (show b < a by omega)
      omega
  · exact mg_mono
theorem mg_inj {a b : Nat} (h : mg a = mg b) : a = b := by
  have h1 := mg_le_iff.1 (Nat.le_of_eq h)
  have h2 := mg_le_iff.1 (Nat.le_of_eq h.symm)
  omega
theorem mg_zero : mg 0 = 0 := by decide

/-- r is the rung nearest to N / D; between two, the even one. -/
def Rd (N D r : Nat) : Prop :=
  (2 * N ≤ D * (mg r + mg (r + 1)) ∧ (2 * N = D * (mg r + mg (r + 1)) → r % 2 = 0)) ∧ ∀ s, r = s + 1 → D * (mg s + mg r) ≤ 2 * N ∧ (D * (mg s + mg r) = 2 * N → r % 2 = 0)

theorem Rd.mono {N D r N' D' r' : Nat} (h : Rd N D r) (h' : Rd N' D' r') (hD : 0 < D) (hD' : 0 < D') (hle : N * D' ≤ N' * D) : r ≤ r' := by
  by_cases hlt : r ≤ r'
  · exact hlt
  obtain ⟨s, rfl⟩ : ∃ s, r = s + 1 := ⟨r - 1, by omega⟩
  have hs : r' ≤ s := by omega
  obtain ⟨l1, l2⟩ := h.2 s rfl
  obtain ⟨u1, u2⟩ := h'.1
  have e1 : D' * (D * (mg s + mg (s + 1))) ≤ D' * (2 * N) := Nat.mul_le_mul_left _ l1
  have e2 : D * (2 * N') ≤ D * (D' * (mg r' + mg (r' + 1))) := Nat.mul_le_mul_left _ u1
  have m1 := mg_mono hs
  have m2 := mg_mono (show r' + 1 ≤ s + 1 by omega)
  have e3 : D * (D' * (mg r' + mg (r' + 1))) ≤ D * (D' * (mg s + mg (s + 1))) := Nat.mul_le_mul_left _ (Nat.mul_le_mul_left _ (by omega))
  have e4 : D' * (D * (mg s + mg (s + 1))) = D * (D' * (mg s + mg (s + 1))) := Nat.mul_left_comm _ _ _
  have e5 : D' * (2 * N) = 2 * (N * D') := by rw [Nat.mul_comm D', Nat.mul_assoc]
  have e6 : D * (2 * N') = 2 * (N' * D) := by rw [Nat.mul_comm D, Nat.mul_assoc]
  have q1 : D * (D' * (mg r' + mg (r' + 1))) = D * (D' * (mg s + mg (s + 1))) := by omega
  have q2 : mg r' + mg (r' + 1) = mg s + mg (s + 1) := Nat.eq_of_mul_eq_mul_left hD' (Nat.eq_of_mul_eq_mul_left hD q1)
  have q3 : r' = s := mg_inj (by omega)
  subst q3
  have t1 : D * (mg r' + mg (r' + 1)) = 2 * N := Nat.eq_of_mul_eq_mul_left hD' (by omega)
  have t2 : 2 * N' = D' * (mg r' + mg (r' + 1)) := Nat.eq_of_mul_eq_mul_left hD (by omega)
  have p1 := l2 t1
  have p2 := u2 t2
  omega

theorem Rd.exact (D r : Nat) (hD : 0 < D) : Rd (D * mg r) D r := by
  refine ⟨?_, ?_⟩
  · have h := mg_lt_succ r
    have : D * mg r < D * mg (r + 1) := Nat.mul_lt_mul_of_pos_left h hD
    rw [Nat.mul_add]
    exact ⟨by omega, fun h => by omega⟩
  · rintro s rfl
    have h := mg_lt_succ s
    have : D * mg s < D * mg (s + 1) := Nat.mul_lt_mul_of_pos_left h hD
    rw [Nat.mul_add]
    exact ⟨by omega, fun h => by omega⟩

theorem Rd.uniq {N D r r' : Nat} (h : Rd N D r) (h' : Rd N D r') (hD : 0 < D) : r = r' :=
  Nat.le_antisymm (h.mono h' hD hD (Nat.le_refl _)) (h'.mono h hD hD (Nat.le_refl _))

theorem Rd.of_cut {N D t low kept : Nat} (ht : t = 0 ∨ 4503599627370496 ≤ low) (hl : low < 9007199254740992) (h0 : D * (low * 2 ^ t) ≤ N) (h1 : N < D * ((low + 1) * 2 ^ t)) (hD : 0 < D)
    (hk : (kept = low ∧ 2 * N ≤ D * ((2 * low + 1) * 2 ^ t) ∧ (2 * N = D * ((2 * low + 1) * 2 ^ t) → low % 2 = 0)) ∨ (kept = low + 1 ∧ D * ((2 * low + 1) * 2 ^ t) ≤ 2 * N ∧ (D * ((2 * low + 1) * 2 ^ t) = 2 * N → low % 2 = 1))) :
    Rd N D (t * 4503599627370496 + kept) := by
  have hp := two_pow_pos t
  have m0 : mg (t * 4503599627370496 + low) = low * 2 ^ t := mg_mk t low (by omega) ht
  have m1 : mg (t * 4503599627370496 + low + 1) = (low + 1) * 2 ^ t := by rw [mg_succ_form t low hl ht, m0, Nat.succ_mul]
  have es : mg (t * 4503599627370496 + low) + mg (t * 4503599627370496 + low + 1) = (2 * low + 1) * 2 ^ t := by rw [m0, m1, ← Nat.add_mul]; congr 1; omega
  rcases hk with ⟨rfl, a, b⟩ | ⟨rfl, a, b⟩
  · refine ⟨?_, ?_⟩
    · rw [es]; exact ⟨a, fun h => by have := b h; omega⟩
    · intro s hs
      have hlt : mg s < mg (t * 4503599627370496 + kept) := mg_lt (by omega)
      have : D * mg s < D * mg (t * 4503599627370496 + kept) := Nat.mul_lt_mul_of_pos_left hlt hD
      rw [Nat.mul_add]
      rw [← m0] at h0
      exact ⟨by omega, fun h => by omega⟩
  · refine ⟨?_, ?_⟩
    · have hlt := mg_lt_succ (t * 4503599627370496 + low + 1)
      have : D * mg (t * 4503599627370496 + low + 1) < D * mg (t * 4503599627370496 + low + 1 + 1) := Nat.mul_lt_mul_of_pos_left hlt hD
      rw [← Nat.add_assoc, Nat.mul_add]
      rw [← m1] at h1
      exact ⟨by omega, fun h => by omega⟩
    · intro s hs
      obtain rfl : s = t * 4503599627370496 + low := by omega
      rw [← Nat.add_assoc, es]
      exact ⟨a, fun h => by have := b h; omega⟩

theorem log2_le {n k : Nat} (h : n < 2 ^ (k + 1)) (h0 : n ≠ 0) : n.log2 ≤ k := by
  have := Nat.log2_self_le h0
  by_cases hk : n.log2 ≤ k
  · exact hk
  · have : 2 ^ (k + 1) ≤ 2 ^ n.log2 := Nat.pow_le_pow_right (by omega) (by omega)
    omega

/-- The even cut. -/
theorem cut_even (neg : Bool) (n drop : Nat) : Toward.even.cut neg n drop = n / 2 ^ drop + (if 2 ^ drop < 2 * (n % 2 ^ drop) ∨ (2 ^ drop = 2 * (n % 2 ^ drop) ∧ n / 2 ^ drop % 2 = 1) then 1 else 0) := by
  have main : ∀ g : Nat, (n / g + (decide (g < 2 * (n % g)) || (g == 2 * (n % g) && n / g % 2 == 1)).toNat) = n / g + (if g < 2 * (n % g) ∨ (g = 2 * (n % g) ∧ n / g % 2 = 1) then 1 else 0) := by
    intro g
    congr 1
    by_cases h : g < 2 * (n % g)
    · simp [h]
    · by_cases h2 : g = 2 * (n % g)
      · by_cases h3 : n / g % 2 = 1
        · rw [if_pos (.inr ⟨h2, h3⟩)]
          have : (g == 2 * (n % g) && n / g % 2 == 1) = true := by simp [h3]; exact h2
          rw [this]; simp
        · rw [if_neg (by omega)]
          have : (n / g % 2 == 1) = false := by simpa using h3
          rw [this]; simp; omega
      · rw [if_neg (by omega)]
        have : (g == 2 * (n % g)) = false := by simpa using h2
        rw [this]; simp; omega
  unfold Toward.cut
  simp only [Nat.shiftLeft_eq, Nat.one_mul]
  by_cases hd : drop ≤ n.log2 + 2
  · rw [Nat.min_eq_left hd]
    exact main _
  · rw [Nat.min_eq_right (by omega)]
    have hn : n < 2 ^ (n.log2 + 1) := Nat.lt_log2_self
    have e1 : (2 : Nat) ^ (n.log2 + 2) = 2 * 2 ^ (n.log2 + 1) := by rw [Nat.pow_succ, Nat.mul_comm]
    have e2 : (2 : Nat) ^ (n.log2 + 2) ≤ 2 ^ drop := Nat.pow_le_pow_right (by omega) (by omega)
    have d1 : n / 2 ^ (n.log2 + 2) = 0 := Nat.div_eq_of_lt (by omega)
    have d2 : n / 2 ^ drop = 0 := Nat.div_eq_of_lt (by omega)
    have d3 : n % 2 ^ (n.log2 + 2) = n := Nat.mod_eq_of_lt (by omega)
    have d4 : n % 2 ^ drop = n := Nat.mod_eq_of_lt (by omega)
    rw [main, d1, d2, d3, d4, if_neg (by omega), if_neg (by omega)]


end Go.Proofs.Ytjddmcecllhlhaa.Flo
