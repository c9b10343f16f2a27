/-
  Floats.
-/
import Derived.Test.YtjddmcecllhlhaaFloI
namespace Go.Proofs.Ytjddmcecllhlhaa.Flo
open Ieee

theorem Rnd.unscale {z : Int} {D b c : Nat} (hc : 0 < c) (h : Rnd (z * c) (D * c) b) : Rnd z D b := by
  obtain ⟨hD, r, neg, hr, e, hp, hn⟩ := h
  have pc : (0 : Int) < c := Int.natCast_pos.2 hc
  have hD' : 0 < D := by
    by_cases h0 : D = 0
    · subst h0; simp at hD
    · omega
  refine ⟨hD', r, neg, ?_, e, fun h => hp (Int.mul_pos h pc), fun h => hn (Int.mul_neg_of_neg_of_pos h pc)⟩
  rw [Int.natAbs_mul, Int.natAbs_natCast] at hr
  exact (Rd.scale c hc).1 hr

/-- A constant: m on the place t. -/
theorem const_is (b t m : Nat) (hb : b = t * 4503599627370496 + m) (h1 : 4503599627370496 ≤ m) (h2 : m < 9007199254740992) (ht : t ≤ 2045) : Is b false ((m * 2 ^ t : Nat) : Int) := by
  have h := is_wd (neg0 := false) (z := ((m * 2 ^ t : Nat) : Int)) (r := b) (by rw [hb, Int.natAbs_natCast]; exact mg_mk t m (by omega) (.inr h1)) (by omega)
  have p : 0 < m * 2 ^ t := Nat.mul_pos (by omega) (two_pow_pos t)
  have e1 : ¬ ((m * 2 ^ t : Nat) : Int) = 0 := by omega
  have e2 : ¬ ((m * 2 ^ t : Nat) : Int) < 0 := by omega
  rw [if_neg e1, decide_eq_false e2] at h
  have : wd false b = b := by rw [wd_eq]; simp; omega
  rwa [this] at h
/-- c halves. -/
theorem const_H (b t m c s : Nat) (hb : b = t * 4503599627370496 + m) (h1 : 4503599627370496 ≤ m) (h2 : m < 9007199254740992) (ht : t ≤ 2045) (hm : m = c * 2 ^ s) (hs : s + t = 52 + J) : Is b false (c * H : Int) := by
  have h := const_is b t m hb h1 h2 ht
  have e : m * 2 ^ t = c * H := by
    unfold H
    rw [hm, Nat.mul_assoc, ← Nat.pow_add, hs, Nat.pow_add]
  rw [e, Int.natCast_mul] at h
  exact h
theorem day_is : Is 4680673776000565248 false (86400 * U : Int) := by
  have h := const_H 4680673776000565248 1038 5937362789990400 172800 35 (by omega) (by omega) (by omega) (by omega) (by decide) rfl
  have e : ((172800 : Nat) : Int) * (H : Int) = 86400 * (U : Int) := by rw [U_H]; omega
  rwa [e] at h
theorem epoch_is : Is 4702495533095190528 false (4881175 * H : Int) := const_H 4702495533095190528 1043 5241121747763200 4881175 30 (by omega) (by omega) (by omega) (by omega) (by decide) rfl

/-- A unit so small that days are near to within one. -/
def M : Nat := 1044
theorem K_M : K = M + 30 := rfl
theorem J_M : 52 + J = 29 + M := by unfold J M; omega
def Q : Nat := 2 ^ M
theorem Q_pos : 0 < Q := two_pow_pos _
theorem H_Q : H = 536870912 * Q := by
  unfold H Q
  rw [show (4503599627370496 : Nat) = 2 ^ 52 from rfl, show (536870912 : Nat) = 2 ^ 29 from rfl, ← Nat.pow_add, ← Nat.pow_add, J_M]
theorem U_Q : U = 1073741824 * Q := by rw [U_H, H_Q]; omega
theorem pow_29 : 2 ^ (M + 1) = 2 * Q := by unfold Q; rw [Nat.mul_comm, ← Nat.pow_succ]
theorem pow_12 : 2 ^ (M + 18) = 262144 * Q := by unfold Q; rw [show (262144 : Nat) = 2 ^ 18 from rfl, ← Nat.pow_add, Nat.add_comm]

theorem near_even {b : Nat} {n : Int} (h1 : n * U - H < val b) (h2 : val b < n * U + H) : rndI .even b = n := by
  have hv := val_parts b
  have hl := lft_bd b
  have hU := U_H
  have hH := H_pos
  rw [rnd_even]
  have hU' : (U : Int) = 2 * H := by omega
  have key : ∀ k : Int, tr b = n + k → (k ≤ -2 → k * (U : Int) ≤ -2 * U) ∧ (2 ≤ k → 2 * (U : Int) ≤ k * U) := by
    intro k _
    have p : (0 : Int) ≤ U := Int.natCast_nonneg _
    exact ⟨fun h => Int.mul_le_mul_of_nonneg_right h p, fun h => Int.mul_le_mul_of_nonneg_right h p⟩
  obtain ⟨k, hk⟩ : ∃ k, tr b = n + k := ⟨tr b - n, by omega⟩
  obtain ⟨k1, k2⟩ := key k hk
  have e : tr b * (U : Int) = n * U + k * U := by rw [hk, Int.add_mul]
  rw [hv, e] at h1 h2
  have hk2 : k = -1 ∨ k = 0 ∨ k = 1 := by
    by_cases a : k ≤ -2
    · have := k1 a; omega
    · by_cases c : 2 ≤ k
      · have := k2 c; omega
      · omega
  rcases hk2 with rfl | rfl | rfl
  · rw [if_pos (by omega), if_neg (by omega)]; omega
  · rw [if_neg (by omega), if_neg (by omega)]; omega
  · rw [if_neg (by omega), if_pos (by omega)]; omega

/-- A second's day number, and the second of that. -/
theorem julian_back {t : Int} (h0 : -1096193779200 ≤ t) (h1 : t ≤ 1096193779200) : ∃ q s d p, Go.floatBits .quo .f64 (Go.floatOfInt .f64 t) 4680673776000565248 = some q ∧ Go.floatBits .add .f64 q 4702495533095190528 = some s ∧
    Go.floatBits .sub .f64 s 4702495533095190528 = some d ∧ Go.floatBits .mul .f64 d 4680673776000565248 = some p ∧ fin p = true ∧ p < 18446744073709551616 ∧ rndI .even p = t := by
  have hx := int_is (n := t) (by omega)
  have hday := day_is
  have hep := epoch_is
  have pU := U_pos
  have pQ := Q_pos
  have eU : (U : Int) = 1073741824 * Q := by rw [U_Q]; omega
  have eH : (H : Int) = 536870912 * Q := by rw [H_Q]; omega
  have e29 : ((2 ^ (M + 1) : Nat) : Int) = 2 * Q := by rw [pow_29]; omega
  have e12 : ((2 ^ (M + 18) : Nat) : Int) = 262144 * Q := by rw [pow_12]; omega
  obtain ⟨q, hq, rq⟩ := div_rnd hx.fin hday.fin (by rw [hday.val]; omega)
  have rq' : Rnd (t * U) 86400 q := by
    rw [hday.val, hx.val, show ((86400 : Int) * U).toNat = 86400 * U by omega] at rq
    exact rq.unscale pU
  obtain ⟨fq, q1, q2⟩ := rq'.near (t := M + 1) (by have := K_M; omega) (by
    rw [pow_29, Int.natAbs_mul, Int.natAbs_natCast, U_Q]
    have : t.natAbs * (1073741824 * Q) ≤ 1096193779200 * (1073741824 * Q) := Nat.mul_le_mul_right _ (by omega)
    omega)
  rw [e29] at q1 q2
  obtain ⟨s, hs, rs⟩ := add_rnd fq hep.fin
  have tQ0 : -1096193779200 * (Q : Int) ≤ t * Q := Int.mul_le_mul_of_nonneg_right h0 (Int.natCast_nonneg _)
  have tQ1 : t * (Q : Int) ≤ 1096193779200 * Q := Int.mul_le_mul_of_nonneg_right h1 (Int.natCast_nonneg _)
  have etU : t * (U : Int) = 1073741824 * (t * Q) := by rw [eU, Int.mul_left_comm]
  rw [etU] at q1 q2
  rw [hep.val, eH] at rs
  obtain ⟨fs, s1, s2⟩ := rs.near (t := M + 1) (by have := K_M; omega) (by
    rw [pow_29]; omega)
  rw [e29] at s1 s2
  obtain ⟨d, hd, rd⟩ := sub_rnd fs hep.fin hep.lt
  rw [hep.val, eH] at rd
  obtain ⟨fd, d1, d2⟩ := rd.near (t := M + 1) (by have := K_M; omega) (by
    rw [pow_29]; omega)
  rw [e29] at d1 d2
  obtain ⟨p, hp, rp⟩ := mul_rnd fd hday.fin
  have rp' : Rnd (val d * 86400) 1 p := by
    rw [hday.val, ← Int.mul_assoc, ← Nat.one_mul U] at rp
    refine Rnd.unscale pU ?_
    rw [Nat.one_mul] at rp ⊢
    exact rp
  obtain ⟨fp, p1, p2⟩ := rp'.near (t := M + 18) (by have := K_M; omega) (by
    rw [pow_12]; omega)
  rw [e12] at p1 p2
  refine ⟨q, s, d, p, hq, hs, hd, hp, fp, rp'.lt, near_even ?_ ?_⟩
  · rw [etU, eH]; omega
  · rw [etU, eH]; omega
end Go.Proofs.Ytjddmcecllhlhaa.Flo
