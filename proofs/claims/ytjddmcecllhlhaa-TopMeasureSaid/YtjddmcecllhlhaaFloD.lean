/-
  Values, order, and exact results.
-/
import Derived.Test.YtjddmcecllhlhaaFloC
namespace Go.Proofs.Ytjddmcecllhlhaa.Flo
open Ieee

theorem inf_mg : mg 9218868437227405312 = 4503599627370496 * 2 ^ (K + 972) := by
  have := mg_mk (K + 972) 4503599627370496 (by omega) (.inr (by omega))
  rwa [show (K + 972) * 4503599627370496 + 4503599627370496 = 9218868437227405312 by rw [K_eq]] at this
theorem word_ext {a b : Nat} (ha : a < 18446744073709551616) (hb : b < 18446744073709551616) (h : sg a = sg b) (hm : mag a = mag b) : a = b := by
  have h2 := mg_inj hm
  unfold rg at h2
  unfold sg at h
  by_cases h1 : a < 9223372036854775808 <;> by_cases h3 : b < 9223372036854775808
  · omega
  · have e1 : a / 9223372036854775808 % 2 = 0 := by omega
    have e2 : b / 9223372036854775808 % 2 = 1 := by omega
    rw [e1, e2] at h; simp at h
  · have e1 : a / 9223372036854775808 % 2 = 1 := by omega
    have e2 : b / 9223372036854775808 % 2 = 0 := by omega
    rw [e1, e2] at h; simp at h
  · omega
theorem wd_lt (neg : Bool) (r : Nat) : wd neg r < 18446744073709551616 := by
  rw [wd_eq]; cases neg <;> simp <;> omega
theorem mag_wd (neg : Bool) {r : Nat} (h : r ≤ 9218868437227405312) : mag (wd neg r) = mg r := by
  unfold mag; rw [rg_wd, Nat.min_eq_left h]
theorem fin_wd (neg : Bool) (r : Nat) : fin (wd neg r) = decide (r < 9218868437227405312) := by
  unfold fin; rw [rg_wd]; congr 1; simp; omega
theorem nan_wd (neg : Bool) (r : Nat) : isnan (wd neg r) = false := by
  unfold isnan; rw [rg_wd]; simp; omega
theorem val_wd (neg : Bool) {r : Nat} (h : r ≤ 9218868437227405312) : val (wd neg r) = if neg = true then -(mg r : Int) else mg r := by
  unfold val; rw [sg_wd, mag_wd neg h]

theorem val_nat (b : Nat) : (val b).natAbs = mag b := by
  unfold val; cases sg b <;> simp
theorem val_sg {b : Nat} (h : val b ≠ 0) : sg b = decide (val b < 0) := by
  unfold val at *
  cases hs : sg b
  · rw [hs] at h; simp at *
  · rw [hs] at h; simp at *; omega
theorem fin_of {b : Nat} (h1 : isnan b = false) (h2 : rg b ≠ 9218868437227405312) : fin b = true := by
  unfold isnan at h1; unfold fin; simp at *; omega
theorem fin_nan {b : Nat} (h : fin b = true) : isnan b = false := by
  unfold isnan; unfold fin at h; simp at *; omega
theorem fin_mag {b : Nat} (h : fin b = true) : mag b < 4503599627370496 * 2 ^ (K + 972) := by
  rw [← inf_mg]; unfold fin at h; simp at h; exact mg_lt h

theorem order_nan {x y : Nat} (h : isnan x = true ∨ isnan y = true) : double.order x y = none := by
  unfold Format.order
  rcases h with h | h
  · rw [read_nan h]; cases double.read y <;> rfl
  · rw [read_nan h]; cases double.read x <;> rfl

theorem order_val {x y : Nat} (hx : isnan x = false) (hy : isnan y = false) : double.order x y = some (compare (val x) (val y)) := by
  unfold Format.order
  by_cases fx : fin x = true
  · obtain ⟨m, i, e, hi, hm, _⟩ := read_fin fx
    rw [e]
    by_cases fy : fin y = true
    · obtain ⟨n, j, e', hj, hn, _⟩ := read_fin fy
      rw [e']
      simp only [Datum.order]
      have h1 := signed_val hm (base := min i j) (by omega) (by omega)
      have h2 := signed_val hn (base := min i j) (by omega) (by omega)
      generalize signed (sg x) m (i - min i j).toNat = a at *
      generalize signed (sg y) n (j - min i j).toNat = b at *
      have hp : (0 : Int) < (2 ^ (min i j + 1074).toNat : Nat) := Int.natCast_pos.2 (two_pow_pos _)
      rw [← h1, ← h2]
      congr 1
      rcases Int.lt_trichotomy a b with h | h | h
      · have := Int.mul_lt_mul_of_pos_right h hp
        rw [Int.compare_eq_lt.2 h, Int.compare_eq_lt.2 this]
      · rw [h]; rw [Int.compare_eq_eq.2 rfl, Int.compare_eq_eq.2 rfl]
      · have := Int.mul_lt_mul_of_pos_right h hp
        rw [Int.compare_eq_gt.2 h, Int.compare_eq_gt.2 this]
    · have ry : rg y = 9218868437227405312 := by unfold isnan at hy; unfold fin at fy; simp at *; omega
      rw [read_inf ry]
      simp only [Datum.order]
      have mx : mag x < mag y := by unfold mag; unfold fin at fx; simp at fx; exact mg_lt (by omega)
      congr 1
      unfold val
      cases sg y <;> cases sg x <;> simp <;> symm <;> first | (rw [Int.compare_eq_lt]; omega) | (rw [Int.compare_eq_gt]; omega)
  · have rx : rg x = 9218868437227405312 := by unfold isnan at hx; unfold fin at fx; simp at *; omega
    rw [read_inf rx]
    by_cases fy : fin y = true
    · obtain ⟨n, j, e', hj, hn, _⟩ := read_fin fy
      rw [e']
      simp only [Datum.order]
      have mx : mag y < mag x := by unfold mag; unfold fin at fy; simp at fy; exact mg_lt (by omega)
      congr 1
      unfold val
      cases sg y <;> cases sg x <;> simp <;> symm <;> first | (rw [Int.compare_eq_lt]; omega) | (rw [Int.compare_eq_gt]; omega)
    · have ry : rg y = 9218868437227405312 := by unfold isnan at hy; unfold fin at fy; simp at *; omega
      rw [read_inf ry]
      simp only [Datum.order]
      have mx : mag y = mag x := by unfold mag; rw [rx, ry]
      have m0 : 0 < mag x := by unfold mag; rw [rx, inf_mg]; exact Nat.mul_pos (by omega) (two_pow_pos _)
      congr 1
      unfold val
      rw [mx]
      cases sg y <;> cases sg x <;> simp
      · rw [Int.compare_eq_lt.2 (by omega : -(mag x : Int) < mag x)]; rfl
      · rw [Int.compare_eq_gt.2 (by omega : -(mag x : Int) < mag x)]; rfl

/-- A number of 53 digits is on a rung. -/
theorem rep_of (m k : Nat) (h : m ≤ 9007199254740992) : ∃ r, mg r = m * 2 ^ k := by
  induction k generalizing m with
  | zero => exact ⟨m, by have := mg_mk 0 m h (.inl rfl); simpa using this⟩
  | succ k ih =>
    by_cases h' : m ≤ 4503599627370496
    · obtain ⟨r, e⟩ := ih (2 * m) (by omega)
      exact ⟨r, by rw [e, Nat.pow_succ, Nat.mul_comm 2 m, Nat.mul_assoc, Nat.mul_comm 2]⟩
    · exact ⟨_, mg_mk (k + 1) m h (.inr (by omega))⟩

/-- A value that a word has. -/
def Rep (z : Int) : Prop := ∃ r, mg r = z.natAbs ∧ r < 9218868437227405312
theorem rep_val {b : Nat} (h : fin b = true) : Rep (val b) := ⟨rg b, by rw [val_nat]; rfl, by unfold fin at h; simpa using h⟩
theorem rep_mk (m k : Nat) (z : Int) (h : m ≤ 9007199254740992) (hk : k ≤ K + 970) (hz : z.natAbs = m * 2 ^ k) : Rep z := by
  obtain ⟨r, e⟩ := rep_of m k h
  refine ⟨r, by rw [e, hz], ?_⟩
  have h1 : mg r < mg 9218868437227405312 := by
    rw [e, inf_mg]
    have p1 : (2 : Nat) ^ k ≤ 2 ^ (K + 970) := Nat.pow_le_pow_right (by omega) hk
    have p2 : m * 2 ^ k ≤ 9007199254740992 * 2 ^ (K + 970) := Nat.mul_le_mul h p1
    have p3 : (2 : Nat) ^ (K + 972) = 4 * 2 ^ (K + 970) := by rw [show K + 972 = K + 970 + 2 from rfl, Nat.pow_add, Nat.mul_comm]
    have := two_pow_pos (K + 970)
    omega
  exact Nat.lt_of_not_le fun h => by have := mg_mono h; omega

theorem rd_exact {N r s : Nat} (h : Rd N 1 r) (e : mg s = N) : r = s := by
  have := Rd.exact 1 s (by omega)
  rw [Nat.one_mul, e] at this
  exact h.uniq this (by omega)

/-- What an exact result is. -/
structure Is (b : Nat) (neg0 : Bool) (z : Int) : Prop where
  lt : b < 18446744073709551616
  fin : fin b = true
  val : val b = z
  sg : sg b = if z = 0 then neg0 else decide (z < 0)

theorem is_wd {neg0 : Bool} {z : Int} {r : Nat} (h : mg r = z.natAbs) (hr : r < 9218868437227405312) : Is (wd (if z = 0 then neg0 else decide (z < 0)) r) neg0 z := by
  refine ⟨wd_lt _ _, by rw [fin_wd]; simpa using hr, ?_, sg_wd _ _⟩
  rw [val_wd _ (by omega), h]
  by_cases z0 : z = 0
  · subst z0; simp
  · rw [if_neg z0]
    by_cases zn : z < 0
    · simp [zn]; omega
    · simp [zn]; omega

theorem Is.eq {b b' : Nat} {s : Bool} {z : Int} (h : Is b s z) (h' : Is b' s z) : b = b' :=
  word_ext h.lt h'.lt (by rw [h.sg, h'.sg]) (by rw [← val_nat, ← val_nat, h.val, h'.val])

theorem add_is {x y : Nat} (hx : fin x = true) (hy : fin y = true) (h : Rep (val x + val y)) : ∃ b, double.add x y = some b ∧ Is b (sg x && sg y) (val x + val y) := by
  obtain ⟨r, hr, e⟩ := add_fin hx hy
  obtain ⟨s, hs, hs'⟩ := h
  obtain rfl := rd_exact hr hs
  exact ⟨_, e, is_wd hs hs'⟩

end Go.Proofs.Ytjddmcecllhlhaa.Flo
