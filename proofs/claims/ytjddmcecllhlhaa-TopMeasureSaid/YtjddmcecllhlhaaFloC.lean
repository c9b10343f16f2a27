/-
  Sums, products and quotients of words.
-/
import Derived.Test.YtjddmcecllhlhaaFloB
namespace Go.Proofs.Ytjddmcecllhlhaa.Flo
open Ieee

def sg (b : Nat) : Bool := b / 9223372036854775808 % 2 == 1
def rg (b : Nat) : Nat := b % 9223372036854775808
/-- Finite. -/
def fin (b : Nat) : Bool := decide (rg b < 9218868437227405312)
def isnan (b : Nat) : Bool := decide (9218868437227405312 < rg b)
/-- The magnitude of a word. -/
def mag (b : Nat) : Nat := mg (rg b)
/-- The value of a word, in units of 2 ^ -1074. -/
def val (b : Nat) : Int := if sg b = true then -(mag b : Int) else (mag b : Int)
/-- The word of a sign and a rung that may be too great. -/
def wd (neg : Bool) (r : Nat) : Nat := double.word neg (min r 9218868437227405312)

theorem wd_eq (neg : Bool) (r : Nat) : wd neg r = (if neg = true then 9223372036854775808 else 0) + min r 9218868437227405312 := by
  unfold wd Format.word
  rw [sign_eq]
  cases neg <;> simp
theorem sg_wd (neg : Bool) (r : Nat) : sg (wd neg r) = neg := by
  rw [wd_eq]; unfold sg
  have : min r 9218868437227405312 ≤ 9218868437227405312 := Nat.min_le_right _ _
  cases neg <;> simp <;> omega
theorem rg_wd (neg : Bool) (r : Nat) : rg (wd neg r) = min r 9218868437227405312 := by
  rw [wd_eq]; unfold rg
  have : min r 9218868437227405312 ≤ 9218868437227405312 := Nat.min_le_right _ _
  cases neg <;> simp <;> omega
theorem wd_sg_rg (b : Nat) (hb : b < 18446744073709551616) (h : isnan b = false) : wd (sg b) (rg b) = b := by
  rw [wd_eq]
  unfold isnan at h; simp at h
  rw [Nat.min_eq_left h]
  unfold sg rg
  by_cases h1 : b < 9223372036854775808
  · have : b / 9223372036854775808 % 2 = 0 := by omega
    rw [this]; simp; omega
  · have : b / 9223372036854775808 % 2 = 1 := by omega
    rw [this]; simp; omega

theorem read_eq (b : Nat) : double.read b = if rg b < 4503599627370496 then .number (sg b) (rg b) (-1074) else if rg b < 9218868437227405312 then .number (sg b) (4503599627370496 + rg b % 4503599627370496) (-1074 + (rg b / 4503599627370496 - 1 : Nat)) else if rg b = 9218868437227405312 then .infinity (sg b) else .nan (sg b) (rg b - 9218868437227405312) := by
  unfold Format.read
  simp only [sign_eq, binade_eq, inf_eq, least_eq]
  rfl

theorem read_fin {b : Nat} (h : fin b = true) : ∃ m i, double.read b = .number (sg b) m i ∧ -1074 ≤ i ∧ m * 2 ^ (i + 1074).toNat = mag b ∧ m < 9007199254740992 := by
  unfold fin at h; simp at h
  rw [read_eq]
  unfold mag mg
  by_cases h1 : rg b < 4503599627370496
  · rw [if_pos h1, if_pos h1]
    exact ⟨_, _, rfl, by omega, by simp, by omega⟩
  · rw [if_neg h1, if_neg h1, if_pos h]
    refine ⟨_, _, rfl, by omega, ?_, by omega⟩
    congr 2; omega
theorem read_inf {b : Nat} (h : rg b = 9218868437227405312) : double.read b = .infinity (sg b) := by
  rw [read_eq, h]; rfl
theorem read_nan {b : Nat} (h : isnan b = true) : double.read b = .nan (sg b) (rg b - 9218868437227405312) := by
  unfold isnan at h; simp at h
  rw [read_eq, if_neg (by omega), if_neg (by omega), if_neg (by omega)]

theorem Rd.scale {N D r : Nat} (c : Nat) (hc : 0 < c) : Rd (N * c) (D * c) r ↔ Rd N D r := by
  have e1 : ∀ x, D * c * x = c * (D * x) := fun x => by rw [Nat.mul_comm D c, Nat.mul_assoc]
  have e2 : 2 * (N * c) = c * (2 * N) := by rw [Nat.mul_comm c, Nat.mul_assoc]
  unfold Rd
  simp only [e1, e2]
  have le : ∀ a b, c * a ≤ c * b ↔ a ≤ b := fun a b => ⟨fun h => Nat.le_of_mul_le_mul_left h hc, fun h => Nat.mul_le_mul_left c h⟩
  have eq : ∀ a b, c * a = c * b ↔ a = b := fun a b => ⟨fun h => Nat.eq_of_mul_eq_mul_left hc h, fun h => by rw [h]⟩
  simp only [le, eq]

theorem nearest_wd (neg : Bool) (m : Nat) (place : Int) (N D : Nat) (hD : 0 < D) (h : m * 2 ^ (place + 1074).toNat * D = N * 2 ^ (-(place + 1074)).toNat) : ∃ r, Rd N D r ∧ double.nearest neg m place = wd neg r := by
  obtain ⟨r, hr, e⟩ := nearest_rd neg m place
  refine ⟨r, ?_, e⟩
  have h1 := (Rd.scale (N := nu m place) (D := de place) (r := r) D hD).2 hr
  have h2 : nu m place * D = N * de place := h
  rw [h2, Nat.mul_comm (de place) D] at h1
  exact (Rd.scale (de place) (de_pos place)).1 h1

theorem two_split (a b : Nat) : (2 : Nat) ^ (a + b) = 2 ^ a * 2 ^ b := Nat.pow_add 2 a b

theorem signed_val {b m : Nat} {i base : Int} (hm : m * 2 ^ (i + 1074).toNat = mag b) (h0 : -1074 ≤ base) (h1 : base ≤ i) : signed (sg b) m (i - base).toNat * (2 ^ (base + 1074).toNat : Nat) = val b := by
  have e : m * 2 ^ (i - base).toNat * 2 ^ (base + 1074).toNat = mag b := by
    rw [Nat.mul_assoc, ← Nat.pow_add, ← hm]; congr 2; omega
  unfold signed val
  rw [Nat.shiftLeft_eq, ← e]
  cases sg b <;> simp [Int.neg_mul]

theorem add_fin {x y : Nat} (hx : fin x = true) (hy : fin y = true) : ∃ r, Rd (val x + val y).natAbs 1 r ∧ double.add x y = some (wd (if val x + val y = 0 then sg x && sg y else decide (val x + val y < 0)) r) := by
  obtain ⟨m, i, e, hi, hm, _⟩ := read_fin hx
  obtain ⟨n, j, e', hj, hn, _⟩ := read_fin hy
  unfold Format.add
  rw [e, e']
  simp only [Datum.sum, Option.map_some, Format.write]
  have h1 := signed_val hm (base := min i j) (by omega) (by omega)
  have h2 := signed_val hn (base := min i j) (by omega) (by omega)
  generalize signed (sg x) m (i - min i j).toNat = a at *
  generalize signed (sg y) n (j - min i j).toNat = b at *
  have hs : (a + b) * (2 ^ (min i j + 1074).toNat : Nat) = val x + val y := by rw [Int.add_mul, h1, h2]
  have hp : (0 : Int) < (2 ^ (min i j + 1074).toNat : Nat) := Int.natCast_pos.2 (two_pow_pos _)
  have z : (a + b = 0) ↔ (val x + val y = 0) := by
    rw [← hs]; constructor
    · intro h; rw [h]; simp
    · intro h
      rcases Int.mul_eq_zero.1 h with h | h
      · exact h
      · omega
  have l : (a + b < 0) ↔ (val x + val y < 0) := by
    rw [← hs]; constructor
    · intro h; exact Int.mul_neg_of_neg_of_pos h hp
    · intro h
      by_cases h' : a + b < 0
      · exact h'
      · have := Int.mul_nonneg (show 0 ≤ a + b by omega) (Int.le_of_lt hp)
        omega
  have ab : (a + b).natAbs * 2 ^ (min i j + 1074).toNat = (val x + val y).natAbs := by
    rw [← hs, Int.natAbs_mul, Int.natAbs_natCast]
  obtain ⟨r, hr, er⟩ := nearest_wd (if a + b = 0 then sg x && sg y else decide (a + b < 0)) (a + b).natAbs (min i j) (val x + val y).natAbs 1 (by omega) (by rw [Nat.mul_one, ab, show (-(min i j + 1074)).toNat = 0 by omega]; simp)
  refine ⟨r, hr, ?_⟩
  rw [er]
  simp only [z, l]

/-- The units of 1. -/
def K : Nat := 1074
theorem K_eq : K = 1074 := rfl
def U : Nat := 2 ^ K
theorem U_pos : 0 < U := two_pow_pos _
theorem U_def : U = 2 ^ K := rfl
theorem mul_fin {x y : Nat} (hx : fin x = true) (hy : fin y = true) : ∃ r, Rd (mag x * mag y) U r ∧ double.mul x y = some (wd (sg x ^^ sg y) r) := by
  obtain ⟨m, i, e, hi, hm, _⟩ := read_fin hx
  obtain ⟨n, j, e', hj, hn, _⟩ := read_fin hy
  unfold Format.mul
  rw [e, e']
  simp only [Datum.product, Option.map_some, Format.write]
  obtain ⟨r, hr, er⟩ := nearest_wd (sg x ^^ sg y) (m * n) (i + j) (mag x * mag y) U U_pos (by
    rw [← hm, ← hn]
    have : m * 2 ^ (i + 1074).toNat * (n * 2 ^ (j + 1074).toNat) = m * n * 2 ^ ((i + 1074).toNat + (j + 1074).toNat) := by
      rw [Nat.pow_add, Nat.mul_mul_mul_comm]
    rw [this, U_def, Nat.mul_assoc (m * n), Nat.mul_assoc (m * n), ← Nat.pow_add, ← Nat.pow_add]
    have := K_eq
    congr 2; omega)
  exact ⟨r, hr, by rw [er]⟩
/-- Two quotients that stand alike to every midpoint have one rung. -/
theorem Rd.alike {N D N' D' r : Nat} (h : ∀ s, (2 * N ≤ D * (mg s + mg (s + 1)) ↔ 2 * N' ≤ D' * (mg s + mg (s + 1))) ∧ (D * (mg s + mg (s + 1)) ≤ 2 * N ↔ D' * (mg s + mg (s + 1)) ≤ 2 * N')) (hr : Rd N' D' r) : Rd N D r := by
  refine ⟨⟨(h r).1.2 hr.1.1, fun e => ?_⟩, ?_⟩
  · exact hr.1.2 (Nat.le_antisymm ((h r).1.1 (Nat.le_of_eq e)) ((h r).2.1 (Nat.le_of_eq e.symm)))
  · rintro s rfl
    obtain ⟨a, b⟩ := hr.2 s rfl
    exact ⟨(h s).2.2 a, fun e => b (Nat.le_antisymm ((h s).2.1 (Nat.le_of_eq e)) ((h s).1.1 (Nat.le_of_eq e.symm)))⟩

theorem mid_form (s : Nat) : ∃ t k, mg s + mg (s + 1) = (2 * k + 1) * 2 ^ t ∧ k < 9007199254740992 := by
  obtain ⟨t, q, rfl, h, h'⟩ := rung_form s
  refine ⟨t, q, ?_, h⟩
  rw [mg_succ_form t q h h', mg_mk t q (by omega) h', ← Nat.add_assoc, ← Nat.two_mul, ← Nat.mul_assoc, Nat.add_mul, Nat.one_mul]

theorem sticky (m n : Nat) (p : Int) (hn : 0 < n) (hq : 9007199254740992 ≤ m / n) (r : Nat) (hr : Rd ((2 * (m / n) + (m % n != 0).toNat) * 2 ^ p.toNat) (2 ^ (-p).toNat) r) : Rd (2 * m * 2 ^ p.toNat) (n * 2 ^ (-p).toNat) r := by
  refine Rd.alike (fun s => ?_) hr
  obtain ⟨t, k, es, hk⟩ := mid_form s
  rw [es]
  clear es hr
  have dm := Nat.div_add_mod m n
  have ml := Nat.mod_lt m hn
  obtain ⟨c, hc, hc01⟩ : ∃ c, (m % n != 0).toNat = c ∧ ((m % n = 0 ∧ c = 0) ∨ (m % n ≠ 0 ∧ c = 1)) := by
    refine ⟨_, rfl, ?_⟩
    by_cases h : m % n = 0
    · left; simp [h]
    · right; simp [h]
  rw [hc]
  generalize m / n = q at *
  generalize m % n = rem at *
  have ha := two_pow_pos p.toNat
  have hb := two_pow_pos (-p).toNat
  by_cases ht : p + 2 ≤ t
  · -- a multiple of four units
    obtain ⟨z, hz⟩ : ∃ z, 2 ^ (-p).toNat * ((2 * k + 1) * 2 ^ t) = 4 * 2 ^ p.toNat * z := by
      refine ⟨(2 * k + 1) * 2 ^ ((-p).toNat + t - 2 - p.toNat), ?_⟩
      have e : (2 : Nat) ^ ((-p).toNat + t) = 4 * 2 ^ p.toNat * 2 ^ ((-p).toNat + t - 2 - p.toNat) := by
        rw [show (4 : Nat) = 2 ^ 2 from rfl, ← Nat.pow_add, ← Nat.pow_add]; congr 1; omega
      rw [Nat.mul_left_comm, ← Nat.pow_add, e, Nat.mul_left_comm]
    have e1 : n * 2 ^ (-p).toNat * ((2 * k + 1) * 2 ^ t) = 4 * 2 ^ p.toNat * (n * z) := by rw [Nat.mul_assoc, hz, Nat.mul_left_comm]
    have e2 : 2 * (2 * m * 2 ^ p.toNat) = 4 * 2 ^ p.toNat * m := by rw [← Nat.mul_assoc, ← Nat.mul_assoc, Nat.mul_right_comm]
    have e3 : 2 * ((2 * q + c) * 2 ^ p.toNat) = 2 * 2 ^ p.toNat * (2 * q + c) := by rw [Nat.mul_assoc, Nat.mul_comm (2 ^ p.toNat)]
    have e4 : 4 * 2 ^ p.toNat * z = 2 * 2 ^ p.toNat * (2 * z) := by rw [Nat.mul_mul_mul_comm, ← Nat.mul_assoc]
    have h4 : 0 < 4 * 2 ^ p.toNat := by omega
    have h2 : 0 < 2 * 2 ^ p.toNat := by omega
    have le4 : ∀ a b, 4 * 2 ^ p.toNat * a ≤ 4 * 2 ^ p.toNat * b ↔ a ≤ b := fun a b => ⟨fun h => Nat.le_of_mul_le_mul_left h h4, fun h => Nat.mul_le_mul_left _ h⟩
    have le2 : ∀ a b, 2 * 2 ^ p.toNat * a ≤ 2 * 2 ^ p.toNat * b ↔ a ≤ b := fun a b => ⟨fun h => Nat.le_of_mul_le_mul_left h h2, fun h => Nat.mul_le_mul_left _ h⟩
    rw [e1, e2, e3, hz, e4, le4, le4, le2, le2]
    have l1 : n * q + rem ≤ n * z ↔ (q < z ∨ (q = z ∧ rem = 0)) := by
      constructor
      · intro h
        by_cases hz' : q < z
        · exact .inl hz'
        · right
          have : n * z ≤ n * q := Nat.mul_le_mul_left _ (by omega)
          have hr0 : rem = 0 := by omega
          exact ⟨Nat.eq_of_mul_eq_mul_left hn (by omega), hr0⟩
      · rintro (h | ⟨rfl, h⟩)
        · have : n * (q + 1) ≤ n * z := Nat.mul_le_mul_left _ h
          rw [Nat.mul_succ] at this
          omega
        · omega
    have l2 : n * z ≤ n * q + rem ↔ z ≤ q := by
      constructor
      · intro h
        by_cases hz' : z ≤ q
        · exact hz'
        · have : n * (q + 1) ≤ n * z := Nat.mul_le_mul_left _ (by omega)
          rw [Nat.mul_succ] at this
          omega
      · intro h
        have : n * z ≤ n * q := Nat.mul_le_mul_left _ h
        omega
    rw [← dm, l1, l2]
    omega
  · -- far below
    have key : 2 ^ (-p).toNat * ((2 * k + 1) * 2 ^ t) < 4 * 2 ^ p.toNat * q := by
      have b1 : (2 : Nat) ^ ((-p).toNat + t) ≤ 2 * 2 ^ p.toNat := by
        rw [show (2 : Nat) * 2 ^ p.toNat = 2 ^ (p.toNat + 1) by rw [Nat.pow_succ, Nat.mul_comm]]
        exact Nat.pow_le_pow_right (by omega) (by omega)
      rw [Nat.mul_left_comm, ← Nat.pow_add]
      have b2 : (2 * k + 1) * 2 ^ ((-p).toNat + t) ≤ (2 * k + 1) * (2 * 2 ^ p.toNat) := Nat.mul_le_mul_left _ b1
      have b3 : (2 * k + 1) * (2 * 2 ^ p.toNat) < (2 * q) * (2 * 2 ^ p.toNat) := Nat.mul_lt_mul_of_pos_right (by omega) (by omega)
      have b4 : (2 * q) * (2 * 2 ^ p.toNat) = 4 * 2 ^ p.toNat * q := by
        rw [Nat.mul_mul_mul_comm, Nat.mul_comm q, ← Nat.mul_assoc]
      omega
    have m1 : 2 ^ (-p).toNat * ((2 * k + 1) * 2 ^ t) < 2 * ((2 * q + c) * 2 ^ p.toNat) := by
      have : 2 * ((2 * q + c) * 2 ^ p.toNat) = 4 * 2 ^ p.toNat * q + 2 * (c * 2 ^ p.toNat) := by
        rw [Nat.add_mul, Nat.mul_add, Nat.mul_assoc, ← Nat.mul_assoc 2 2, Nat.mul_comm q, ← Nat.mul_assoc]
      omega
    have m2 : n * 2 ^ (-p).toNat * ((2 * k + 1) * 2 ^ t) < 2 * (2 * m * 2 ^ p.toNat) := by
      have c1 : n * (2 ^ (-p).toNat * ((2 * k + 1) * 2 ^ t)) < n * (4 * 2 ^ p.toNat * q) := Nat.mul_lt_mul_of_pos_left key hn
      have c2 : n * (4 * 2 ^ p.toNat * q) = 4 * 2 ^ p.toNat * (n * q) := Nat.mul_left_comm _ _ _
      have c3 : 4 * 2 ^ p.toNat * (n * q) ≤ 4 * 2 ^ p.toNat * m := Nat.mul_le_mul_left _ (by omega)
      have c4 : 2 * (2 * m * 2 ^ p.toNat) = 4 * 2 ^ p.toNat * m := by rw [← Nat.mul_assoc, ← Nat.mul_assoc, Nat.mul_right_comm]
      rw [Nat.mul_assoc]
      omega
    exact ⟨⟨fun h => absurd h (by omega), fun h => absurd h (by omega)⟩, ⟨fun _ => by omega, fun _ => by omega⟩⟩

theorem quo_fin {x y : Nat} (hx : fin x = true) (hy : fin y = true) (h0 : mag y ≠ 0) : ∃ r, Rd (mag x * U) (mag y) r ∧ double.div x y = some (wd (sg x ^^ sg y) r) := by
  obtain ⟨m, i, e, hi, hm, _⟩ := read_fin hx
  obtain ⟨n, j, e', hj, hn, _⟩ := read_fin hy
  have n0 : n ≠ 0 := by rintro rfl; simp at hn; exact h0 hn.symm
  unfold Format.div
  rw [e, e']
  simp only [Datum.quotient, if_neg n0, Option.map_some, Format.write]
  have hf : double.fractionBits + 2 = 54 := rfl
  rw [hf, Nat.shiftLeft_eq]
  obtain ⟨more, hmore⟩ : ∃ more, 54 + n.log2 - m.log2 = more := ⟨_, rfl⟩
  rw [hmore]
  obtain ⟨r, hr, er⟩ := nearest_rd (sg x ^^ sg y) (2 * (m * 2 ^ more / n) + (m * 2 ^ more % n != 0).toNat) (i - j - more - 1)
  refine ⟨r, ?_, by rw [er]; rfl⟩
  have hn1 : n < 2 ^ (n.log2 + 1) := Nat.lt_log2_self
  by_cases m0 : m = 0
  · subst m0
    have hx0 : mag x = 0 := by rw [← hm]; simp
    have e0 : r = 0 := by
      have z : nu (2 * (0 * 2 ^ more / n) + (0 * 2 ^ more % n != 0).toNat) (i - j - more - 1) = 0 := by simp [nu]
      rw [z] at hr
      have := Rd.exact (de (i - j - more - 1)) 0 (de_pos _)
      rw [mg_zero, Nat.mul_zero] at this
      exact hr.uniq this (de_pos _)
    subst e0
    have := Rd.exact (mag y) 0 (by omega)
    rw [mg_zero, Nat.mul_zero] at this
    rw [hx0, Nat.zero_mul]; exact this
  · have hm1 : 2 ^ m.log2 ≤ m := Nat.log2_self_le m0
    have hq : 9007199254740992 ≤ m * 2 ^ more / n := by
      rw [Nat.le_div_iff_mul_le (by omega)]
      have a1 : 9007199254740992 * n ≤ 9007199254740992 * 2 ^ (n.log2 + 1) := Nat.mul_le_mul_left _ (by omega)
      have a2 : 9007199254740992 * 2 ^ (n.log2 + 1) = 2 ^ (54 + n.log2) := by
        rw [show (9007199254740992 : Nat) = 2 ^ 53 from rfl, ← Nat.pow_add]; congr 1; omega
      have a3 : (2 : Nat) ^ (54 + n.log2) ≤ 2 ^ (m.log2 + more) := Nat.pow_le_pow_right (by omega) (by omega)
      have a4 : 2 ^ (m.log2 + more) ≤ m * 2 ^ more := by rw [Nat.pow_add]; exact Nat.mul_le_mul_right _ hm1
      omega
    have := sticky (m * 2 ^ more) n (i - j - more - 1 + 1074) (by omega) hq r hr
    -- the same quotient
    have key : 2 * (m * 2 ^ more) * 2 ^ (i - j - more - 1 + 1074).toNat * mag y = mag x * U * (n * 2 ^ (-(i - j - more - 1 + 1074)).toNat) := by
      rw [← hm, ← hn, U_def]
      have l : 2 * (m * 2 ^ more) * 2 ^ (i - j - more - 1 + 1074).toNat * (n * 2 ^ (j + 1074).toNat) = m * n * 2 ^ (1 + more + (i - j - more - 1 + 1074).toNat + (j + 1074).toNat) := by
        simp only [Nat.pow_add, Nat.pow_one]
        simp only [Nat.mul_assoc, Nat.mul_left_comm, Nat.mul_comm]
      have rr : m * 2 ^ (i + 1074).toNat * 2 ^ K * (n * 2 ^ (-(i - j - more - 1 + 1074)).toNat) = m * n * 2 ^ ((i + 1074).toNat + K + (-(i - j - more - 1 + 1074)).toNat) := by
        rw [Nat.pow_add, Nat.pow_add, ← Nat.mul_assoc (m * n), Nat.mul_assoc m, Nat.mul_mul_mul_comm, Nat.mul_assoc (m * n)]
      rw [l, rr]
      have := K_eq
      congr 2
      omega
    have s1 := (Rd.scale (mag y) (by omega)).2 this
    rw [key, Nat.mul_comm (n * _) (mag y)] at s1
    exact (Rd.scale _ (Nat.mul_pos (by omega) (two_pow_pos _))).1 s1
end Go.Proofs.Ytjddmcecllhlhaa.Flo
