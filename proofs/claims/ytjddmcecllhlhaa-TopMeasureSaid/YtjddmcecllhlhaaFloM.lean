/-
  Floats.
-/
import Derived.Test.YtjddmcecllhlhaaFloL
namespace Go.Proofs.Ytjddmcecllhlhaa.Flo
open Ieee

/-- Between two values of words. -/
theorem Rnd.ge {z : Int} {D b c : Nat} (h : Rnd z D b) (hc : fin c = true) (hle : D * val c ≤ z) : val c ≤ val b := by
  obtain ⟨hD, r, neg, hr, rfl, hp, hn⟩ := h
  have hl : rg c < 9218868437227405312 := by unfold fin at hc; simpa using hc
  have pD : (0 : Int) < D := Int.natCast_pos.2 hD
  have ex := Rd.exact D (rg c) hD
  have vb : ∀ (neg : Bool), val (wd neg r) = if neg = true then -(mg (min r 9218868437227405312) : Int) else mg (min r 9218868437227405312) := by
    intro neg; unfold val mag; rw [sg_wd, rg_wd]
  rw [vb]
  rcases val_sign c with ⟨_, v⟩ | ⟨_, v⟩
  · rw [v] at hle ⊢
    by_cases hz : z < 0
    · rw [hn hz, if_pos rfl]
      have hm : z.natAbs * 1 ≤ D * mg (rg c) := by
        have e1 : (z.natAbs : Int) = -z := by omega
        have : ((z.natAbs : Nat) : Int) ≤ ((D * mg (rg c) : Nat) : Int) := by
          rw [e1, Int.natCast_mul]
          have : (D : Int) * -(mag c : Int) = -((D : Int) * (mag c : Int)) := Int.mul_neg _ _
          rw [this] at hle
          show -z ≤ (D : Int) * (mag c : Int)
          omega
        rw [Nat.mul_one]; exact_mod_cast this
      have := hr.mono ex hD hD (by rw [Nat.mul_one] at hm; exact Nat.mul_le_mul_right _ hm)
      have m := mg_mono (show min r 9218868437227405312 ≤ rg c by omega)
      have : (mg (min r 9218868437227405312) : Int) ≤ (mag c : Int) := by exact_mod_cast m
      omega
    · by_cases hz0 : z = 0
      · subst hz0
        have := rd_zero hr hD
        subst this
        have : (0 : Int) ≤ mag c := Int.natCast_nonneg _
        cases neg <;> simp [mg_zero] <;> omega
      · rw [hp (by omega), if_neg (by simp)]
        have : (0 : Int) ≤ mag c := Int.natCast_nonneg _
        have : (0 : Int) ≤ mg (min r 9218868437227405312) := Int.natCast_nonneg _
        omega
  · rw [v] at hle ⊢
    have pc : (0 : Int) ≤ mag c := Int.natCast_nonneg _
    have hz : 0 ≤ z := Int.le_trans (Int.mul_nonneg (Int.le_of_lt pD) pc) hle
    have hm : D * mg (rg c) ≤ z.natAbs := by
      have e1 : (z.natAbs : Int) = z := by omega
      have : ((D * mg (rg c) : Nat) : Int) ≤ ((z.natAbs : Nat) : Int) := by
        rw [e1, Int.natCast_mul]; exact hle
      exact_mod_cast this
    have k := ex.mono hr hD hD (Nat.mul_le_mul_right _ hm)
    have m := mg_mono (show rg c ≤ min r 9218868437227405312 by omega)
    have m' : (mag c : Int) ≤ (mg (min r 9218868437227405312) : Int) := by exact_mod_cast m
    by_cases hz0 : z = 0
    · subst hz0
      have := rd_zero hr hD
      subst this
      have hmc : mag c = 0 := by
        have : D * mg (rg c) = 0 := by simpa using hm
        rcases Nat.mul_eq_zero.1 this with h | h
        · omega
        · exact h
      rw [hmc]
      cases neg <;> simp [mg_zero]
    · rw [hp (by omega), if_neg (by simp)]
      exact m'
theorem wd_neg (neg : Bool) (r : Nat) : Go.Op.negFloat .f64 (wd neg r) = wd (!neg) r := by
  rw [neg_eq (wd_lt _ _), wd_eq, wd_eq]
  have : min r 9218868437227405312 ≤ 9218868437227405312 := Nat.min_le_right _ _
  generalize min r 9218868437227405312 = m at *
  cases neg
  · simp only [Bool.false_eq_true, if_false, Bool.not_false, if_true]
    rw [if_pos (by omega)]; omega
  · simp only [if_true, Bool.not_true, Bool.false_eq_true, if_false]
    rw [if_neg (by omega)]; omega
theorem Rnd.neg {z : Int} {D b : Nat} (h : Rnd z D b) : Rnd (-z) D (Go.Op.negFloat .f64 b) := by
  obtain ⟨hD, r, neg, hr, rfl, hp, hn⟩ := h
  exact ⟨hD, r, !neg, by rw [Int.natAbs_neg]; exact hr, wd_neg neg r, fun h => by rw [hn (by omega)]; rfl, fun h => by rw [hp (by omega)]; rfl⟩
theorem Rnd.le {z : Int} {D b c : Nat} (h : Rnd z D b) (hc : fin c = true) (lc : c < 18446744073709551616) (hle : z ≤ D * val c) : val b ≤ val c := by
  have := h.neg.ge ((fin_neg lc).trans hc) (by rw [val_neg lc, Int.mul_neg]; omega)
  rw [val_neg lc, val_neg h.lt] at this
  omega

/-- A second's day number, in steps. -/
theorem of_word (t : Int) (h : -9223372036854775808 ≤ t ∧ t ≤ 9223372036854775807) : ∃ q s, Go.floatBits .quo .f64 (Go.floatOfInt .f64 t) 4680673776000565248 = some q ∧ Go.floatBits .add .f64 q 4702495533095190528 = some s ∧
    fin (Go.floatOfInt .f64 t) = true ∧ fin q = true ∧ fin s = true ∧ s < 18446744073709551616 ∧ Rnd (t * U) 1 (Go.floatOfInt .f64 t) ∧ Rnd (val (Go.floatOfInt .f64 t)) 86400 q ∧ Rnd (val q + 4881175 * H) 1 s := by
  have hday := day_is
  have hep := epoch_is
  have pU := U_pos
  have pQ := Q_pos
  have eU : (U : Int) = 1073741824 * Q := by rw [U_Q]; omega
  have eH : (H : Int) = 536870912 * Q := by rw [H_Q]; omega
  have e11 : 2 ^ (K + 11) = 2048 * U := by rw [Nat.pow_add, show (2 : Nat) ^ 11 = 2048 from rfl, Nat.mul_comm, U_def]
  have e11' : ((2 ^ (K + 11) : Nat) : Int) = 2048 * U := by rw [e11]; omega
  have hx := int_rnd t
  obtain ⟨fx, x1, x2⟩ := hx.near (t := K + 11) (by omega) (by
    rw [e11, Int.natAbs_mul, Int.natAbs_natCast]
    have : t.natAbs * U ≤ 9223372036854775808 * U := Nat.mul_le_mul_right _ (by omega)
    omega)
  rw [e11'] at x1 x2
  have tU0 : -9223372036854775808 * (U : Int) ≤ t * U := Int.mul_le_mul_of_nonneg_right h.1 (Int.natCast_nonneg _)
  have tU1 : t * (U : Int) ≤ 9223372036854775807 * U := Int.mul_le_mul_of_nonneg_right h.2 (Int.natCast_nonneg _)
  obtain ⟨q, hq, rq⟩ := div_rnd fx hday.fin (by rw [hday.val]; omega)
  have rq' : Rnd (val (Go.floatOfInt .f64 t)) 86400 q := by
    rw [hday.val, show ((86400 : Int) * U).toNat = 86400 * U by omega] at rq
    exact rq.unscale pU
  obtain ⟨fq, q1, q2⟩ := rq'.near (t := K + 11) (by omega) (by
    rw [e11]; omega)
  rw [e11'] at q1 q2
  obtain ⟨s, hs, rs⟩ := add_rnd fq hep.fin
  rw [hep.val] at rs
  obtain ⟨fs, _, _⟩ := rs.near (t := K + 11) (by omega) (by
    rw [e11]; omega)
  exact ⟨q, s, hq, hs, fx, fq, fs, rs.lt, hx, rq', rs⟩
/-- In order. -/
theorem of_mono {t u : Int} {x q s y p r : Nat} (h : t ≤ u) (a1 : Rnd (t * U) 1 x) (a2 : Rnd (val x) 86400 q) (a3 : Rnd (val q + 4881175 * H) 1 s) (b1 : Rnd (u * U) 1 y) (b2 : Rnd (val y) 86400 p) (b3 : Rnd (val p + 4881175 * H) 1 r) : val s ≤ val r := by
  have hU := Int.mul_le_mul_of_nonneg_right h (Int.natCast_nonneg U)
  have m1 := a1.mono b1 (by omega)
  have m2 := a2.mono b2 (by omega)
  exact a3.mono b3 (by omega)
/-- Near, for the seconds of the years that there are. -/
theorem of_near {t : Int} {q s : Nat} (h0 : -1096193779200 ≤ t) (h1 : t ≤ 1096193779200) (a2 : Rnd (val (Go.floatOfInt .f64 t)) 86400 q) (a3 : Rnd (val q + 4881175 * H) 1 s) :
    86400 * val s ≤ t * U + 86400 * (4881175 * H) + 172800 * Q ∧ t * U + 86400 * (4881175 * H) - 172800 * Q ≤ 86400 * val s := by
  have hx := int_is (n := t) (by omega)
  have eU : (U : Int) = 1073741824 * Q := by rw [U_Q]; omega
  have eH : (H : Int) = 536870912 * Q := by rw [H_Q]; omega
  have e29 : ((2 ^ (M + 1) : Nat) : Int) = 2 * Q := by rw [pow_29]; omega
  rw [hx.val] at a2
  obtain ⟨fq, q1, q2⟩ := a2.near (t := M + 1) (by have := K_M; omega) (by
    rw [pow_29, Int.natAbs_mul, Int.natAbs_natCast, U_Q]
    have : t.natAbs * (1073741824 * Q) ≤ 1096193779200 * (1073741824 * Q) := Nat.mul_le_mul_right _ (by omega)
    omega)
  rw [e29] at q1 q2
  have tQ0 : -1096193779200 * (Q : Int) ≤ t * Q := Int.mul_le_mul_of_nonneg_right h0 (Int.natCast_nonneg _)
  have tQ1 : t * (Q : Int) ≤ 1096193779200 * Q := Int.mul_le_mul_of_nonneg_right h1 (Int.natCast_nonneg _)
  have etU : t * (U : Int) = 1073741824 * (t * Q) := by rw [eU, Int.mul_left_comm]
  rw [etU] at q1 q2
  rw [eH] at a3
  obtain ⟨fs, s1, s2⟩ := a3.near (t := M + 1) (by have := K_M; omega) (by
    rw [pow_29]; omega)
  rw [e29] at s1 s2
  rw [etU, eH]
  omega
theorem one_is : Is 4607182418800017408 false (U : Int) := by
  have h := const_H 4607182418800017408 1022 4503599627370496 2 51 (by omega) (by omega) (by omega) (by omega) (by decide) rfl
  have e : ((2 : Nat) : Int) * (H : Int) = (U : Int) := by rw [U_H]; omega
  rwa [e] at h
def L2 : Nat := 1002
theorem Q_L2 : Q = 4398046511104 * 2 ^ L2 := by
  have e : M = 42 + L2 := by unfold M L2; omega
  unfold Q
  rw [e, Nat.pow_add]
/-- A day later. -/
theorem day_later {t : Int} {q s p r : Nat} (h0 : -1096193779200 ≤ t) (h1 : t ≤ 971890963199) (fs : fin s = true) (fr : fin r = true) (ls : s < 18446744073709551616) (a2 : Rnd (val (Go.floatOfInt .f64 t)) 86400 q) (a3 : Rnd (val q + 4881175 * H) 1 s)
    (b2 : Rnd (val (Go.floatOfInt .f64 (t + 86400))) 86400 p) (b3 : Rnd (val p + 4881175 * H) 1 r) : ∃ d e, Go.floatBits .sub .f64 r s = some d ∧ Go.floatBits .sub .f64 d 4607182418800017408 = some e ∧
      (double.order e 4517329193108106637 == some .gt) = false ∧ (double.order e 13740701229962882445 == some .lt) = false := by
  obtain ⟨s1, s2⟩ := of_near h0 (by omega) a2 a3
  obtain ⟨r1, r2⟩ := of_near (t := t + 86400) (by omega) (by omega) b2 b3
  have ho := one_is
  have pQ := Q_pos
  have eU : (U : Int) = 1073741824 * Q := by rw [U_Q]; omega
  have e29 : ((2 ^ (M + 1) : Nat) : Int) = 2 * Q := by rw [pow_29]; omega
  rw [Int.add_mul] at r1 r2
  obtain ⟨d, hd, rd⟩ := sub_rnd fr fs ls
  have bd : val r - val s ≤ U + 4 * Q ∧ U - 4 * Q ≤ val r - val s := by omega
  obtain ⟨fd, d1, d2⟩ := rd.near (t := M + 1) (by have := K_M; omega) (by rw [pow_29]; omega)
  rw [e29] at d1 d2
  obtain ⟨e, he, re⟩ := sub_rnd fd ho.fin ho.lt
  rw [ho.val] at re
  obtain ⟨fe, e1, e2⟩ := re.near (t := M + 1) (by have := K_M; omega) (by rw [pow_29]; omega)
  rw [e29] at e1 e2
  have hc := const_is 4517329193108106637 L2 4722366482869645 (by unfold L2; omega) (by omega) (by omega) (by unfold L2; omega)
  have hq : 1000 * Q ≤ 4722366482869645 * 2 ^ L2 := by
    rw [Q_L2]
    have hT : ∀ T : Nat, 1000 * (4398046511104 * T) ≤ 4722366482869645 * T := fun T => by omega
    exact hT _
  have vc : 1000 * (Q : Int) ≤ val 4517329193108106637 := by
    rw [hc.val]
    have := Int.ofNat_le.2 hq
    omega
  have vn : val 13740701229962882445 = -val 4517329193108106637 := by
    have e : Go.Op.negFloat .f64 4517329193108106637 = 13740701229962882445 := by rw [neg_eq (by omega)]; rfl
    rw [← e, val_neg (by omega)]
  have nn : isnan 13740701229962882445 = false := by decide
  refine ⟨d, e, hd, he, ?_, ?_⟩
  · rw [ov_gt (fin_nan fe) (fin_nan hc.fin)]
    exact decide_eq_false (by omega)
  · rw [ov_lt (fin_nan fe) nn, vn]
    exact decide_eq_false (by omega)
end Go.Proofs.Ytjddmcecllhlhaa.Flo
