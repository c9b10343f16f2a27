/-
  At noon the day number is whole, and comes back.
-/
import Derived.Test.YtblmlglkjmilkacJulA
import Derived.Test.YtblmlglkjmilkacReaW
import Derived.Test.YtblmlglkjmilkacWeeA
namespace Go.Proofs.Ytblmlglkjmilkac
open Go.RowKit Flo Ieee

theorem rep_half {k : Int} (h : k.natAbs ≤ 9007199254740992) : Rep (k * H) :=
  rep_mk k.natAbs (52 + J) _ h (by have := K_J; omega) (by
    have e : H = 2 ^ (52 + J) := by
      unfold H
      rw [Nat.pow_add, show (2 : Nat) ^ 52 = 4503599627370496 from rfl]
    rw [Int.natAbs_mul, Int.natAbs_natCast, e])
theorem noon_word {n : Int} (h0 : -10000000 ≤ n) (h1 : n ≤ 10000000) : ∃ s, ofX (n * 86400 + 43200) = some s ∧ s < 18446744073709551616 ∧ fin s = true ∧ val s = (n + 2440588) * U := by
  obtain ⟨q, s, hq, hs, fx, fq, fs, ls, hx, rq, rs⟩ := of_word (n * 86400 + 43200) (by omega)
  have vx := (int_is (n := n * 86400 + 43200) (by omega)).val
  have eU : (U : Int) = 2 * H := by have := U_H; omega
  have e1 : (n * 86400 + 43200) * (U : Int) = ((86400 : Nat) : Int) * ((2 * n + 1) * H) := by
    rw [eU, ← Int.mul_assoc, ← Int.mul_assoc]
    congr 1
    omega
  rw [vx] at rq
  obtain ⟨_, vq⟩ := rq.exact (rep_half (by omega)) e1
  have e2 : (2 * n + 1) * (H : Int) + 4881175 * H = ((1 : Nat) : Int) * ((n + 2440588) * U) := by
    rw [eU, ← Int.add_mul, ← Int.mul_assoc, ← Int.mul_assoc]
    congr 1
    omega
  rw [vq] at rs
  obtain ⟨_, vs⟩ := rs.exact (rep_int (by omega)) e2
  refine ⟨s, ?_, ls, fs, vs⟩
  have e3 : fop .quo (some (Go.floatOfInt .f64 (n * 86400 + 43200))) (some 4680673776000565248) = some q := hq
  unfold ofX
  rw [e3]
  exact hs
theorem noon_secs {n : Int} {s : Nat} (h0 : -10000000 ≤ n) (h1 : n ≤ 10000000) (fs : fin s = true) (vs : val s = (n + 2440588) * U) : whNV (secX (some s)) 3 = n * 86400 + 43200 ∧ whNE (secX (some s)) 3 = 0 := by
  have ep := epoch_is
  have dy := day_is
  have eU : (U : Int) = 2 * H := by have := U_H; omega
  obtain ⟨d, hd, rd⟩ := sub_rnd fs ep.fin ep.lt
  rw [vs, ep.val] at rd
  have e1 : (n + 2440588) * (U : Int) - 4881175 * H = ((1 : Nat) : Int) * ((2 * n + 1) * H) := by
    rw [eU, ← Int.mul_assoc, ← Int.sub_mul, ← Int.mul_assoc]
    congr 1
    omega
  obtain ⟨fd, vd⟩ := rd.exact (rep_half (by omega)) e1
  obtain ⟨r, hr, rr⟩ := mul_rnd fd dy.fin
  rw [vd, dy.val] at rr
  have e2 : (2 * n + 1) * (H : Int) * (86400 * U) = (U : Int) * ((n * 86400 + 43200) * U) := by
    rw [Int.mul_comm (U : Int) ((n * 86400 + 43200) * U), ← Int.mul_assoc ((2 * n + 1) * (H : Int)) 86400 U]
    congr 1
    rw [eU, Int.mul_right_comm, ← Int.mul_assoc]
    congr 1
    omega
  obtain ⟨fr, vr⟩ := rr.exact (rep_int (by omega)) e2
  have es : secX (some s) = some r := by
    have e3 : fop .sub (some s) (some 4702495533095190528) = some d := hd
    unfold secX
    rw [e3]
    exact hr
  obtain ⟨_, hI⟩ := again_fin rr.lt fr vr (wayM 3)
  have := whE_y (b := r) (m := 3) (by decide) (fin_nan fr) ⟨by
    have := fr
    unfold isinf; unfold fin at this; simp at *; omega, by rw [hI]; omega⟩
  rw [es]
  rw [hI] at this
  exact ⟨this.2, this.1⟩
theorem noon_parts {n : Int} {s : Nat} (ls : s < 18446744073709551616) (fs : fin s = true) (vs : val s = (n + 2440588) * U) : rdW .down s = some s ∧ fop .sub (some s) (some s) = some 0 := by
  refine ⟨(again_fin ls fs vs .down).1, ?_⟩
  obtain ⟨b, hb, ib⟩ := sub_is fs fs ls (by rw [Int.sub_self]; exact rep_mk 0 0 0 (by omega) (by omega) rfl)
  rw [Int.sub_self] at ib
  have e : b = 0 := by
    refine ib.eq (b' := 0) (s := (sg s && !sg s)) ⟨by omega, by decide, i_0.2, ?_⟩
    cases sg s <;> decide
  rw [e] at hb
  exact hb
theorem noon_int {n : Int} {s : Nat} (h0 : -10000000 ≤ n) (h1 : n ≤ 10000000) (fs : fin s = true) (vs : val s = (n + 2440588) * U) : Go.floatToIntVal .f64 s .i64 = some (n + 2440588) := by
  have e : tr s = n + 2440588 := by
    have h := rnd_zero s
    obtain ⟨y, _, _, _, _, _, hv, _⟩ := round_word fs .zero
    have hp := val_parts s
    have hl := lft_bd s
    have pU : (0 : Int) < U := by have := U_pos; omega
    rw [vs] at hp
    have h3 : (n + 2440588 - tr s) * (U : Int) = lft s := by rw [Int.sub_mul]; omega
    have h4 : ¬ 1 ≤ n + 2440588 - tr s := fun hh => by
      have := Int.mul_le_mul_of_nonneg_right hh (Int.le_of_lt pU)
      omega
    have h5 : ¬ n + 2440588 - tr s ≤ -1 := fun hh => by
      have := Int.mul_le_mul_of_nonneg_right hh (Int.le_of_lt pU)
      omega
    omega
  rw [← e]
  exact conv_of fs (by omega)
theorem noon_day (n : Int) : ((n + 2440588 + 1).tmod 7 = Cal.wday n ∨ (n + 2440588 + 1).tmod 7 = Cal.wday n - 7) := by
  have h := Int.tmod_eq_emod (a := n + 2440588 + 1) (b := 7)
  unfold Cal.wday
  by_cases hz : 0 ≤ n + 2440588 + 1 ∨ (7 : Int) ∣ n + 2440588 + 1
  · rw [if_pos hz] at h
    left; omega
  · rw [if_neg hz] at h
    right
    have : ((7 : Int).natAbs : Int) = 7 := rfl
    rw [this] at h
    omega
end Go.Proofs.Ytblmlglkjmilkac
