/-
  When a rule changes something: plain facts.
-/
import Derived.Test.YtjddmcecllhlhaaDoorEyB
import Derived.Test.YtjddmcecllhlhaaDoorCivE
namespace Go.Proofs.YtjddmcecllhlhaaDoor
open Go.RowKit Cal
/-- A rule's nominal second. -/
def nomV (r : Ru) (y : Int) : Int := ruleN r.k r.wk r.d y r.m * 86400 + r.s
theorem ruleN_bd {k w d m : Int} (y : Int) (h : onFits k w d m = true) : Cal.ahead y - 6 ≤ ruleN k w d y m ∧ ruleN k w d y m ≤ Cal.ahead y + 372 := by
  obtain ⟨h1, m1, m2, hd⟩ := (fits_iff _ _ _ _).1 h
  have c := cum_bd y m m1 m2
  have l := mlen_le y m m1 m2
  have l01 := lp_01 y
  have ok := (ok_iff _ _ _).1 h1
  unfold ruleN numb
  split
  · have := backI_bd (Cal.ahead y + cum y m + 1 - 1 + mlen y m - 1) w
    omega
  · split
    · have := backI_bd (Cal.ahead y + cum y m + 1 - 1 + d - 1 + 6) w
      omega
    · split
      · have := backI_bd (Cal.ahead y + cum y m + 1 - 1 + d - 1) w
        omega
      · omega
theorem ruleN_lt {k w d m : Int} (y : Int) (h : onFits k w d m = true) : ruleN k w d y m < ruleN k w d (y + 1) m := by
  obtain ⟨h1, m1, m2, hd⟩ := (fits_iff _ _ _ _).1 h
  have c := cum_bd y m m1 m2
  have c' := cum_bd (y + 1) m m1 m2
  have l := mlen_le y m m1 m2
  have l' := mlen_le (y + 1) m m1 m2
  have ok := (ok_iff _ _ _).1 h1
  have a := ahead_succ y
  have l01 := lp_01 y
  have l02 := lp_01 (y + 1)
  have hcc : cum y m - 1 ≤ cum (y + 1) m := by unfold cum; split <;> omega
  unfold ruleN numb
  split
  · have := backI_bd (Cal.ahead y + cum y m + 1 - 1 + mlen y m - 1) w
    have := backI_bd (Cal.ahead (y + 1) + cum (y + 1) m + 1 - 1 + mlen (y + 1) m - 1) w
    omega
  · split
    · have := backI_bd (Cal.ahead y + cum y m + 1 - 1 + d - 1 + 6) w
      have := backI_bd (Cal.ahead (y + 1) + cum (y + 1) m + 1 - 1 + d - 1 + 6) w
      omega
    · split
      · have := backI_bd (Cal.ahead y + cum y m + 1 - 1 + d - 1) w
        have := backI_bd (Cal.ahead (y + 1) + cum (y + 1) m + 1 - 1 + d - 1) w
        omega
      · omega
theorem nom_succ {r : Ru} (hr : RuFine r) (y : Int) : nomV r y < nomV r (y + 1) := by
  have := ruleN_lt y hr.2.2.2.1
  unfold nomV
  omega
theorem nom_up {r : Ru} (hr : RuFine r) (y : Int) (n : Nat) : nomV r y < nomV r (y + n + 1) := by
  induction n with
  | zero => simpa using nom_succ hr y
  | succ n ih =>
    have := nom_succ hr (y + n + 1)
    have e : y + ((n + 1 : Nat) : Int) + 1 = y + n + 1 + 1 := by omega
    rw [e]
    omega
theorem nom_lt {r : Ru} (hr : RuFine r) {y y' : Int} (h : y < y') : nomV r y < nomV r y' := by
  have := nom_up hr y (y' - y - 1).toNat
  rwa [show y + ((y' - y - 1).toNat : Int) + 1 = y' by omega] at this
theorem nom_iff {r : Ru} (hr : RuFine r) (y y' : Int) : nomV r y < nomV r y' ↔ y < y' := by
  refine ⟨fun h => ?_, nom_lt hr⟩
  rcases Int.lt_trichotomy y y' with h1 | h1 | h1
  · exact h1
  · subst h1; omega
  · have := nom_lt hr h1; omega
theorem hour_bd {s b : Int} (h : hourOk s b = true) : 0 ≤ s ∧ s ≤ 172800 ∧ (b = 0 ∨ b = 1 ∨ b = 2) := by
  unfold hourOk at h
  simp only [decide_eq_true_eq] at h
  omega
theorem ahead_bd (y : Int) (h0 : -32767 ≤ y) (h1 : y ≤ 32767) : -12687428 ≤ Cal.ahead y ∧ Cal.ahead y ≤ 11300000 := by unfold Cal.ahead leaps; omega
theorem nom_bd {r : Ru} (hr : RuFine r) (y : Int) (h0 : -32767 ≤ y) (h1 : y ≤ 32767) : -1096194297600 ≤ nomV r y ∧ nomV r y ≤ 1000000000000 := by
  have a := ahead_bd y h0 h1
  have b := ruleN_bd y hr.2.2.2.1
  have c := hour_bd hr.2.2.2.2.1
  unfold nomV
  omega
theorem nom_year {r : Ru} (hr : RuFine r) (y : Int) : y - 1 ≤ dateY (nomV r y / 86400) ∧ dateY (nomV r y / 86400) ≤ y + 1 := by
  have b := ruleN_bd y hr.2.2.2.1
  have c := hour_bd hr.2.2.2.2.1
  have a1 := ahead_mono (show y - 1 ≤ y by omega)
  have a2 := ahead_mono (show y ≤ y + 2 by omega)
  have d0 : ruleN r.k r.wk r.d y r.m ≤ nomV r y / 86400 := by unfold nomV; omega
  have d1 : nomV r y / 86400 ≤ ruleN r.k r.wk r.d y r.m + 2 := by unfold nomV; omega
  refine ⟨(year_le _ _).1 (by omega), ?_⟩
  have := (year_le (nomV r y / 86400) (y + 2)).2
  by_cases h : dateY (nomV r y / 86400) ≤ y + 1
  · exact h
  · have := this (by omega)
    omega
/-- The year of a second. -/
def nearV (t : Int) : Int := dateY (max (-1099511627776) (min t 1099511627776) / 86400)
theorem near_nom {r : Ru} (hr : RuFine r) (y : Int) (h0 : -32767 ≤ y) (h1 : y ≤ 32767) : y - 1 ≤ nearV (nomV r y) ∧ nearV (nomV r y) ≤ y + 1 := by
  have b := nom_bd hr y h0 h1
  unfold nearV
  rw [show max (-1099511627776) (min (nomV r y) 1099511627776) = nomV r y by omega]
  exact nom_year hr y
theorem clamp_ok (t : Int) : dtOk (max (-1099511627776) (min t 1099511627776) / 86400) = true := by
  rw [dt_iff]
  omega
theorem near_bd (t : Int) : -50000 ≤ nearV t ∧ nearV t ≤ 50000 := by
  unfold nearV
  exact date_yb _ (by omega) (by omega)
theorem near_first : nearV (-2192387558400) ≤ -32767 := by
  unfold nearV
  rw [show max (-1099511627776) (min (-2192387558400) 1099511627776) = (-1099511627776 : Int) by omega]
  have := (year_le (-1099511627776 / 86400) (-32766)).2
  by_cases h : dateY (-1099511627776 / 86400) ≤ -32767
  · exact h
  · have := this (by omega)
    have e : Cal.ahead (-32766) = -12687063 := by decide
    omega
theorem rule_val {r : Ru} (hr : RuFine r) {y : Int} (h0 : -32767 ≤ y) (h1 : y ≤ 32767) : ruleV r.k r.wk r.d y r.m = ruleN r.k r.wk r.d y r.m := by
  unfold ruleV
  rw [if_pos hr.2.2.2.1, if_pos (inB_iff.2 (by omega))]
/-- Which of two is ahead. -/
def lessB (n1 r1 n2 r2 : Int) : Bool := decide (n1 < n2 ∨ (n1 = n2 ∧ r1 < r2))
theorem less_ruled {r : Ru} (hr : RuFine r) (y y' : Int) : lessB (nomV r y) 0 (nomV r y') 0 = decide (y < y') := by
  unfold lessB
  rw [Bool.eq_iff_iff]
  have := nom_iff hr y y'
  simp
  omega
end Go.Proofs.YtjddmcecllhlhaaDoor
