/-
  Dates moved by months, years and days (plain).
-/
import Derived.Test.YtblmlglkjmilkacDoorCivF
namespace Go.Proofs.YtblmlglkjmilkacDoor
open Cal

def minI (a b : Int) : Int := if a ≤ b then a else b
def moN (y m n : Int) : Int := y * 12 + m - 1 + n
def addB (y m d n : Int) : Bool := rightB y m d && decide (-40000 ≤ moN y m n / 12 ∧ moN y m n / 12 ≤ 40000)
def addY (y m d n : Int) : Int := if addB y m d n = true then moN y m n / 12 else 0
def addM (y m d n : Int) : Int := if addB y m d n = true then moN y m n % 12 + 1 else 0
def addD (y m d n : Int) : Int := if addB y m d n = true then minI d (mlen (moN y m n / 12) (moN y m n % 12 + 1)) else 0
def addE (y m d n : Int) : Int := if addB y m d n = true then 0 else 1
/-- Moved by days. -/
def mdB (y m d n : Int) : Bool := rightB y m d && dtOk (numb y m d + n)
def mdY (y m d n : Int) : Int := if mdB y m d n = true then dtY (numb y m d + n) else 0
def mdM (y m d n : Int) : Int := if mdB y m d n = true then dtM (numb y m d + n) else 0
def mdD (y m d n : Int) : Int := if mdB y m d n = true then dtD (numb y m d + n) else 0
def mdE (y m d n : Int) : Int := if mdB y m d n = true then 0 else 1
/-- Months between. -/
def btN (y m d y' m' d' : Int) : Int := (y' - y) * 12 + (m' - m) - (if d' < d ∧ d' < mlen y' m' then 1 else 0)
def btB (y m d y' m' d' : Int) : Bool := rightB y m d && rightB y' m' d' && addB y m d (btN y m d y' m' d') && addB y m d (btN y m d y' m' d' + 1)
def btV (y m d y' m' d' : Int) : Int := if btB y m d y' m' d' = true then btN y m d y' m' d' else 0
def btE (y m d y' m' d' : Int) : Int := if btB y m d y' m' d' = true then 0 else 1

theorem numb_ok0 {y m d : Int} (h : rightB y m d = true) : dtOk (numb y m d) = true := by
  obtain ⟨a, b, c⟩ := date_of y m d h
  have hr := (right_iff y m d).1 h
  have h0 := year_le (numb y m d) (-40000)
  have h1 := year_le (numb y m d) 40001
  rw [A0_eq] at h0
  rw [A1_eq] at h1
  exact (dt_iff _).2 (by omega)
theorem minI_cases (a b : Int) : (a ≤ b ∧ minI a b = a) ∨ (b < a ∧ minI a b = b) := by
  unfold minI; split <;> omega
theorem minI_eq (a b : Int) : min a b = minI a b := by unfold minI; omega
theorem add_y {y m d n : Int} (h : addB y m d n = true) : addY y m d n = moN y m n / 12 ∧ addM y m d n = moN y m n % 12 + 1 ∧ addD y m d n = minI d (mlen (moN y m n / 12) (moN y m n % 12 + 1)) ∧ addE y m d n = 0 := by simp [addY, addM, addD, addE, h]
theorem add_n {y m d n : Int} (h : addB y m d n = false) : addY y m d n = 0 ∧ addM y m d n = 0 ∧ addD y m d n = 0 ∧ addE y m d n = 1 := by simp [addY, addM, addD, addE, h]
theorem addB_iff (y m d n : Int) : addB y m d n = true ↔ rightB y m d = true ∧ -40000 ≤ moN y m n / 12 ∧ moN y m n / 12 ≤ 40000 := by simp [addB]
theorem addB_no {y m d n : Int} (h : rightB y m d = false) : addB y m d n = false := by simp [addB, h]
/-- The date that is reached may be, if its year may. -/
theorem reach_right (q s d : Int) (hd : 1 ≤ d) : rightB q (s % 12 + 1) (minI d (mlen q (s % 12 + 1))) = decide (-40000 ≤ q ∧ q ≤ 40000) := by
  have ml := mlen_bd q (s % 12 + 1)
  have mc := minI_cases d (mlen q (s % 12 + 1))
  rw [Bool.eq_iff_iff, right_iff, decide_eq_true_eq]
  omega
theorem md_n {y m d n : Int} (h : mdB y m d n = false) : mdY y m d n = 0 ∧ mdM y m d n = 0 ∧ mdD y m d n = 0 ∧ mdE y m d n = 1 := by simp [mdY, mdM, mdD, mdE, h]
theorem md_y {y m d n : Int} (h : rightB y m d = true) : mdY y m d n = dtY (numb y m d + n) ∧ mdM y m d n = dtM (numb y m d + n) ∧ mdD y m d n = dtD (numb y m d + n) ∧ mdE y m d n = dtE (numb y m d + n) := by
  cases hd : dtOk (numb y m d + n)
  · obtain ⟨a, b, c, e⟩ := dt_n hd
    rw [a, b, c, e]; simp [mdY, mdM, mdD, mdE, mdB, h, hd]
  · obtain ⟨a, b, c, e⟩ := dt_y hd
    rw [a, b, c, e]; simp [mdY, mdM, mdD, mdE, mdB, h, hd, a, b, c]
end Go.Proofs.YtblmlglkjmilkacDoor
