/-
  The names of days: which fit, and which day is named (plain).
-/
import Derived.Test.YtjddmcecllhlhaaDoorCivC
namespace Go.Proofs.YtjddmcecllhlhaaDoor
open Cal

def inB (n l h : Int) : Bool := decide (l ≤ n ∧ n ≤ h)
def onOk (k w d : Int) : Bool := decide ((k = 1 ∧ 0 ≤ w ∧ w ≤ 6 ∧ d = 0) ∨ (k = 0 ∧ w = 0 ∧ 1 ≤ d ∧ d ≤ 31) ∨ ((k = 2 ∨ k = 3) ∧ 0 ≤ w ∧ w ≤ 6 ∧ 1 ≤ d ∧ d ≤ 31))
def onFits (k w d m : Int) : Bool := onOk k w d && (inB m 1 12 && decide (d ≤ mlen 1 m))
def backI (n w : Int) : Int := (wday n - w + 7) % 7
def ruleN (k w d y m : Int) : Int :=
  if k = 1 then (numb y m 1 + mlen y m - 1) - backI (numb y m 1 + mlen y m - 1) w
  else if k = 2 then numb y m 1 + d - 1 + (6 - backI (numb y m 1 + d - 1 + 6) w)
  else if k = 3 then numb y m 1 + d - 1 - backI (numb y m 1 + d - 1) w
  else numb y m 1 + d - 1
def ruleV (k w d y m : Int) : Int := if onFits k w d m = true then (if inB y (-39999) 39999 = true then ruleN k w d y m else 0) else 0
def ruleE (k w d y m : Int) : Int := if onFits k w d m = true then (if inB y (-39999) 39999 = true then 0 else 1) else 4
def winL (k w d m : Int) : Int := if onFits k w d m = true then (if k = 1 then mlen 1 m - 6 else if k = 3 then d - 6 else d) else 0
def winH (k w d m : Int) : Int := if onFits k w d m = true then (if k = 1 then mlen 4 m else if k = 2 then d + 6 else d) else 0
def winE (k w d m : Int) : Int := if onFits k w d m = true then 0 else 4

theorem inB_iff {n l h : Int} : inB n l h = true ↔ l ≤ n ∧ n ≤ h := by simp [inB]
theorem inB_no {n l h : Int} : inB n l h = false ↔ n < l ∨ h < n := by simp [inB]; omega
theorem mlen_cm (m : Int) : mlen 2001 m = mlen 1 m := by
  have e : lp 2001 = lp 1 := by decide
  unfold mlen; rw [e]
theorem mlen_lp (m : Int) : mlen 2000 m = mlen 4 m := by
  have e : lp 2000 = lp 4 := by decide
  unfold mlen; rw [e]
theorem backI_bd (n w : Int) : 0 ≤ backI n w ∧ backI n w ≤ 6 := by unfold backI; omega
theorem fits_iff (k w d m : Int) : onFits k w d m = true ↔ onOk k w d = true ∧ 1 ≤ m ∧ m ≤ 12 ∧ d ≤ mlen 1 m := by
  simp [onFits, inB_iff]; omega
theorem ok_iff (k w d : Int) : onOk k w d = true ↔ (k = 1 ∧ 0 ≤ w ∧ w ≤ 6 ∧ d = 0) ∨ (k = 0 ∧ w = 0 ∧ 1 ≤ d ∧ d ≤ 31) ∨ ((k = 2 ∨ k = 3) ∧ 0 ≤ w ∧ w ≤ 6 ∧ 1 ≤ d ∧ d ≤ 31) := by simp [onOk]
theorem onOk_0 (w d : Int) : onOk 0 w d = (inB w 0 0 && inB d 1 31) := by
  rw [Bool.eq_iff_iff]; simp [onOk, inB]; omega
theorem onOk_n (k w d : Int) (h : inB k 0 3 = true) (h0 : k ≠ 0) (h1 : k ≠ 1) : onOk k w d = (inB w 0 6 && inB d 1 31) := by
  have h := inB_iff.1 h
  rw [Bool.eq_iff_iff]; simp [onOk, inB]; omega
/-- Down from n, the weekday w comes first at `backI n w` days. -/
theorem back_at (n w j : Int) (h : 0 ≤ w ∧ w ≤ 6) (h0 : 0 ≤ j) (h1 : j ≤ backI n w) : (j < backI n w ∧ wday (n - j) ≠ w) ∨ (j = backI n w ∧ wday (n - j) = w) := by
  unfold backI wday at *; omega
/-- Up from n it comes first at `6 - backI (n + 6) w` days. -/
theorem fore_at (n w j : Int) (h : 0 ≤ w ∧ w ≤ 6) (h0 : 0 ≤ j) (h1 : j ≤ 6 - backI (n + 6) w) : (j < 6 - backI (n + 6) w ∧ wday (n + j) ≠ w) ∨ (j = 6 - backI (n + 6) w ∧ wday (n + j) = w) := by
  unfold backI wday at *; omega
theorem mlen_le (y m : Int) (h : 1 ≤ m) (h' : m ≤ 12) : mlen 1 m ≤ mlen y m ∧ mlen y m ≤ mlen 4 m ∧ mlen 4 m ≤ mlen 1 m + 1 ∧ 28 ≤ mlen 1 m ∧ mlen 4 m ≤ 31 := by
  have a := lp_01 y
  have b : lp 1 = 0 := by decide
  have c : lp 4 = 1 := by decide
  unfold mlen
  rw [b, c]
  split
  · omega
  · split
    · omega
    · split <;> omega
end Go.Proofs.YtjddmcecllhlhaaDoor
