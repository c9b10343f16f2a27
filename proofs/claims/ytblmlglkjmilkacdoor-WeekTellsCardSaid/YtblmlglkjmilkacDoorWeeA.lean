/-
  Weeks, as numbers.
-/
import Derived.Test.YtblmlglkjmilkacDoorCal
namespace Go.Proofs.YtblmlglkjmilkacDoor.Cal
def mon (n : Int) : Int := n - (wday n + 7 - 1) % 7
def wfst (y : Int) : Int := mon (numb y 1 4)
def wksOf (y : Int) : Int := if wday (numb y 1 1) = 4 ∨ wday (numb y 12 31) = 4 then 53 else 52
def weeks (y : Int) : Int := if -39999 ≤ y ∧ y ≤ 39999 then wksOf y else 0
def wkB (y k d : Int) : Bool := decide (1 ≤ k ∧ k ≤ weeks y ∧ 1 ≤ d ∧ d ≤ 7)
def wkN (y k d : Int) : Int := wfst y + ((k - 1) * 7 + d - 1)
def wkY (n : Int) : Int := dateY (mon n + 3)
def wkW (n : Int) : Int := (mon n - wfst (wkY n)) / 7 + 1
def wkD (n : Int) : Int := n - mon n + 1
theorem mon_eq (n : Int) : mon n = n - (n + 3) % 7 := by unfold mon wday; omega
theorem mon_bd (n : Int) : n - 6 ≤ mon n ∧ mon n ≤ n := by rw [mon_eq]; omega
theorem numb_11 (y : Int) : numb y 1 1 = ahead y := by unfold numb; rw [cum_1]; omega
theorem numb_14 (y : Int) : numb y 1 4 = ahead y + 3 := by unfold numb; rw [cum_1]; omega
theorem numb_1231 (y : Int) : numb y 12 31 = ahead (y + 1) - 1 := by
  have h := cum_12 y
  have e : mlen y 12 = 31 := by simp [mlen]
  rw [ahead_succ]; unfold numb; omega
theorem wfst_eq (y : Int) : wfst y = ahead y + 3 - (ahead y + 6) % 7 := by unfold wfst; rw [numb_14, mon_eq]; omega
theorem wksOf_cases (y : Int) : (wksOf y = 53 ∧ (wday (ahead y) = 4 ∨ wday (ahead (y + 1) - 1) = 4)) ∨ (wksOf y = 52 ∧ wday (ahead y) ≠ 4 ∧ wday (ahead (y + 1) - 1) ≠ 4) := by
  unfold wksOf; rw [numb_11, numb_1231]; split <;> omega
theorem wfst_succ (y : Int) : wfst (y + 1) = wfst y + 7 * wksOf y := by
  have h := wksOf_cases y
  have l := lp_01 y
  have s := ahead_succ y
  rw [wfst_eq, wfst_eq]
  unfold wday at h
  omega
theorem wfst_bd (y : Int) : ahead y - 3 ≤ wfst y ∧ wfst y ≤ ahead y + 3 ∧ (wfst y + 3) % 7 = 0 := by rw [wfst_eq]; omega
theorem wfst_mono {a b : Int} (h : a ≤ b) : wfst a ≤ wfst b := by
  have h1 := wfst_bd a
  have h2 := wfst_bd b
  have h3 := ahead_mono h
  omega
theorem wk_in (n : Int) : wfst (wkY n) ≤ mon n ∧ mon n + 6 < wfst (wkY n + 1) ∧ (mon n + 3) % 7 = 0 := by
  have h := year_in (mon n + 3) (wkY n) rfl
  have h1 := wfst_bd (wkY n)
  have h2 := wfst_bd (wkY n + 1)
  have h3 : (mon n + 3) % 7 = 0 := by rw [mon_eq]; omega
  omega
theorem wk_uniq {n y : Int} (h0 : wfst y ≤ n) (h1 : n < wfst (y + 1)) : y = wkY n := by
  have h := wk_in n
  have hb := mon_bd n
  by_cases g : y ≤ wkY n
  · by_cases g' : wkY n ≤ y
    · omega
    · have := wfst_mono (a := y + 1) (b := wkY n) (by omega)
      have := wfst_bd (y + 1)
      have := wfst_bd (wkY n)
      omega
  · have := wfst_mono (a := wkY n + 1) (b := y) (by omega)
    omega
theorem wk_week (n : Int) : 1 ≤ wkW n ∧ wkW n ≤ wksOf (wkY n) ∧ wkD n = wday (n + 6) + 1 ∧ 1 ≤ wkD n ∧ wkD n ≤ 7 ∧ mon n = wfst (wkY n) + (wkW n - 1) * 7 := by
  obtain ⟨h1, h2, h3⟩ := wk_in n
  have hs := wfst_succ (wkY n)
  have hb := wfst_bd (wkY n)
  have hm := mon_eq n
  unfold wkW wkD wday
  omega
theorem wk_near (n : Int) : dateY n - 1 ≤ wkY n ∧ wkY n ≤ dateY n + 1 := by
  have h := mon_bd n
  have h1 := year_in n _ rfl
  have h2 := year_in (mon n + 3) (wkY n) rfl
  have h3 := ahead_succ (dateY n)
  have h4 := ahead_succ (dateY n - 1)
  have h5 : dateY n - 1 + 1 = dateY n := by omega
  rw [h5] at h4
  have l1 := lp_01 (dateY n)
  have l2 := lp_01 (dateY n - 1)
  constructor
  · by_cases g : dateY n - 1 ≤ wkY n
    · exact g
    · have := ahead_mono (a := wkY n + 1) (b := dateY n - 1) (by omega)
      omega
  · by_cases g : wkY n ≤ dateY n + 1
    · exact g
    · have := ahead_mono (a := dateY n + 1 + 1) (b := wkY n) (by omega)
      have := ahead_succ (dateY n + 1)
      have := lp_01 (dateY n + 1)
      omega
/-- There and back. -/
theorem wk_there (n : Int) : wkN (wkY n) (wkW n) (wkD n) = n := by
  have := wk_week n
  have := mon_bd n
  unfold wkN wkD at *
  omega
theorem wk_back {y k d : Int} (hk : 1 ≤ k) (hk' : k ≤ wksOf y) (hd : 1 ≤ d) (hd' : d ≤ 7) : wkY (wkN y k d) = y ∧ wkW (wkN y k d) = k ∧ wkD (wkN y k d) = d := by
  have hs := wfst_succ y
  have hb := wfst_bd y
  have e : wkN y k d = wfst y + ((k - 1) * 7 + d - 1) := rfl
  have hm := mon_eq (wkN y k d)
  have hy : y = wkY (wkN y k d) := wk_uniq (by omega) (by omega)
  refine ⟨hy.symm, ?_, ?_⟩
  · unfold wkW
    rw [← hy]
    omega
  · unfold wkD
    omega
end Go.Proofs.YtblmlglkjmilkacDoor.Cal
