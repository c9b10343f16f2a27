/-
  The calendar, as plain functions on whole numbers: no program in sight.
-/
namespace Go.Proofs.YtjddmcecllhlhaaDoor.Cal

def lpB (y : Int) : Bool := decide (y % 4 = 0 ∧ (y % 100 ≠ 0 ∨ y % 400 = 0))
def lp (y : Int) : Int := if lpB y = true then 1 else 0
def mlen (y m : Int) : Int :=
  if m = 2 then 28 + lp y else if m = 4 ∨ m = 6 ∨ m = 9 ∨ m = 11 then 30 else if 1 ≤ m ∧ m ≤ 12 then 31 else 0
def rightB (y m d : Int) : Bool := decide (-40000 ≤ y ∧ y ≤ 40000 ∧ 1 ≤ d ∧ d ≤ mlen y m)
def leaps (y : Int) : Int := y / 4 - y / 100 + y / 400
def ahead (y : Int) : Int := 365 * (y - 1970) + leaps (y - 1) - 477
def march (m : Int) : Int := (153 * m + 2) / 5
def cum (y m : Int) : Int := if m ≤ 2 then 31 * (m - 1) else march (m - 3) + 59 + lp y
def numb (y m d : Int) : Int := ahead y + cum y m + d - 1

theorem lp_01 (y : Int) : (lp y = 0 ∧ lpB y = false) ∨ (lp y = 1 ∧ lpB y = true) := by
  unfold lp; cases lpB y <;> simp
theorem lp_iff (y : Int) : lpB y = true ↔ (y % 4 = 0 ∧ (y % 100 ≠ 0 ∨ y % 400 = 0)) := by simp [lpB]
theorem lp_leaps (y : Int) : lp y = leaps y - leaps (y - 1) := by
  rcases lp_01 y with ⟨h, b⟩ | ⟨h, b⟩
  · have n : ¬ (y % 4 = 0 ∧ (y % 100 ≠ 0 ∨ y % 400 = 0)) := by rw [← lp_iff, b]; simp
    unfold leaps; omega
  · have n := (lp_iff y).1 b
    unfold leaps; omega
theorem ahead_succ (y : Int) : ahead (y + 1) = ahead y + 365 + lp y := by
  rw [lp_leaps]; unfold ahead; rw [show y + 1 - 1 = y from by omega]; omega
theorem ahead_mono {a b : Int} (h : a ≤ b) : ahead a + 365 * (b - a) ≤ ahead b := by unfold ahead leaps; omega
theorem ahead_up {a b : Int} (h : a ≤ b) : ahead b ≤ ahead a + 366 * (b - a) := by unfold ahead leaps; omega
theorem cum_1 (y : Int) : cum y 1 = 0 := by simp [cum]
theorem cum_succ (y m : Int) (h : 1 ≤ m) (h' : m ≤ 11) : cum y (m + 1) = cum y m + mlen y m := by
  obtain rfl | rfl | rfl | rfl | rfl | rfl | rfl | rfl | rfl | rfl | rfl : m = 1 ∨ m = 2 ∨ m = 3 ∨ m = 4 ∨ m = 5 ∨ m = 6 ∨ m = 7 ∨ m = 8 ∨ m = 9 ∨ m = 10 ∨ m = 11 := by omega
  all_goals simp [cum, mlen, march]; try omega
theorem cum_12 (y : Int) : cum y 12 + mlen y 12 = 365 + lp y := by simp [cum, mlen, march]; omega
theorem mlen_bd (y m : Int) : 0 ≤ mlen y m ∧ mlen y m ≤ 31 ∧ (mlen y m ≠ 0 ↔ 1 ≤ m ∧ m ≤ 12) ∧ (1 ≤ m → m ≤ 12 → 28 ≤ mlen y m) := by
  have := lp_01 y
  unfold mlen
  split
  · omega
  · split
    · omega
    · split <;> omega
theorem cum_bd (y m : Int) (h : 1 ≤ m) (h' : m ≤ 12) : 28 * (m - 1) ≤ cum y m ∧ cum y m ≤ 31 * (m - 1) ∧ cum y m + mlen y m ≤ 365 + lp y := by
  have := lp_01 y
  obtain rfl | rfl | rfl | rfl | rfl | rfl | rfl | rfl | rfl | rfl | rfl | rfl : m = 1 ∨ m = 2 ∨ m = 3 ∨ m = 4 ∨ m = 5 ∨ m = 6 ∨ m = 7 ∨ m = 8 ∨ m = 9 ∨ m = 10 ∨ m = 11 ∨ m = 12 := by omega
  all_goals simp [cum, mlen, march]; try omega
theorem cum_lt (y m k : Int) (h : 1 ≤ m) (h' : m < k) (h'' : k ≤ 12) : cum y m + mlen y m ≤ cum y k := by
  have := lp_01 y
  have hm : m = 1 ∨ m = 2 ∨ m = 3 ∨ m = 4 ∨ m = 5 ∨ m = 6 ∨ m = 7 ∨ m = 8 ∨ m = 9 ∨ m = 10 ∨ m = 11 := by omega
  have e := cum_succ y m h (by omega)
  have mono : ∀ j : Nat, m + 1 + j ≤ 12 → cum y (m + 1) ≤ cum y (m + 1 + j) := by
    intro j
    induction j with
    | zero => intro _; simp
    | succ j ih =>
      intro hj
      have h1 := ih (by omega)
      have h2 := cum_succ y (m + 1 + j) (by omega) (by omega)
      have h3 := mlen_bd y (m + 1 + j)
      rw [show m + 1 + ((j + 1 : Nat) : Int) = m + 1 + (j : Int) + 1 from by omega]
      omega
  have := mono (k - m - 1).toNat (by omega)
  rw [show m + 1 + ((k - m - 1).toNat : Int) = k from by omega] at this
  omega

/-- The month and the day of a date that may be. -/
theorem right_iff (y m d : Int) : rightB y m d = true ↔ (-40000 ≤ y ∧ y ≤ 40000 ∧ 1 ≤ m ∧ m ≤ 12 ∧ 1 ≤ d ∧ d ≤ mlen y m) := by
  have := mlen_bd y m
  simp only [rightB, decide_eq_true_eq]
  omega

/-- A number has one date. -/
theorem numb_inj {y m d y' m' d' : Int} (hm : 1 ≤ m ∧ m ≤ 12) (hd : 1 ≤ d ∧ d ≤ mlen y m) (hm' : 1 ≤ m' ∧ m' ≤ 12) (hd' : 1 ≤ d' ∧ d' ≤ mlen y' m') (h : numb y m d = numb y' m' d') : y = y' ∧ m = m' ∧ d = d' := by
  have c1 := cum_bd y m hm.1 hm.2
  have c2 := cum_bd y' m' hm'.1 hm'.2
  have s1 := ahead_succ y
  have s2 := ahead_succ y'
  unfold numb at h
  have ey : y = y' := by
    rcases Int.lt_trichotomy y y' with g | g | g
    · have := ahead_mono (a := y + 1) (b := y') (by omega)
      omega
    · exact g
    · have := ahead_mono (a := y' + 1) (b := y) (by omega)
      omega
  subst ey
  have em : m = m' := by
    rcases Int.lt_trichotomy m m' with g | g | g
    · have := cum_lt y m m' hm.1 g hm'.2
      omega
    · exact g
    · have := cum_lt y m' m hm'.1 g hm.2
      omega
  subst em
  exact ⟨rfl, rfl, by omega⟩

/-- Dates are in the order of their numbers. -/
theorem numb_lt {y m d y' m' d' : Int} (hm : 1 ≤ m ∧ m ≤ 12) (hd : 1 ≤ d ∧ d ≤ mlen y m) (hm' : 1 ≤ m' ∧ m' ≤ 12) (hd' : 1 ≤ d' ∧ d' ≤ mlen y' m') :
    numb y m d < numb y' m' d' ↔ (y < y' ∨ y = y' ∧ (m < m' ∨ m = m' ∧ d < d')) := by
  have c1 := cum_bd y m hm.1 hm.2
  have c2 := cum_bd y' m' hm'.1 hm'.2
  have s1 := ahead_succ y
  have s2 := ahead_succ y'
  unfold numb
  rcases Int.lt_trichotomy y y' with g | g | g
  · have := ahead_mono (a := y + 1) (b := y') (by omega)
    omega
  · subst g
    rcases Int.lt_trichotomy m m' with g | g | g
    · have := cum_lt y m m' hm.1 g hm'.2
      omega
    · subst g; omega
    · have := cum_lt y m' m hm'.1 g hm.2
      omega
  · have := ahead_mono (a := y' + 1) (b := y) (by omega)
    omega

/-- The program's number: a year begins in March. -/
def cnum (y m d : Int) : Int :=
  let Y := if m - 3 < 0 then y - 1 else y
  let M := if m - 3 < 0 then m - 3 + 12 else m - 3
  Y / 400 * 146097 + Y % 400 * 365 + Y % 400 / 4 - Y % 400 / 100 + (march M + d - 1) - 719468
theorem cnum_eq (y m d : Int) (hm : 1 ≤ m ∧ m ≤ 12) : cnum y m d = numb y m d := by
  have key : ∀ Y : Int, Y / 400 * 146097 + Y % 400 * 365 + Y % 400 / 4 - Y % 400 / 100 = 365 * Y + leaps Y := by intro Y; unfold leaps; omega
  have hl := lp_leaps y
  unfold cnum
  simp only [key]
  unfold numb ahead
  by_cases h : m - 3 < 0
  · simp only [if_pos h]
    obtain rfl | rfl : m = 1 ∨ m = 2 := by omega
    · simp [march, cum]; omega
    · simp [march, cum]; omega
  · simp only [if_neg h]
    have hc : cum y m = march (m - 3) + 59 + lp y := by unfold cum; rw [if_neg (by omega)]
    rw [hc]
    omega

/-! ### the date of a number -/
def rY (r : Int) : Int := (r - r / 1460 + r / 36524 - r / 146096) / 365
def rL (r : Int) : Int := r - (365 * rY r + rY r / 4 - rY r / 100)
theorem rY_ok (r : Int) (h0 : 0 ≤ r) (h1 : r < 146097) : 0 ≤ rY r ∧ rY r ≤ 399 ∧ 0 ≤ rL r ∧ rL r ≤ 365 ∧ (rL r = 365 → lpB (rY r + 1) = true) := by
  have key : ∀ y : Int, y = (r - r / 1460 + r / 36524 - r / 146096) / 365 → 0 ≤ y ∧ y ≤ 399 ∧ 0 ≤ r - (365 * y + y / 4 - y / 100) ∧ r - (365 * y + y / 4 - y / 100) ≤ 365 ∧ (r - (365 * y + y / 4 - y / 100) = 365 → lpB (y + 1) = true) := by
    intro y hy
    by_cases e : r = 146096
    · subst e
      have : y = 399 := by omega
      subst this
      decide
    · have hg : r / 146096 = 0 := by omega
      rw [hg] at hy
      have main : ∀ f s : Int, 0 ≤ f → f ≤ 3 → r / 36524 = f → s = r - 36524 * f → 0 ≤ s → s < 36524 → ∃ c c2 y2 : Int, y = 100 * f + y2 ∧ c = y2 / 4 ∧ 1460 * c2 ≤ 24 * f + s ∧ 24 * f + s < 1460 * (c2 + 1) ∧ 0 ≤ y2 ∧ y2 ≤ 99 ∧ y2 = (s - c2) / 365 ∧ c ≤ c2 ∧ c2 ≤ c + 1 := by
        intro f s f0 f3 hf hs s0 s1
        have hc2 : r / 1460 = 25 * f + (24 * f + s) / 1460 := by omega
        have b2 : 0 ≤ (24 * f + s) / 1460 ∧ (24 * f + s) / 1460 ≤ 25 ∧ 1460 * ((24 * f + s) / 1460) ≤ 24 * f + s ∧ 24 * f + s < 1460 * ((24 * f + s) / 1460 + 1) := by omega
        rw [hc2, hf] at hy
        generalize (24 * f + s) / 1460 = c2 at *
        have hy2 : y - 100 * f = (s - c2) / 365 := by omega
        refine ⟨(y - 100 * f) / 4, c2, y - 100 * f, by omega, rfl, b2.2.2.1, b2.2.2.2, ?_, ?_, hy2, ?_, ?_⟩
        · omega
        · omega
        · generalize y - 100 * f = y2 at *; omega
        · generalize y - 100 * f = y2 at *; omega
      obtain ⟨c, c2, y2, e1, e2, e3, e4, e5, e6, e7, e8, e9⟩ := main (r / 36524) (r - 36524 * (r / 36524)) (by omega) (by omega) rfl rfl (by omega) (by omega)
      have hf0 : 0 ≤ r / 36524 ∧ r / 36524 ≤ 3 ∧ 0 ≤ r - 36524 * (r / 36524) ∧ r - 36524 * (r / 36524) < 36524 := by omega
      generalize r / 36524 = f at *
      have q1 : y / 100 = f := by omega
      have q2 : y / 4 = 25 * f + c := by omega
      have hl : r - (365 * y + y / 4 - y / 100) = r - 36524 * f - 365 * y2 - c := by omega
      rw [hl]
      refine ⟨by omega, by omega, by omega, by omega, fun h => ?_⟩
      have hy2 : y2 = 4 * c + 3 := by omega
      have h99 : y2 ≠ 99 := by omega
      simp only [lpB, decide_eq_true_eq]
      omega
  exact key _ rfl

/-- The program's date of a number. -/
def cR (n : Int) : Int := (n + 719468) % 146097
def cQ (n : Int) : Int := (n + 719468) / 146097
def cM (n : Int) : Int := (5 * rL (cR n) + 2) / 153
def dateD (n : Int) : Int := rL (cR n) - march (cM n) + 1
def dateM (n : Int) : Int := if cM n + 3 > 12 then cM n + 3 - 12 else cM n + 3
def dateY (n : Int) : Int := if cM n + 3 > 12 then cQ n * 400 + rY (cR n) + 1 else cQ n * 400 + rY (cR n)

theorem date_ok (n : Int) : 1 ≤ dateM n ∧ dateM n ≤ 12 ∧ 1 ≤ dateD n ∧ dateD n ≤ mlen (dateY n) (dateM n) ∧ numb (dateY n) (dateM n) (dateD n) = n := by
  have hr : 0 ≤ cR n ∧ cR n < 146097 := by unfold cR; omega
  have hq : n + 719468 = 146097 * cQ n + cR n := by unfold cQ cR; omega
  obtain ⟨y0, y1, l0, l1, hl⟩ := rY_ok (cR n) hr.1 hr.2
  have hL : rL (cR n) = cR n - (365 * rY (cR n) + rY (cR n) / 4 - rY (cR n) / 100) := rfl
  have hM : cM n = (5 * rL (cR n) + 2) / 153 := rfl
  have hm : 0 ≤ cM n ∧ cM n ≤ 11 := by omega
  have hdm : dateM n = if cM n + 3 > 12 then cM n + 3 - 12 else cM n + 3 := rfl
  have hd : dateD n = rL (cR n) - march (cM n) + 1 := rfl
  have hY : dateY n = if cM n + 3 > 12 then cQ n * 400 + rY (cR n) + 1 else cQ n * 400 + rY (cR n) := rfl
  have hb : 1 ≤ dateM n ∧ dateM n ≤ 12 := by rw [hdm]; split <;> omega
  have hlp : rL (cR n) = 365 → lp (cQ n * 400 + rY (cR n) + 1) = 1 := by
    intro h
    have := hl h
    rw [lp_iff] at this
    have : lpB (cQ n * 400 + rY (cR n) + 1) = true := by rw [lp_iff]; omega
    simp [lp, this]
  have hc : cnum (dateY n) (dateM n) (dateD n) = n := by
    have key : ∀ Y : Int, Y / 400 * 146097 + Y % 400 * 365 + Y % 400 / 4 - Y % 400 / 100 = 365 * Y + leaps Y := by intro Y; unfold leaps; omega
    have e0 : (cQ n * 400 + rY (cR n)) / 400 = cQ n := by omega
    have e1 : (cQ n * 400 + rY (cR n)) % 400 = rY (cR n) := by omega
    unfold cnum
    have eY : (if dateM n - 3 < 0 then dateY n - 1 else dateY n) = cQ n * 400 + rY (cR n) := by rw [hdm, hY]; split <;> split <;> omega
    have eM : (if dateM n - 3 < 0 then dateM n - 3 + 12 else dateM n - 3) = cM n := by rw [hdm]; split <;> split <;> omega
    simp only [eY, eM, e0, e1, hd]
    omega
  rw [cnum_eq _ _ _ hb] at hc
  refine ⟨hb.1, hb.2, ?_, ?_, hc⟩
  · rw [hd]; unfold march; omega
  · have h01 := lp_01 (dateY n)
    have h02 := lp_01 (cQ n * 400 + rY (cR n) + 1)
    rw [hd]
    generalize hk : cM n = k at *
    have hk12 : k = 0 ∨ k = 1 ∨ k = 2 ∨ k = 3 ∨ k = 4 ∨ k = 5 ∨ k = 6 ∨ k = 7 ∨ k = 8 ∨ k = 9 ∨ k = 10 ∨ k = 11 := by omega
    rcases hk12 with rfl | rfl | rfl | rfl | rfl | rfl | rfl | rfl | rfl | rfl | rfl | rfl
    all_goals
      rw [hdm, hY]
      simp [mlen, march]
      try omega
theorem date_of (y m d : Int) (h : rightB y m d = true) : dateY (numb y m d) = y ∧ dateM (numb y m d) = m ∧ dateD (numb y m d) = d := by
  obtain ⟨_, _, m0, m1, d0, d1⟩ := (right_iff y m d).1 h
  obtain ⟨a, b, c, e, f⟩ := date_ok (numb y m d)
  obtain ⟨x, y', z⟩ := numb_inj ⟨a, b⟩ ⟨c, e⟩ ⟨m0, m1⟩ ⟨d0, d1⟩ f
  exact ⟨x, y', z⟩
/-- A date that has these two years round it. -/
theorem date_year (n y : Int) (h0 : ahead y ≤ n) (h1 : n < ahead (y + 1)) : dateY n = y := by
  obtain ⟨a, b, c, e, f⟩ := date_ok n
  have g := cum_bd (dateY n) (dateM n) a b
  have s := ahead_succ (dateY n)
  unfold numb at f
  rcases Int.lt_trichotomy (dateY n) y with k | k | k
  · have := ahead_mono (a := dateY n + 1) (b := y) (by omega)
    omega
  · exact k
  · have := ahead_mono (a := y + 1) (b := dateY n) (by omega)
    omega
theorem year_in (n y : Int) (h : dateY n = y) : ahead y ≤ n ∧ n < ahead (y + 1) := by
  obtain ⟨a, b, c, e, f⟩ := date_ok n
  have g := cum_bd (dateY n) (dateM n) a b
  have s := ahead_succ (dateY n)
  unfold numb at f
  rw [h] at *
  omega

/-! ### weekdays -/
def wday (n : Int) : Int := (n % 7 + 4) % 7
theorem wday_bd (n : Int) : 0 ≤ wday n ∧ wday n ≤ 6 := by unfold wday; omega
end Go.Proofs.YtjddmcecllhlhaaDoor.Cal
