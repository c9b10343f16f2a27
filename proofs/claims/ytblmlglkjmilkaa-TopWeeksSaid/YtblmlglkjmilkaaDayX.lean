/-
  Where named days lie (plain).
-/
import Derived.Test.YtblmlglkjmilkaaDayB
namespace Go.Proofs.Ytblmlglkjmilkaa
open Cal

theorem numb_ok' {y m d : Int} (h : rightB y m d = true) : dtOk (numb y m d) = true ∧ dtY (numb y m d) = y ∧ dtM (numb y m d) = m ∧ dtD (numb y m d) = d ∧ dtE (numb y m d) = 0 := by
  obtain ⟨a, b, c⟩ := date_of y m d h
  have hr := (right_iff y m d).1 h
  have h0 := year_le (numb y m d) (-40000)
  have h1 := year_le (numb y m d) 40001
  rw [A0_eq] at h0
  rw [A1_eq] at h1
  have ok : dtOk (numb y m d) = true := (dt_iff _).2 (by omega)
  obtain ⟨e1, e2, e3, e4⟩ := dt_y ok
  exact ⟨ok, by omega, by omega, by omega, e4⟩
theorem ruleN_bd {k w d y m : Int} (h : onFits k w d m = true) (hy : inB y (-39999) 39999 = true) :
    -15329228 ≤ ruleN k w d y m ∧ ruleN k w d y m + 7 < 13890538 ∧ -15329228 ≤ ruleN k w d y m + 7 := by
  obtain ⟨m0, m1, d0, d1, k0, k1, hd, hk⟩ := fit_kinds h
  obtain ⟨l0, l1, l2, l3, l4⟩ := mlen_le y m m0 m1
  have hy := inB_iff.1 hy
  have cb := cum_bd y m m0 m1
  have ll := lp_01 y
  have a : numb y m 1 = 365 * (y - 1970) + ((y - 1) / 4 - (y - 1) / 100 + (y - 1) / 400) - 477 + cum y m := by
    unfold numb Cal.ahead leaps; omega
  have b1 := backI_bd (numb y m 1 + mlen y m - 1) w
  have b2 := backI_bd (numb y m 1 + d - 1 + 6) w
  have b3 := backI_bd (numb y m 1 + d - 1) w
  unfold ruleN
  generalize numb y m 1 = f at *
  split
  · omega
  · split
    · omega
    · split <;> omega
theorem rule_lies {k w d y m : Int} (h : onFits k w d m = true) (hy : inB y (-39999) 39999 = true) :
    winL k w d m ≤ ruleN k w d y m - numb y m 1 + 1 ∧ ruleN k w d y m - numb y m 1 + 1 ≤ winH k w d m ∧ (k = 0 ∨ wday (ruleN k w d y m) = w) := by
  obtain ⟨m0, m1, d0, d1, k0, k1, hd, hk⟩ := fit_kinds h
  obtain ⟨l0, l1, l2, l3, l4⟩ := mlen_le y m m0 m1
  obtain ⟨e1, e2, _⟩ := win_y h
  rw [e1, e2]
  have b1 := backI_bd (numb y m 1 + mlen y m - 1) w
  have b2 := backI_bd (numb y m 1 + d - 1 + 6) w
  have b3 := backI_bd (numb y m 1 + d - 1) w
  have q1 := back_at (numb y m 1 + mlen y m - 1) w _ ⟨k0, k1⟩ b1.1 (Int.le_refl _)
  have q2 := fore_at (numb y m 1 + d - 1) w _ ⟨k0, k1⟩ (by omega) (Int.le_refl _)
  have q3 := back_at (numb y m 1 + d - 1) w _ ⟨k0, k1⟩ b3.1 (Int.le_refl _)
  unfold ruleN
  generalize numb y m 1 = f at *
  rcases hk with rfl | rfl | rfl | rfl
  · simp only [if_true, reduceIte] at *
    refine ⟨by omega, by omega, .inr ?_⟩
    rcases q1 with ⟨a, _⟩ | ⟨_, a⟩
    · omega
    · exact a
  · simp only [show (0 : Int) = 1 ↔ False by decide, show (0 : Int) = 2 ↔ False by decide, show (0 : Int) = 3 ↔ False by decide, if_false, reduceIte] at *
    exact ⟨by omega, by omega, .inl trivial⟩
  · simp only [show (2 : Int) = 1 ↔ False by decide, if_false, if_true, reduceIte] at *
    refine ⟨by omega, by omega, .inr ?_⟩
    rcases q2 with ⟨a, _⟩ | ⟨_, a⟩
    · omega
    · exact a
  · simp only [show (3 : Int) = 1 ↔ False by decide, show (3 : Int) = 2 ↔ False by decide, if_false, if_true, reduceIte] at *
    refine ⟨by omega, by omega, .inr ?_⟩
    rcases q3 with ⟨a, _⟩ | ⟨_, a⟩
    · omega
    · exact a
/-- Seven days behind the last one of a month is another month. -/
theorem rule_last {w d y m : Int} (h : onFits 1 w d m = true) (hy : inB y (-39999) 39999 = true) :
    dtE (ruleN 1 w d y m + 7) = 0 ∧ ¬ (dtM (ruleN 1 w d y m + 7) = m ∧ dtY (ruleN 1 w d y m + 7) = y) := by
  obtain ⟨c0, c1, c2⟩ := ruleN_bd h hy
  have ok : dtOk (ruleN 1 w d y m + 7) = true := (dt_iff _).2 ⟨c2, c1⟩
  obtain ⟨e1, e2, e3, e4⟩ := dt_y ok
  refine ⟨e4, ?_⟩
  rw [e1, e2]
  rintro ⟨a, b⟩
  obtain ⟨p0, p1, p2, p3, p4⟩ := date_ok (ruleN 1 w d y m + 7)
  rw [a, b] at p4 p3
  have b1 := backI_bd (numb y m 1 + mlen y m - 1) w
  have e : ruleN 1 w d y m = numb y m 1 + mlen y m - 1 - backI (numb y m 1 + mlen y m - 1) w := rfl
  have f : numb y m (dateD (ruleN 1 w d y m + 7)) = numb y m 1 + dateD (ruleN 1 w d y m + 7) - 1 := by unfold numb; omega
  omega
/-- From a day on, and up to six days later: the same day. -/
theorem week_day {w d y m : Int} (hw : 0 ≤ w ∧ w ≤ 6) (hd : 1 ≤ d ∧ d ≤ 22) (hm : 1 ≤ m ∧ m ≤ 12) (hy : -39999 ≤ y ∧ y ≤ 39999) :
    ∃ D, d ≤ D ∧ D ≤ d + 6 ∧ ruleV 2 w d y m = numb y m D ∧ ruleV 3 w (d + 6) y m = numb y m D ∧ ruleV 2 w D y m = numb y m D ∧ ruleE 2 w d y m = 0 ∧ ruleE 3 w (d + 6) y m = 0 ∧ ruleE 2 w D y m = 0 ∧
      dtY (numb y m D) = y ∧ dtM (numb y m D) = m ∧ dtD (numb y m D) = D ∧ dtE (numb y m D) = 0 := by
  obtain ⟨l0, l1, l2, l3, l4⟩ := mlen_le y m hm.1 hm.2
  have iy : inB y (-39999) 39999 = true := inB_iff.2 hy
  have im : inB m 1 12 = true := inB_iff.2 hm
  have b := backI_bd (numb y m 1 + d - 1 + 6) w
  have q := fore_at (numb y m 1 + d - 1) w _ hw (by omega) (Int.le_refl _)
  have f1 : ∀ k x, k = 2 ∨ k = 3 → 1 ≤ x → x ≤ 28 → onFits k w x m = true := fun k x hk h1 h2 => (fits_iff k w x m).2 ⟨(ok_iff k w x).2 (by omega), by omega⟩
  have nn : ∀ x, numb y m 1 + x - 1 = numb y m x := fun x => by unfold numb; omega
  have e2 : ∀ x, ruleN 2 w x y m = numb y m 1 + x - 1 + (6 - backI (numb y m 1 + x - 1 + 6) w) := fun x => rfl
  have e3 : ∀ x, ruleN 3 w x y m = numb y m 1 + x - 1 - backI (numb y m 1 + x - 1) w := fun x => rfl
  refine ⟨d + (6 - backI (numb y m 1 + d - 1 + 6) w), by omega, by omega, ?_⟩
  obtain ⟨r1, r2⟩ := rule_y (f1 2 d (.inl rfl) (by omega) (by omega)) iy
  obtain ⟨r3, r4⟩ := rule_y (f1 3 (d + 6) (.inr rfl) (by omega) (by omega)) iy
  obtain ⟨r5, r6⟩ := rule_y (f1 2 (d + (6 - backI (numb y m 1 + d - 1 + 6) w)) (.inl rfl) (by omega) (by omega)) iy
  have hr : rightB y m (d + (6 - backI (numb y m 1 + d - 1 + 6) w)) = true := (right_iff _ _ _).2 (by omega)
  obtain ⟨z1, z2, z3, z4, z5⟩ := numb_ok' hr
  rw [r1, r2, r3, r4, r5, r6, z2, z3, z4, z5, e2, e3, e2, ← nn (d + (6 - backI (numb y m 1 + d - 1 + 6) w))]
  clear r1 r2 r3 r4 r5 r6 z1 z2 z3 z4 z5 hr nn e2 e3 f1
  refine ⟨by omega, ?_, ?_, rfl, rfl, rfl, rfl, rfl, rfl, rfl⟩
  · rw [show numb y m 1 + (d + 6) - 1 = numb y m 1 + d - 1 + 6 from by omega]; omega
  · have q' : wday (numb y m 1 + d - 1 + (6 - backI (numb y m 1 + d - 1 + 6) w)) = w := by
      rcases q with ⟨a, _⟩ | ⟨_, a⟩
      · omega
      · exact a
    rw [show numb y m 1 + (d + (6 - backI (numb y m 1 + d - 1 + 6) w)) - 1 = numb y m 1 + d - 1 + (6 - backI (numb y m 1 + d - 1 + 6) w) from by omega]
    generalize numb y m 1 + d - 1 + (6 - backI (numb y m 1 + d - 1 + 6) w) = N at *
    unfold backI wday at *
    omega
end Go.Proofs.Ytblmlglkjmilkaa
