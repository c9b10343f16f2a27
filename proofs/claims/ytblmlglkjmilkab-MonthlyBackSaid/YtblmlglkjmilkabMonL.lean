/-
  The plain laws of dates moved by months.
-/
import Derived.Test.YtblmlglkjmilkabMonD
namespace Go.Proofs.Ytblmlglkjmilkab
open Go.RowKit Cal

theorem cmp3_ix {y m d y' m' d' : Int} (hm : 1 ≤ m ∧ m ≤ 12) (hm' : 1 ≤ m' ∧ m' ≤ 12) :
    ((y * 12 + m < y' * 12 + m' ∨ (y * 12 + m = y' * 12 + m' ∧ d < d')) ∧ cmp3 y m d y' m' d' = -1) ∨ ((y = y' ∧ m = m' ∧ d = d') ∧ cmp3 y m d y' m' d' = 0) ∨
    ((y' * 12 + m' < y * 12 + m ∨ (y * 12 + m = y' * 12 + m' ∧ d' < d)) ∧ cmp3 y m d y' m' d' = 1) := by
  rcases cmpI_cases y y' with ⟨a, e⟩ | ⟨a, e⟩ | ⟨a, e⟩
  · exact .inl ⟨by omega, by simp [cmp3, or3, e]⟩
  · exact .inr (.inr ⟨by omega, by simp [cmp3, or3, e]⟩)
  · rcases cmpI_cases m m' with ⟨a', e'⟩ | ⟨a', e'⟩ | ⟨a', e'⟩
    · exact .inl ⟨by omega, by simp [cmp3, or3, e, e']⟩
    · exact .inr (.inr ⟨by omega, by simp [cmp3, or3, e, e']⟩)
    · rcases cmpI_cases d d' with ⟨a'', e''⟩ | ⟨a'', e''⟩ | ⟨a'', e''⟩
      · exact .inl ⟨by omega, by simp [cmp3, or3, e, e', e'']⟩
      · exact .inr (.inr ⟨by omega, by simp [cmp3, or3, e, e', e'']⟩)
      · exact .inr (.inl ⟨by omega, by simp [cmp3, or3, e, e', e'']⟩)
/-- Where a moved date lies. -/
theorem add_at {y m d n : Int} (h : addB y m d n = true) : addY y m d n * 12 + addM y m d n = y * 12 + m + n ∧ 1 ≤ addM y m d n ∧ addM y m d n ≤ 12 ∧ addD y m d n = minI d (mlen (addY y m d n) (addM y m d n)) ∧ addE y m d n = 0 ∧ -40000 ≤ addY y m d n ∧ addY y m d n ≤ 40000 ∧ rightB (addY y m d n) (addM y m d n) (addD y m d n) = true := by
  obtain ⟨e1, e2, e3, e4⟩ := add_y h
  obtain ⟨hr, q0, q1⟩ := (addB_iff y m d n).1 h
  obtain ⟨y0, y1, m0, m1, d0, d1⟩ := (right_iff y m d).1 hr
  have rr := reach_right (moN y m n / 12) (moN y m n) d d0
  rw [decide_eq_true ⟨q0, q1⟩] at rr
  rw [e1, e2, e3]
  refine ⟨by unfold moN; omega, by omega, by omega, rfl, e4, q0, q1, rr⟩
theorem add_err (y m d n : Int) : (addB y m d n = true ∧ addE y m d n = 0) ∨ (addB y m d n = false ∧ addE y m d n = 1) := by
  cases h : addB y m d n
  · exact .inr ⟨rfl, (add_n h).2.2.2⟩
  · exact .inl ⟨rfl, (add_y h).2.2.2⟩
theorem addY_bd (y m d n : Int) : -40000 ≤ addY y m d n ∧ addY y m d n ≤ 40000 := by
  cases h : addB y m d n
  · rw [(add_n h).1]; omega
  · obtain ⟨_, _, _, _, _, a, b, _⟩ := add_at h; exact ⟨a, b⟩
/-- In order by the number of months. -/
theorem add_lt {y m d n k : Int} (h : addB y m d n = true) (h' : addB y m d k = true) (hlt : n < k) : cmp3 (addY y m d n) (addM y m d n) (addD y m d n) (addY y m d k) (addM y m d k) (addD y m d k) = -1 := by
  obtain ⟨a, b, c, _⟩ := add_at h
  obtain ⟨a', b', c', _⟩ := add_at h'
  rcases cmp3_ix (d := addD y m d n) (d' := addD y m d k) ⟨b, c⟩ ⟨b', c'⟩ with ⟨_, e⟩ | ⟨_, e⟩ | ⟨_, e⟩
  · exact e
  · omega
  · omega
theorem cmp3_self (y m d : Int) : cmp3 y m d y m d = 0 := by
  have e : ∀ x : Int, cmpI x x = 0 := fun x => by rcases cmpI_cases x x with ⟨h, g⟩ | ⟨h, g⟩ | ⟨h, g⟩ <;> omega
  simp [cmp3, or3, e]
/-- In order by the dates. -/
theorem add_le {y m d y' m' d' n : Int} (h : addB y m d n = true) (h' : addB y' m' d' n = true) (hle : cmp3 y m d y' m' d' ≤ 0) : cmp3 (addY y m d n) (addM y m d n) (addD y m d n) (addY y' m' d' n) (addM y' m' d' n) (addD y' m' d' n) ≤ 0 := by
  obtain ⟨a, b, c, f, _⟩ := add_at h
  obtain ⟨a', b', c', f', _⟩ := add_at h'
  obtain ⟨y0, y1, m0, m1, _, _⟩ := (right_iff _ _ _).1 ((addB_iff _ _ _ _).1 h).1
  obtain ⟨y0', y1', m0', m1', _, _⟩ := (right_iff _ _ _).1 ((addB_iff _ _ _ _).1 h').1
  have s := cmp3_ix (y := y) (y' := y') (d := d) (d' := d') ⟨m0, m1⟩ ⟨m0', m1'⟩
  rcases cmp3_ix (y := addY y m d n) (y' := addY y' m' d' n) (d := addD y m d n) (d' := addD y' m' d' n) ⟨b, c⟩ ⟨b', c'⟩ with ⟨_, e⟩ | ⟨_, e⟩ | ⟨g, e⟩
  · omega
  · omega
  · exfalso
    have hs : y * 12 + m < y' * 12 + m' ∨ (y * 12 + m = y' * 12 + m' ∧ d ≤ d') := by omega
    have hy : addY y m d n = addY y' m' d' n ∧ addM y m d n = addM y' m' d' n ∧ d ≤ d' ∧ addD y' m' d' n < addD y m d n := by omega
    obtain ⟨p, q, r, t⟩ := hy
    rw [f, f', p, q] at t
    have i1 := minI_cases d (mlen (addY y' m' d' n) (addM y' m' d' n))
    have i2 := minI_cases d' (mlen (addY y' m' d' n) (addM y' m' d' n))
    omega
/-- The months between. -/
theorem between_law {y m d y' m' d' : Int} (h : btB y m d y' m' d' = true) : btV y m d y' m' d' = btN y m d y' m' d' ∧ btE y m d y' m' d' = 0 ∧ -2000000 ≤ btN y m d y' m' d' ∧ btN y m d y' m' d' ≤ 2000000 ∧
    addE y m d (btN y m d y' m' d') = 0 ∧ addE y m d (btN y m d y' m' d' + 1) = 0 ∧
    cmp3 (addY y m d (btN y m d y' m' d')) (addM y m d (btN y m d y' m' d')) (addD y m d (btN y m d y' m' d')) y' m' d' ≤ 0 ∧
    0 < cmp3 (addY y m d (btN y m d y' m' d' + 1)) (addM y m d (btN y m d y' m' d' + 1)) (addD y m d (btN y m d y' m' d' + 1)) y' m' d' := by
  obtain ⟨e1, e2⟩ := bt_y h
  have h0 := h
  unfold btB at h0
  simp only [Bool.and_eq_true] at h0
  obtain ⟨⟨⟨r, r'⟩, a1⟩, a2⟩ := h0
  obtain ⟨y0, y1, m0, m1, d0, d1⟩ := (right_iff _ _ _).1 r
  obtain ⟨y0', y1', m0', m1', d0', d1'⟩ := (right_iff _ _ _).1 r'
  obtain ⟨a, b, c, f, g, _⟩ := add_at a1
  obtain ⟨a', b', c', f', g', _⟩ := add_at a2
  have hN : btN y m d y' m' d' = (y' - y) * 12 + (m' - m) - (if d' < d ∧ d' < mlen y' m' then 1 else 0) := rfl
  have bd : -2000000 ≤ btN y m d y' m' d' ∧ btN y m d y' m' d' ≤ 2000000 := by rw [hN]; split <;> omega
  refine ⟨e1, e2, bd.1, bd.2, g, g', ?_, ?_⟩
  · rcases cmp3_ix (y := addY y m d (btN y m d y' m' d')) (y' := y') (d := addD y m d (btN y m d y' m' d')) (d' := d') ⟨b, c⟩ ⟨m0', m1'⟩ with ⟨_, e⟩ | ⟨_, e⟩ | ⟨k, e⟩
    · omega
    · omega
    · exfalso
      by_cases hs : d' < d ∧ d' < mlen y' m'
      · rw [if_pos hs] at hN; omega
      · rw [if_neg hs] at hN
        have p : addY y m d (btN y m d y' m' d') = y' ∧ addM y m d (btN y m d y' m' d') = m' := by omega
        rw [p.1, p.2] at f
        have i1 := minI_cases d (mlen y' m')
        omega
  · rcases cmp3_ix (y := addY y m d (btN y m d y' m' d' + 1)) (y' := y') (d := addD y m d (btN y m d y' m' d' + 1)) (d' := d') ⟨b', c'⟩ ⟨m0', m1'⟩ with ⟨k, e⟩ | ⟨k, e⟩ | ⟨k, e⟩
    · exfalso
      by_cases hs : d' < d ∧ d' < mlen y' m'
      · rw [if_pos hs] at hN
        have p : addY y m d (btN y m d y' m' d' + 1) = y' ∧ addM y m d (btN y m d y' m' d' + 1) = m' := by omega
        rw [p.1, p.2] at f'
        have i1 := minI_cases d (mlen y' m')
        omega
      · rw [if_neg hs] at hN; omega
    · exfalso
      by_cases hs : d' < d ∧ d' < mlen y' m'
      · rw [if_pos hs] at hN
        rw [k.1, k.2.1] at f'
        have i1 := minI_cases d (mlen y' m')
        omega
      · rw [if_neg hs] at hN; omega
    · omega
/-- There and back. -/
theorem add_back {y m d n : Int} (h : addB y m d n = true) (hd : d ≤ 28) : addD y m d n = d ∧ addB (addY y m d n) (addM y m d n) (addD y m d n) (-n) = true ∧
    addY (addY y m d n) (addM y m d n) (addD y m d n) (-n) = y ∧ addM (addY y m d n) (addM y m d n) (addD y m d n) (-n) = m ∧ addD (addY y m d n) (addM y m d n) (addD y m d n) (-n) = d := by
  obtain ⟨a, b, c, f, g, y0, y1, r⟩ := add_at h
  obtain ⟨hr, q0, q1⟩ := (addB_iff y m d n).1 h
  obtain ⟨u0, u1, m0, m1, d0, d1⟩ := (right_iff y m d).1 hr
  have l := (mlen_bd (addY y m d n) (addM y m d n)).2.2.2 b c
  have eD : addD y m d n = d := by
    have := minI_cases d (mlen (addY y m d n) (addM y m d n))
    omega
  refine ⟨eD, ?_⟩
  rw [eD] at r ⊢
  generalize addY y m d n = Y at *
  generalize addM y m d n = M at *
  have e12 : moN Y M (-n) = y * 12 + (m - 1) := by unfold moN; omega
  have ed : moN Y M (-n) / 12 = y := by rw [e12]; omega
  have em : moN Y M (-n) % 12 + 1 = m := by rw [e12]; omega
  have hb : addB Y M d (-n) = true := (addB_iff _ _ _ _).2 ⟨r, by rw [ed]; exact u0, by rw [ed]; exact u1⟩
  obtain ⟨e1, e2, e3, _⟩ := add_y hb
  rw [ed] at e1
  rw [em] at e2
  rw [ed, em] at e3
  refine ⟨hb, e1, e2, ?_⟩
  rw [e3]
  have := minI_cases d (mlen y m)
  omega
theorem add_add {y m d n k : Int} (h : addB y m d n = true) (hd : d ≤ 28) : addY (addY y m d n) (addM y m d n) (addD y m d n) k = addY y m d (n + k) ∧ addM (addY y m d n) (addM y m d n) (addD y m d n) k = addM y m d (n + k) ∧ addD (addY y m d n) (addM y m d n) (addD y m d n) k = addD y m d (n + k) ∧ addE (addY y m d n) (addM y m d n) (addD y m d n) k = addE y m d (n + k) := by
  obtain ⟨a, b, c, f, g, y0, y1, r⟩ := add_at h
  have eD := (add_back h hd).1
  have hr := ((addB_iff y m d n).1 h).1
  rw [eD] at r ⊢
  generalize addY y m d n = Y at *
  generalize addM y m d n = M at *
  have e12 : moN Y M k = moN y m (n + k) := by unfold moN; omega
  have hb : addB Y M d k = addB y m d (n + k) := by unfold addB; rw [r, hr, e12]
  unfold addY addM addD addE
  rw [hb, e12]
  exact ⟨rfl, rfl, rfl, rfl⟩
theorem md_err (y m d n : Int) : (mdB y m d n = true ∧ mdE y m d n = 0) ∨ (mdB y m d n = false ∧ mdE y m d n = 1) := by
  cases h : mdB y m d n
  · exact .inr ⟨rfl, (md_n h).2.2.2⟩
  · exact .inl ⟨rfl, by simp [mdE, h]⟩
theorem md_back {y m d n : Int} (h : mdB y m d n = true) : -40000 ≤ mdY y m d n ∧ mdY y m d n ≤ 40000 ∧ mdE (mdY y m d n) (mdM y m d n) (mdD y m d n) (-n) = 0 ∧ mdY (mdY y m d n) (mdM y m d n) (mdD y m d n) (-n) = y ∧ mdM (mdY y m d n) (mdM y m d n) (mdD y m d n) (-n) = m ∧ mdD (mdY y m d n) (mdM y m d n) (mdD y m d n) (-n) = d := by
  have h0 := h
  unfold mdB at h0
  simp only [Bool.and_eq_true] at h0
  obtain ⟨r, o⟩ := h0
  obtain ⟨e1, e2, e3, e4⟩ := md_y (n := n) r
  obtain ⟨t1, t2, t3, t4⟩ := dt_y o
  rw [t1] at e1; rw [t2] at e2; rw [t3] at e3
  obtain ⟨p0, p1, p2, p3, p4⟩ := date_ok (numb y m d + n)
  have o' := o
  unfold dtOk at o'
  have o'' := of_decide_eq_true o'
  have r' : rightB (dateY (numb y m d + n)) (dateM (numb y m d + n)) (dateD (numb y m d + n)) = true := by rw [date_right]; exact decide_eq_true o''.2.2
  have u := numb_ok0 r
  have v : numb (dateY (numb y m d + n)) (dateM (numb y m d + n)) (dateD (numb y m d + n)) + -n = numb y m d := by rw [p4]; omega
  obtain ⟨f1, f2, f3, f4⟩ := md_y (n := -n) r'
  rw [v] at f1 f2 f3 f4
  obtain ⟨d1, d2, d3⟩ := date_of y m d r
  obtain ⟨g1, g2, g3, g4⟩ := dt_y u
  rw [e1, e2, e3]
  exact ⟨o''.2.2.1, o''.2.2.2, by rw [f4, g4], by rw [f1, g1, d1], by rw [f2, g2, d2], by rw [f3, g3, d3]⟩
end Go.Proofs.Ytblmlglkjmilkab
