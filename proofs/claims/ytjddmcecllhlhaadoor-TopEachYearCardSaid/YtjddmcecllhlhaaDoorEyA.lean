/-
  A rule that may be: its years, its hour, what it saves.
-/
import Derived.Test.YtjddmcecllhlhaaDoorDayB
import Derived.Test.YtjddmcecllhlhaaDoorTxtB
namespace Go.Proofs.YtjddmcecllhlhaaDoor
open Go.RowKit Cal
attribute [local go_sem] BW.cell BW.frozen
theorem year_may (n : Int) (w : World) : Calls Tryd.prog 64 #[.int .i64 n] w fun e w' => e = .returned (.bool (inB n (-32767) 32767)) ∧ w = w' := by
  go_enter Tryd.func64, Tryd.ntmps64
  go_wp2
  all_goals go_ret
  all_goals exact ⟨ret_bool (by rw [Bool.eq_iff_iff]; simp [inB]; try omega), rfl⟩
theorem rule_saves (n : Int) (w : World) : Calls Tryd.prog 41 #[.int .i64 n] w fun e w' => e = .returned (.bool (inB n (-10800) 10800)) ∧ w = w' := by
  go_enter Tryd.func41, Tryd.ntmps41
  go_wp2
  all_goals go_ret
  all_goals exact ⟨ret_bool (by rw [Bool.eq_iff_iff]; simp [inB]; try omega), rfl⟩
theorem chain_may (n : Int) (w : World) : Calls Tryd.prog 44 #[.int .i64 n] w fun e w' => e = .returned (.bool (inB n (-54000) 54000)) ∧ w = w' := by
  go_enter Tryd.func44, Tryd.ntmps44
  go_wp2
  all_goals go_ret
  all_goals exact ⟨ret_bool (by rw [Bool.eq_iff_iff]; simp [inB]; try omega), rfl⟩
theorem num_Clamp (n l h : Int) (hlh : l ≤ h) (w : World) : Calls Tryd.prog 104 #[.int .i64 n, .int .i64 l, .int .i64 h] w fun e w' => e = .returned (.int .i64 (max l (min n h))) ∧ w = w' := by
  by_cases h1 : n < l
  · rw [show max l (min n h) = l by omega]
    go_enter Tryd.func104, Tryd.ntmps104
    go_wp2
    go_ret
    exact ⟨rfl, rfl⟩
  · by_cases h2 : n ≤ h
    · rw [show max l (min n h) = n by omega]
      go_enter Tryd.func104, Tryd.ntmps104
      go_wp2
      go_ret
      exact ⟨rfl, rfl⟩
    · rw [show max l (min n h) = h by omega]
      go_enter Tryd.func104, Tryd.ntmps104
      go_wp2
      go_ret
      exact ⟨rfl, rfl⟩
/-- Whether an hour may be. -/
def hourOk (s b : Int) : Bool := decide ((b = 0 ∨ b = 1 ∨ b = 2) ∧ 0 ≤ s ∧ s ≤ 172800)
theorem clock_Right (s b : Int) (w : World) : Calls Tryd.prog 28 #[.agg #[.int .i64 s, .int .i64 b]] w fun e w' => e = .returned (.bool (hourOk s b)) ∧ Below w.heap.size w w' := by
  by_cases h0 : b = 0
  · subst h0
    go_enter Tryd.func28, Tryd.ntmps28
    go_wp2
    all_goals go_ret
    all_goals exact ⟨ret_bool (by rw [Bool.eq_iff_iff]; simp [hourOk]; try omega), by (focus (repeat' (first | exact Below.refl _ _ | refine Below.alloc ?_ ?_ _ | refine Below.setCell ?_ ?_ _ | refine Below.drew ?_ | refine below_drewN ?_ _ | refine Below.trans ?_ (Below.mono (by assumption) ?_) | refine Below.trans ?_ (Below.mono (BW.below _) ?_) | (simp; done) | (simp; omega) | omega)))⟩
  · by_cases h1 : b = 1
    · subst h1
      go_enter Tryd.func28, Tryd.ntmps28
      go_wp2
      all_goals go_ret
      all_goals exact ⟨ret_bool (by rw [Bool.eq_iff_iff]; simp [hourOk]; try omega), by (focus (repeat' (first | exact Below.refl _ _ | refine Below.alloc ?_ ?_ _ | refine Below.setCell ?_ ?_ _ | refine Below.drew ?_ | refine below_drewN ?_ _ | refine Below.trans ?_ (Below.mono (by assumption) ?_) | refine Below.trans ?_ (Below.mono (BW.below _) ?_) | (simp; done) | (simp; omega) | omega)))⟩
    · by_cases h2 : b = 2
      · subst h2
        go_enter Tryd.func28, Tryd.ntmps28
        go_wp2
        all_goals go_ret
        all_goals exact ⟨ret_bool (by rw [Bool.eq_iff_iff]; simp [hourOk]; try omega), by (focus (repeat' (first | exact Below.refl _ _ | refine Below.alloc ?_ ?_ _ | refine Below.setCell ?_ ?_ _ | refine Below.drew ?_ | refine below_drewN ?_ _ | refine Below.trans ?_ (Below.mono (by assumption) ?_) | refine Below.trans ?_ (Below.mono (BW.below _) ?_) | (simp; done) | (simp; omega) | omega)))⟩
      · have a0 : (b == 0) = false := by simpa using h0
        have a1 : (b == 1) = false := by simpa using h1
        have a2 : (b == 2) = false := by simpa using h2
        have e : hourOk s b = false := by simp [hourOk, h0, h1, h2]
        rw [e]
        clear e h0 h1 h2
        go_enter Tryd.func28, Tryd.ntmps28
        go_wp2
        go_ret
        exact ⟨rfl, by (focus (repeat' (first | exact Below.refl _ _ | refine Below.alloc ?_ ?_ _ | refine Below.setCell ?_ ?_ _ | refine Below.drew ?_ | refine below_drewN ?_ _ | refine Below.trans ?_ (Below.mono (by assumption) ?_) | refine Below.trans ?_ (Below.mono (BW.below _) ?_) | (simp; done) | (simp; omega) | omega)))⟩
/-- What is wrong with a rule's years. -/
def toE (a y : Int) : Int := if inB y (-32767) 32767 = false then 1 else if y < a then 14 else 0
def fromE (y : Int) : Int := if inB y (-32767) 32767 = false then 1 else 0
theorem year_ToText (a y : Int) (ky : I64 y) (w : World) : Calls Tryd.prog 36 #[.int .i64 a, .int .i64 y] w fun e w' => ∃ s, e = .returned (.tuple #[.string s, .int .i64 (toE a y)]) ∧ Below w.heap.size w w' := by
  have hM := fun w => year_may y w
  have hT := fun w => num_Text y ky w
  cases hm : inB y (-32767) 32767
  · rw [hm] at hM
    rw [show toE a y = 1 by simp [toE, hm]]
    clear hm
    go_enter Tryd.func36, Tryd.ntmps36
    go_wp2_with (go_at_call 64; with_reducible refine (hM _).mono ?_; rintro e w' ⟨rfl, rfl⟩)
    go_ret2
    exact ⟨_, rfl, Below.refl _ _⟩
  · rw [hm] at hM
    have HM := Lib.hid hm
    clear hm
    by_cases h1 : y < a
    · rw [show toE a y = 14 by simp [toE, HM.out, h1]]
      go_enter Tryd.func36, Tryd.ntmps36
      go_wp2_with (go_at_call 64; with_reducible refine (hM _).mono ?_; rintro e w' ⟨rfl, rfl⟩)
      go_ret2
      exact ⟨_, rfl, Below.refl _ _⟩
    · rw [show toE a y = 0 by simp [toE, HM.out, h1]]
      by_cases h2 : y = a
      · subst h2
        go_enter Tryd.func36, Tryd.ntmps36
        go_wp2_with (go_at_call 64; with_reducible refine (hM _).mono ?_; rintro e w' ⟨rfl, rfl⟩)
        go_ret2
        exact ⟨_, rfl, Below.refl _ _⟩
      · have h2' : (y == a) = false := by simpa using h2
        by_cases h3 : y = 32767
        · subst h3
          go_enter Tryd.func36, Tryd.ntmps36
          go_wp2_with (go_at_call 64; with_reducible refine (hM _).mono ?_; rintro e w' ⟨rfl, rfl⟩)
          go_ret2
          exact ⟨_, rfl, Below.refl _ _⟩
        · have h3' : (y == 32767) = false := by simpa using h3
          go_enter Tryd.func36, Tryd.ntmps36
          go_wp2_with (first | (go_at_call 64; with_reducible refine (hM _).mono ?_; rintro e w' ⟨rfl, rfl⟩) | (go_at_call 65; refine (hT _).mono ?_; rintro e w1 ⟨rfl, hb⟩; obtain ⟨hc, hf⟩ := bcell hb; have z := hb.size; (try simp at z)))
          go_ret2
          exact ⟨_, rfl, by (focus (repeat' (first | exact Below.refl _ _ | refine Below.alloc ?_ ?_ _ | refine Below.setCell ?_ ?_ _ | refine Below.drew ?_ | refine below_drewN ?_ _ | refine Below.trans ?_ (Below.mono (by assumption) ?_) | refine Below.trans ?_ (Below.mono (BW.below _) ?_) | (simp; done) | (simp; omega) | omega)))⟩
theorem year_FromText (y : Int) (ky : I64 y) (w : World) : Calls Tryd.prog 37 #[.int .i64 y] w fun e w' => ∃ s, e = .returned (.tuple #[.string s, .int .i64 (fromE y)]) ∧ Below w.heap.size w w' := by
  have hM := fun w => year_may y w
  have hT := fun w => num_Text y ky w
  cases hm : inB y (-32767) 32767
  · rw [hm] at hM
    rw [show fromE y = 1 by simp [fromE, hm]]
    clear hm
    go_enter Tryd.func37, Tryd.ntmps37
    go_wp2_with (go_at_call 64; with_reducible refine (hM _).mono ?_; rintro e w' ⟨rfl, rfl⟩)
    go_ret2
    exact ⟨_, rfl, Below.refl _ _⟩
  · rw [hm] at hM
    have HM := Lib.hid hm
    rw [show fromE y = 0 by simp [fromE, hm]]
    clear hm
    by_cases h3 : y = -32767
    · subst h3
      go_enter Tryd.func37, Tryd.ntmps37
      go_wp2_with (go_at_call 64; with_reducible refine (hM _).mono ?_; rintro e w' ⟨rfl, rfl⟩)
      go_ret2
      exact ⟨_, rfl, Below.refl _ _⟩
    · have h3' : (y == -32767) = false := by simpa using h3
      go_enter Tryd.func37, Tryd.ntmps37
      go_wp2_with (first | (go_at_call 64; with_reducible refine (hM _).mono ?_; rintro e w' ⟨rfl, rfl⟩) | (go_at_call 65; refine (hT _).mono ?_; rintro e w1 ⟨rfl, hb⟩; obtain ⟨hc, hf⟩ := bcell hb; have z := hb.size; (try simp at z)))
      go_ret2
      exact ⟨_, rfl, by (focus (repeat' (first | exact Below.refl _ _ | refine Below.alloc ?_ ?_ _ | refine Below.setCell ?_ ?_ _ | refine Below.drew ?_ | refine below_drewN ?_ _ | refine Below.trans ?_ (Below.mono (by assumption) ?_) | refine Below.trans ?_ (Below.mono (BW.below _) ?_) | (simp; done) | (simp; omega) | omega)))⟩
end Go.Proofs.YtjddmcecllhlhaaDoor
