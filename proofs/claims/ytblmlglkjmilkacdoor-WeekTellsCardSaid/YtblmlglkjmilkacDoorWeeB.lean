/-
  Contracts of the days by their weeks: the program's.
-/
import Derived.Test.YtblmlglkjmilkacDoorCivE
import Derived.Test.YtblmlglkjmilkacDoorWeeA
namespace Go.Proofs.YtblmlglkjmilkacDoor
open Go.RowKit Cal
attribute [local go_sem] BW.cell BW.frozen

theorem day_14 {y : Int} (h0 : -40000 ≤ y) (h1 : y ≤ 40000) {d : Int} (hd0 : 1 ≤ d) (hd1 : d ≤ 31) : rightB y 1 d = true := (right_iff y 1 d).2 ⟨h0, h1, by omega, by omega, hd0, by simp [mlen]; omega⟩
theorem week_monday (n : Int) (h0 : -200000000 ≤ n) (h1 : n ≤ 200000000) (w : World) : Calls Tryd.prog 45 #[.int .i64 n] w fun e w' => e = .returned (.int .i64 (mon n)) ∧ Below w.heap.size w w' := by
  obtain ⟨b0, b1⟩ := wday_bd n
  have hw := fun w => civil_Weekday n (I64.sm (by omega)) w
  have e : mon n = n - (wday n + 7 - 1) % 7 := rfl
  rw [e]
  clear e
  generalize wday n = d at *
  go_enter Tryd.func45, Tryd.ntmps45
  go_wp2_with (go_at_call 23; refine (hw _).mono ?_; rintro e w1 ⟨rfl, hb⟩; obtain ⟨hc, hf⟩ := bcell hb; have z := hb.size; (try simp at z))
  go_ret
  exact ⟨rfl, by (focus (repeat' (first | exact Below.refl _ _ | refine Below.alloc ?_ ?_ _ | refine Below.setCell ?_ ?_ _ | refine Below.drew ?_ | refine below_drewN ?_ _ | refine Below.trans ?_ (Below.mono (by assumption) ?_) | refine Below.trans ?_ (Below.mono (BW.below _) ?_) | (simp; done) | (simp; omega) | omega)))⟩
theorem week_first (y : Int) (h0 : -40000 ≤ y) (h1 : y ≤ 40000) (w : World) : Calls Tryd.prog 47 #[.int .i64 y] w fun e w' => e = .returned (.int .i64 (wfst y)) ∧ Below w.heap.size w w' := by
  have hd := fun w => civil_Days y 1 4 (I64.sm (by omega)) w
  obtain ⟨r, e1, e2, _⟩ | ⟨r, _⟩ := day_cases y 1 4
  · rw [e1, e2] at hd
    obtain ⟨b0, b1⟩ := numb_bd y 1 4 (by omega)
    have hm := fun w => week_monday (numb y 1 4) (by omega) (by omega) w
    have e : wfst y = mon (numb y 1 4) := rfl
    rw [e]
    clear e e1 e2 r
    generalize numb y 1 4 = n at *
    go_enter Tryd.func47, Tryd.ntmps47
    go_wp2_with (first
      | (go_at_call 22; refine (hd _).mono ?_; rintro e w1 ⟨rfl, hb⟩; obtain ⟨hc, hf⟩ := bcell hb; have z := hb.size; (try simp at z))
      | (go_at_call 45; refine (hm _).mono ?_; rintro e w2 ⟨rfl, hb⟩; obtain ⟨hc, hf⟩ := bcell hb; have z := hb.size; (try simp at z)))
    go_ret
    exact ⟨rfl, by (focus (repeat' (first | exact Below.refl _ _ | refine Below.alloc ?_ ?_ _ | refine Below.setCell ?_ ?_ _ | refine Below.drew ?_ | refine below_drewN ?_ _ | refine Below.trans ?_ (Below.mono (by assumption) ?_) | refine Below.trans ?_ (Below.mono (BW.below _) ?_) | (simp; done) | (simp; omega) | omega)))⟩
  · rw [day_14 h0 h1 (by omega) (by omega)] at r
    cases r
theorem days_is {y m d : Int} (ky : I64 y) (h : rightB y m d = true) (w : World) : Calls Tryd.prog 22 #[dat y m d] w fun e w' => e = .returned (.tuple #[.int .i64 (numb y m d), .int .i64 0]) ∧ Below w.heap.size w w' := by
  have hd := civil_Days y m d ky w
  obtain ⟨_, e1, e2, _⟩ | ⟨r, _⟩ := day_cases y m d
  · rwa [e1, e2] at hd
  · rw [h] at r; cases r
theorem weeks_n {y : Int} (h : y < -39999 ∨ 39999 < y) : weeks y = 0 := by unfold weeks; rw [if_neg (by omega)]
theorem weeks_y {y : Int} (h0 : -39999 ≤ y) (h1 : y ≤ 39999) : weeks y = wksOf y := by unfold weeks; rw [if_pos ⟨h0, h1⟩]
theorem weekday_is {n d : Int} (kn : I64 n) (h : wday n = d) (w : World) : Calls Tryd.prog 23 #[.int .i64 n] w fun e w' => e = .returned (.int .i64 d) ∧ Below w.heap.size w w' := by
  subst h; exact civil_Weekday n kn w
set_option maxRecDepth 100000 in
theorem week_Weeks (y : Int) (w : World) : Calls Tryd.prog 15 #[.int .i64 y] w fun e w' => e = .returned (.int .i64 (weeks y)) ∧ Below w.heap.size w w' := by
  by_cases h0 : -39999 ≤ y
  · by_cases h1 : y ≤ 39999
    · rw [weeks_y h0 h1]
      have r1 : rightB y 1 1 = true := day_14 (by omega) (by omega) (by omega) (by omega)
      have r2 : rightB y 12 31 = true := (right_iff y 12 31).2 ⟨by omega, by omega, by omega, by omega, by omega, by simp [mlen]⟩
      have d1 := fun w => days_is (I64.sm (by omega)) r1 w
      have d2 := fun w => days_is (I64.sm (by omega)) r2 w
      have b1 := numb_bd y 1 1 (by omega)
      have b2 := numb_bd y 12 31 (by omega)
      unfold wksOf
      clear r1 r2
      have i0 : ∀ w, (Instr.index 89 (.agg #[.int .i64 y, .int .i64 1, .int .i64 1, .int .i64 y, .int .i64 12, .int .i64 31]) (.int .i64 0)).run Tryd.prog w = .ok (dat y 1 1) w := fun _ => by kernel_rfl
      have i1 : ∀ w, (Instr.index 89 (.agg #[.int .i64 y, .int .i64 1, .int .i64 1, .int .i64 y, .int .i64 12, .int .i64 31]) (.int .i64 1)).run Tryd.prog w = .ok (dat y 12 31) w := fun _ => by kernel_rfl
      generalize numb y 1 1 = a at *
      generalize numb y 12 31 = b at *
      have k1 : I64 a := I64.sm (by omega)
      have k2 : I64 b := I64.sm (by omega)
      clear b1 b2
      by_cases ha : wday a = 4
      · rw [if_pos (.inl ha)]
        have e1 := fun w => weekday_is k1 ha w
        clear ha k1 k2 d2
        go_enter Tryd.func15, Tryd.ntmps15
        go_wp2_with fail
        refine wp_loop_rounds 4 ?_
        rw [rounds_succ]
        go_wp2_with (first
          | (go_at_call 22; refine (d1 _).mono ?_; rintro e w1 ⟨rfl, hb⟩; obtain ⟨hc, hf⟩ := bcell hb; have z := hb.size; (try simp at z))
          | (go_at_call 23; refine (e1 _).mono ?_; rintro e w2 ⟨rfl, hb⟩; obtain ⟨hc, hf⟩ := bcell hb; have z := hb.size; (try simp at z)))
        go_ret
        exact ⟨rfl, by (focus (repeat' (first | exact Below.refl _ _ | refine Below.alloc ?_ ?_ _ | refine Below.setCell ?_ ?_ _ | refine Below.drew ?_ | refine below_drewN ?_ _ | refine Below.trans ?_ (Below.mono (by assumption) ?_) | refine Below.trans ?_ (Below.mono (BW.below _) ?_) | (simp; done) | (simp; omega) | omega)))⟩
      · have na : (wday a == 4) = false := by simpa using ha
        have wb := wday_bd a
        have e1 := fun w => civil_Weekday a k1 w
        by_cases hb' : wday b = 4
        · rw [if_pos (.inr hb')]
          have e2 := fun w => weekday_is k2 hb' w
          clear hb'
          generalize wday a = x at *
          go_enter Tryd.func15, Tryd.ntmps15
          go_wp2_with fail
          refine wp_loop_rounds 4 ?_
          rw [rounds_succ]
          go_wp2_with (first
            | (go_at_call 22; refine (d1 _).mono ?_; rintro e w1 ⟨rfl, hb⟩; obtain ⟨hc, hf⟩ := bcell hb; have z := hb.size; (try simp at z))
            | (go_at_call 23; refine (e1 _).mono ?_; rintro e w2 ⟨rfl, hb⟩; obtain ⟨hc, hf⟩ := bcell hb; have z := hb.size; (try simp at z)))
          rw [rounds_succ]
          go_wp2_with (first
            | (go_at_call 22; refine (d2 _).mono ?_; rintro e w3 ⟨rfl, hb⟩; obtain ⟨hc, hf⟩ := bcell hb; have z := hb.size; (try simp at z))
            | (go_at_call 23; refine (e2 _).mono ?_; rintro e w4 ⟨rfl, hb⟩; obtain ⟨hc, hf⟩ := bcell hb; have z := hb.size; (try simp at z)))
          go_ret
          exact ⟨rfl, by (focus (repeat' (first | exact Below.refl _ _ | refine Below.alloc ?_ ?_ _ | refine Below.setCell ?_ ?_ _ | refine Below.drew ?_ | refine below_drewN ?_ _ | refine Below.trans ?_ (Below.mono (by assumption) ?_) | refine Below.trans ?_ (Below.mono (BW.below _) ?_) | (simp; done) | (simp; omega) | omega)))⟩
        · rw [if_neg (by simp [ha, hb'])]
          have nb : (wday b == 4) = false := by simpa using hb'
          have e2 := fun w => civil_Weekday b k2 w
          clear ha hb'
          generalize wday a = x at *
          generalize wday b = z at *
          go_enter Tryd.func15, Tryd.ntmps15
          go_wp2_with fail
          refine wp_loop_rounds 4 ?_
          rw [rounds_succ]
          go_wp2_with (first
            | (go_at_call 22; refine (d1 _).mono ?_; rintro e w1 ⟨rfl, hb⟩; obtain ⟨hc, hf⟩ := bcell hb; have z := hb.size; (try simp at z))
            | (go_at_call 23; refine (e1 _).mono ?_; rintro e w2 ⟨rfl, hb⟩; obtain ⟨hc, hf⟩ := bcell hb; have z := hb.size; (try simp at z)))
          rw [rounds_succ]
          go_wp2_with (first
            | (go_at_call 22; refine (d2 _).mono ?_; rintro e w3 ⟨rfl, hb⟩; obtain ⟨hc, hf⟩ := bcell hb; have z := hb.size; (try simp at z))
            | (go_at_call 23; refine (e2 _).mono ?_; rintro e w4 ⟨rfl, hb⟩; obtain ⟨hc, hf⟩ := bcell hb; have z := hb.size; (try simp at z)))
          rw [rounds_succ]
          go_wp2_with fail
          go_ret
          exact ⟨rfl, by (focus (repeat' (first | exact Below.refl _ _ | refine Below.alloc ?_ ?_ _ | refine Below.setCell ?_ ?_ _ | refine Below.drew ?_ | refine below_drewN ?_ _ | refine Below.trans ?_ (Below.mono (by assumption) ?_) | refine Below.trans ?_ (Below.mono (BW.below _) ?_) | (simp; done) | (simp; omega) | omega)))⟩
    · rw [weeks_n (by omega)]
      have h1' : 39999 < y := by omega
      go_enter Tryd.func15, Tryd.ntmps15
      go_wp2
      go_ret
      exact ⟨rfl, by (focus (repeat' (first | exact Below.refl _ _ | refine Below.alloc ?_ ?_ _ | refine Below.setCell ?_ ?_ _ | refine Below.drew ?_ | refine below_drewN ?_ _ | refine Below.trans ?_ (Below.mono (by assumption) ?_) | refine Below.trans ?_ (Below.mono (BW.below _) ?_) | (simp; done) | (simp; omega) | omega)))⟩
  · rw [weeks_n (by omega)]
    have h0' : y < -39999 := by omega
    go_enter Tryd.func15, Tryd.ntmps15
    go_wp2
    go_ret
    exact ⟨rfl, by (focus (repeat' (first | exact Below.refl _ _ | refine Below.alloc ?_ ?_ _ | refine Below.setCell ?_ ?_ _ | refine Below.drew ?_ | refine below_drewN ?_ _ | refine Below.trans ?_ (Below.mono (by assumption) ?_) | refine Below.trans ?_ (Below.mono (BW.below _) ?_) | (simp; done) | (simp; omega) | omega)))⟩
end Go.Proofs.YtblmlglkjmilkacDoor
