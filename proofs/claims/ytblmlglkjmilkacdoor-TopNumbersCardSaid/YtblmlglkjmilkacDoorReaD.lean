/-
  Contracts of Whole and of the reference's rounding.
-/
import Derived.Test.YtblmlglkjmilkacDoorReaC
import Derived.Test.YtblmlglkjmilkacDoorFloL
namespace Go.Proofs.YtblmlglkjmilkacDoor
open Go.RowKit Flo
attribute [local go_sem] unary_neg_float

/-- What a number is told as, as a whole one; and the error. -/
def whE (b : Nat) (m : Int) : Int := if modB m = true then (if isnan b = true then 18 else if isinf b = false ∧ -9223372036854775808 ≤ rndI (wayM m) b ∧ rndI (wayM m) b ≤ 9223372036854775807 then 0 else 1) else 4
def whV (b : Nat) (m : Int) : Int := if whE b m = 0 then rndI (wayM m) b else 0

/-- A rounded number and the ends of the whole ones. -/
theorem ends_fin {b : Nat} (hf : fin b = true) (way : Ieee.Toward) : ∃ y, rdW way b = some y ∧ y < 18446744073709551616 ∧ isnan y = false ∧
    (FloatKind.f64.format.order y 4890909195324358656 == some Ordering.gt) = decide (9223372036854775808 < rndI way b) ∧ (FloatKind.f64.format.order y 4890909195324358656 == some Ordering.eq) = (rndI way b == 9223372036854775808) ∧
    (FloatKind.f64.format.order y 14114281232179134464 == some Ordering.lt) = decide (rndI way b < -9223372036854775808) ∧
    (-9223372036854775808 ≤ rndI way b ∧ rndI way b ≤ 9223372036854775807 → ∀ w : World, (convert 59 2 (.float .f64 y)).run Tryd.prog w = .ok (.int .i64 (rndI way b)) w) := by
  obtain ⟨y, e, hl, fy, hs, hm, hv, ht⟩ := round_word hf way
  have ny := fin_nan fy
  refine ⟨y, by simp [rdW, fin_nan hf, e], hl, ny, ?_, ?_, ?_, ?_⟩
  · have := ov_gt ny i_63.1
    rw [i_63.2, hv] at this
    exact this.trans (decide_eq_decide.2 mul_U_lt)
  · have := ov_eq ny i_63.1
    rw [i_63.2, hv] at this
    refine this.trans ?_
    rw [Bool.eq_iff_iff, decide_eq_true_iff, mul_U_eq, beq_iff_eq]
  · have := ov_lt ny i_m63.1
    rw [i_m63.2, hv, ← Int.neg_mul] at this
    exact this.trans (decide_eq_decide.2 mul_U_lt)
  · intro h w
    refine run_convert_float_int w _ _ _ _ _ _ (by kernel_rfl) (by kernel_rfl) ?_
    have := conv_of fy (by rw [ht]; exact h)
    rw [ht] at this; exact this
theorem ends_inf {b : Nat} (hb : b < 18446744073709551616) (hi : isnan b = false ∧ rg b = 9218868437227405312) (way : Ieee.Toward) : rdW way b = some b ∧
    (((FloatKind.f64.format.order b 4890909195324358656 == some Ordering.gt) = true ∧ (FloatKind.f64.format.order b 14114281232179134464 == some Ordering.lt) = false) ∨ ((FloatKind.f64.format.order b 4890909195324358656 == some Ordering.gt) = false ∧ (FloatKind.f64.format.order b 4890909195324358656 == some Ordering.eq) = false ∧ (FloatKind.f64.format.order b 14114281232179134464 == some Ordering.lt) = true)) := by
  refine ⟨by simp [rdW, hi.1, round_inf hb hi.2], ?_⟩
  have c1 : isnan 4890909195324358656 = false ∧ rg 4890909195324358656 = 4890909195324358656 ∧ plc 4890909195324358656 = 4890909195324358656 := by decide
  have c2 : isnan 14114281232179134464 = false ∧ rg 14114281232179134464 = 4890909195324358656 ∧ plc 14114281232179134464 = -4890909195324358657 := by decide
  have g := ord_gt hi.1 c1.1
  have e := ord_eq hi.1 c1.1
  have l := ord_lt hi.1 c2.1
  have p := plc_num hi.1
  rw [c1.2.1, c1.2.2, hi.2] at g e
  rw [c2.2.1, c2.2.2, hi.2] at l
  rw [hi.2] at p
  rcases p with ⟨_, p, _⟩ | ⟨_, p, _⟩
  · rw [p] at g e l
    exact .inr ⟨g, e, l⟩
  · rw [p] at g e l
    exact .inl ⟨g, l⟩
theorem whE_n {b : Nat} {m : Int} (h : modB m = false) : whE b m = 4 ∧ whV b m = 0 := by
  have e : whE b m = 4 := by simp [whE, h]
  exact ⟨e, by simp [whV, e]⟩
theorem whE_nan {b : Nat} {m : Int} (h : modB m = true) (hn : isnan b = true) : whE b m = 18 ∧ whV b m = 0 := by
  have e : whE b m = 18 := by simp [whE, h, hn]
  exact ⟨e, by simp [whV, e]⟩
theorem whE_r {b : Nat} {m : Int} (h : modB m = true) (hn : isnan b = false) (hr : ¬ (isinf b = false ∧ -9223372036854775808 ≤ rndI (wayM m) b ∧ rndI (wayM m) b ≤ 9223372036854775807)) : whE b m = 1 ∧ whV b m = 0 := by
  have e : whE b m = 1 := by unfold whE; rw [if_pos h, hn, if_neg (by simp), if_neg hr]
  exact ⟨e, by simp [whV, e]⟩
theorem whE_y {b : Nat} {m : Int} (h : modB m = true) (hn : isnan b = false) (hr : isinf b = false ∧ -9223372036854775808 ≤ rndI (wayM m) b ∧ rndI (wayM m) b ≤ 9223372036854775807) : whE b m = 0 ∧ whV b m = rndI (wayM m) b := by
  have e : whE b m = 0 := by unfold whE; rw [if_pos h, hn, if_neg (by simp), if_pos hr]
  exact ⟨e, by simp [whV, e]⟩
theorem rd_y {b : Nat} {m : Int} (h : modB m = true) : rdV b m = rdW (wayM m) b ∧ rdE m = 0 := by simp [rdV, rdE, h]
theorem rd_n {b : Nat} {m : Int} (h : modB m = false) : rdV b m = some 0 ∧ rdE m = 4 := by simp [rdV, rdE, h]

theorem real_Whole (b : Nat) (m : Int) (hb : b < 18446744073709551616) (w : World) : Calls Tryd.prog 34 #[.float .f64 b, .int .i64 m] w fun e w' => e = .returned (.tuple #[.int .i64 (whV b m), .int .i64 (whE b m)]) ∧ Below w.heap.size w w' := by
  have hR := fun w => real_Round b m hb w
  cases hm : modB m
  · rw [(whE_n hm).1, (whE_n hm).2]
    rw [(rd_n (b := b) hm).1, (rd_n (b := b) hm).2] at hR
    clear hm
    go_enter Tryd.func34, Tryd.ntmps34
    go_wp2_with (go_at_call 70; refine (hR _).mono ?_; rintro e w1 ⟨y, rfl, HY, hbw⟩)
    go_ret2
    exact ⟨rfl, hbw⟩
  rw [(rd_y (b := b) hm).1, (rd_y (b := b) hm).2] at hR
  cases hn : isnan b
  · rcases six b with ⟨h, _⟩ | ⟨_, hi, h⟩ | ⟨_, hi, _, hf⟩
    · rw [hn] at h; cases h
    · rw [(whE_r hm hn (by simp [hi])).1, (whE_r hm hn (by simp [hi])).2]
      obtain ⟨e, hc⟩ := ends_inf hb ⟨hn, h⟩ (wayM m)
      rw [e] at hR
      have hN := fun w => math_IsNaN b w
      rw [hn] at hN
      clear hm hn hi h e
      rcases hc with ⟨g, l⟩ | ⟨g, e, l⟩
      all_goals
        go_enter Tryd.func34, Tryd.ntmps34
        go_wp2_with (first
          | (go_at_call 70; refine (hR _).mono ?_; rintro e w1 ⟨y, rfl, HY, hbw⟩; obtain ⟨rfl, _⟩ := nz_eq_some HY.out.2; clear HY)
          | (go_at_call 71; refine (hN _).mono ?_; rintro e w' ⟨rfl, rfl⟩))
        go_ret2
        exact ⟨rfl, hbw⟩
    · obtain ⟨Y, e, hl, ny, g, q, l, cv⟩ := ends_fin hf (wayM m)
      rw [e] at hR
      have hN := fun w => math_IsNaN Y w
      rw [ny] at hN
      by_cases hr : -9223372036854775808 ≤ rndI (wayM m) b ∧ rndI (wayM m) b ≤ 9223372036854775807
      · rw [(whE_y hm hn ⟨hi, hr⟩).1, (whE_y hm hn ⟨hi, hr⟩).2]
        have cv := cv hr
        rw [decide_eq_false (by omega)] at g l
        have q' : (rndI (wayM m) b == 9223372036854775808) = false := by simp; omega
        rw [q'] at q
        clear hm hn hi hf e ny hr q' hl
        generalize rndI (wayM m) b = W at *
        go_enter Tryd.func34, Tryd.ntmps34
        go_wp2_with (first
          | (go_at_call 70; refine (hR _).mono ?_; rintro e w1 ⟨y, rfl, HY, hbw⟩; obtain ⟨rfl, _⟩ := nz_eq_some HY.out.2; clear HY)
          | (go_at_call 71; refine (hN _).mono ?_; rintro e w' ⟨rfl, rfl⟩))
        go_ret2
        exact ⟨rfl, hbw⟩
      · rw [(whE_r hm hn (fun h => hr h.2)).1, (whE_r hm hn (fun h => hr h.2)).2]
        clear cv
        rcases Int.lt_trichotomy (rndI (wayM m) b) (-9223372036854775808) with h | h | h
        · rw [decide_eq_true h] at l
          clear hm hn hi hf e ny hr hl h g q
          go_enter Tryd.func34, Tryd.ntmps34
          go_wp2_with (first
            | (go_at_call 70; refine (hR _).mono ?_; rintro e w1 ⟨y, rfl, HY, hbw⟩; obtain ⟨rfl, _⟩ := nz_eq_some HY.out.2; clear HY)
            | (go_at_call 71; refine (hN _).mono ?_; rintro e w' ⟨rfl, rfl⟩))
          go_ret2
          exact ⟨rfl, hbw⟩
        · exfalso; omega
        · rw [decide_eq_false (by omega)] at l
          by_cases h2 : 9223372036854775808 < rndI (wayM m) b
          · rw [decide_eq_true h2] at g
            clear hm hn hi hf e ny hr hl h q h2
            go_enter Tryd.func34, Tryd.ntmps34
            go_wp2_with (first
              | (go_at_call 70; refine (hR _).mono ?_; rintro e w1 ⟨y, rfl, HY, hbw⟩; obtain ⟨rfl, _⟩ := nz_eq_some HY.out.2; clear HY)
              | (go_at_call 71; refine (hN _).mono ?_; rintro e w' ⟨rfl, rfl⟩))
            go_ret2
            exact ⟨rfl, hbw⟩
          · rw [decide_eq_false h2] at g
            have q' : (rndI (wayM m) b == 9223372036854775808) = true := by simp; omega
            rw [q'] at q
            clear hm hn hi hf e ny hr hl h q' h2
            go_enter Tryd.func34, Tryd.ntmps34
            go_wp2_with (first
              | (go_at_call 70; refine (hR _).mono ?_; rintro e w1 ⟨y, rfl, HY, hbw⟩; obtain ⟨rfl, _⟩ := nz_eq_some HY.out.2; clear HY)
              | (go_at_call 71; refine (hN _).mono ?_; rintro e w' ⟨rfl, rfl⟩))
            go_ret2
            exact ⟨rfl, hbw⟩
  · rw [(whE_nan hm hn).1, (whE_nan hm hn).2]
    rw [show rdW (wayM m) b = none by simp [rdW, hn]] at hR
    have hN := fun w y => math_IsNaN y w
    clear hm hn
    go_enter Tryd.func34, Tryd.ntmps34
    go_wp2_with (first
      | (go_at_call 70; refine (hR _).mono ?_; rintro e w1 ⟨y, rfl, HY, hbw⟩; have hy := nz_eq_none HY.out.2; clear HY; have hN := fun w => math_IsNaN y w; rw [hy] at hN; clear hy)
      | (go_at_call 71; ((with_reducible refine (hN _).mono ?_); rintro e w' ⟨rfl, rfl⟩)))
    go_ret2
    exact ⟨rfl, hbw⟩
end Go.Proofs.YtblmlglkjmilkacDoor
