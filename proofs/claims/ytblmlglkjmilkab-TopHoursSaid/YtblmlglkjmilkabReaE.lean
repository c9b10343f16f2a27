/-
  Contracts of the reference's rounding.
-/
import Derived.Test.YtblmlglkjmilkabReaD
namespace Go.Proofs.Ytblmlglkjmilkab
open Go.RowKit Flo
attribute [local go_sem] unary_neg_float

/-- The facts that the reference's steps ask for. -/
theorem whole_facts {b : Nat} (hf : fin b = true) (hm : mag b < 4503599627370496 * U) : -4503599627370496 < tr b ∧ tr b < 4503599627370496 ∧
    (∀ w : World, (convert 28 2 (.float .f64 b)).run Try.prog w = .ok (.int .i64 (tr b)) w) ∧
    ∃ d, (∀ (t : TypeId) (w : World), (binOp .sub t (.float .f64 b) (.float .f64 (floatOfInt .f64 (tr b)))).run Try.prog w = .ok (.float .f64 d) w) ∧
      (FloatKind.f64.format.order d 0 == some Ordering.lt) = decide (lft b < 0) ∧ (FloatKind.f64.format.order d 0 == some Ordering.gt) = decide (0 < lft b) ∧
      (FloatKind.f64.format.order d 4602678819172646912 == some Ordering.gt) = decide ((H : Int) < lft b) ∧ (FloatKind.f64.format.order d 4602678819172646912 == some Ordering.eq) = decide (lft b = (H : Int)) ∧
      (FloatKind.f64.format.order d 13826050856027422720 == some Ordering.lt) = decide (lft b < -(H : Int)) ∧ (FloatKind.f64.format.order d 13826050856027422720 == some Ordering.eq) = decide (lft b = -(H : Int)) := by
  have h1 : mag b / U < 4503599627370496 := (Nat.div_lt_iff_lt_mul U_pos).2 hm
  have ht := tr_nat b
  have i := int_is (n := tr b) (by omega)
  obtain ⟨d, hd, ld, fd, vd⟩ := rest_is hf i
  have nd := fin_nan fd
  refine ⟨by omega, by omega, fun w => ?_, d, fun t w => run_float_arith w .sub t .f64 _ _ _ hd, ?_, ?_, ?_, ?_, ?_, ?_⟩
  · exact run_convert_float_int w _ _ _ _ _ _ (by kernel_rfl) (by kernel_rfl) (conv_of hf (by omega))
  · have := ov_lt nd i_0.1
    rwa [i_0.2, vd] at this
  · have := ov_gt nd i_0.1
    rwa [i_0.2, vd] at this
  · have := ov_gt nd i_H.1
    rwa [i_H.2, vd] at this
  · have := ov_eq nd i_H.1
    rwa [i_H.2, vd] at this
  · have := ov_lt nd i_mH.1
    rwa [i_mH.2, vd] at this
  · have := ov_eq nd i_mH.1
    rwa [i_mH.2, vd] at this

set_option maxHeartbeats 1000000 in
theorem ref02_whole (b : Nat) (m : Int) (hf : fin b = true) (hb : mag b < 4503599627370496 * U) (hm : modB m = true) (w : World) : Calls Try.prog 99 #[.float .f64 b, .int .i64 m] w fun e w' => e = .returned (.int .i64 (rndI (wayM m) b)) ∧ w = w' := by
  obtain ⟨t0, t1, cv, d, sb, o1, o2, o3, o4, o5, o6⟩ := whole_facts hf hb
  have rd := rnd_down b
  have ru := rnd_up b
  have rz := rnd_zero b
  have re := rnd_even b
  have hH := H_pos
  clear hf hb
  generalize tr b = n at *
  generalize lft b = f at *
  rcases mod_cases m with rfl | rfl | rfl | rfl | ⟨h, _⟩
  · rw [show wayM 1 = .down from rfl, rd]
    clear rd ru rz re hm o2 o3 o4 o5 o6
    by_cases h : f < 0
    · rw [if_pos h]; rw [decide_eq_true h] at o1
      clear h
      go_enter Try.func99, Try.ntmps99
      go_wp2
      go_ret
      exact ⟨rfl, rfl⟩
    · rw [if_neg h]; rw [decide_eq_false h] at o1
      clear h
      go_enter Try.func99, Try.ntmps99
      go_wp2
      go_ret
      exact ⟨ret_int (by omega), rfl⟩
  · rw [show wayM 2 = .up from rfl, ru]
    clear rd ru rz re hm o1 o3 o4 o5 o6
    by_cases h : 0 < f
    · rw [if_pos h]; rw [decide_eq_true h] at o2
      clear h
      go_enter Try.func99, Try.ntmps99
      go_wp2
      go_ret
      exact ⟨rfl, rfl⟩
    · rw [if_neg h]; rw [decide_eq_false h] at o2
      clear h
      go_enter Try.func99, Try.ntmps99
      go_wp2
      go_ret
      exact ⟨ret_int (by omega), rfl⟩
  · rw [show wayM 3 = .zero from rfl, rz]
    clear rd ru rz re hm o1 o2 o3 o4 o5 o6
    go_enter Try.func99, Try.ntmps99
    go_wp2
    go_ret
    exact ⟨rfl, rfl⟩
  · rw [show wayM 4 = .even from rfl]
    have key : ∃ v1 v2 v3 v4 v5 : Bool, decide ((H : Int) < f) = v1 ∧ decide (f = (H : Int)) = v2 ∧ decide (f < -(H : Int)) = v3 ∧ decide (f = -(H : Int)) = v4 ∧ (n.tmod 2 != 0) = v5 ∧
        rndI .even b = n + (if v1 = true ∨ (v2 = true ∧ v5 = true) then 1 else 0) - (if v3 = true ∨ (v4 = true ∧ v5 = true) then 1 else 0) ∧ ¬ (v1 = true ∧ v2 = true) ∧ ¬ ((v1 = true ∨ v2 = true) ∧ (v3 = true ∨ v4 = true)) ∧ ¬ (v3 = true ∧ v4 = true) := by
      refine ⟨_, _, _, _, _, rfl, rfl, rfl, rfl, rfl, ?_, ?_, ?_, ?_⟩
      · rw [re]; simp
      · simp; omega
      · simp; omega
      · simp; omega
    clear rd ru rz re hm o1 o2
    obtain ⟨v1, v2, v3, v4, v5, e1, e2, e3, e4, e5, er, c1, c2, c3⟩ := key
    rw [e1] at o3; rw [e2] at o4; rw [e3] at o5; rw [e4] at o6
    rw [er]
    clear e1 e2 e3 e4 er hH
    cases v1 <;> cases v2 <;> cases v3 <;> cases v4 <;> first | (exfalso; simp at c1 c2 c3; done) | skip
    all_goals
      clear c1 c2 c3
      cases v5
      all_goals
        go_enter Try.func99, Try.ntmps99
        go_wp2
        go_ret
        exact ⟨ret_int (by simp), rfl⟩
  · rw [hm] at h; cases h
end Go.Proofs.Ytblmlglkjmilkab
