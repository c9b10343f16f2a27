/-
  Contracts of the reference's Round and Whole.
-/
import Derived.Test.YtblmlglkjmilkabReaE
namespace Go.Proofs.Ytblmlglkjmilkab
open Go.RowKit Flo
attribute [local go_sem] unary_neg_float

theorem ref02_Round_self (b : Nat) (m : Int) (hb : b < 18446744073709551616) (hm : modB m = true) (hk : knd b ≠ 2 ∧ knd b ≠ 5) (w : World) : Calls Try.prog 56 #[.float .f64 b, .int .i64 m] w (GFE w (rdV b m) (rdE m)) := by
  have E : nz b = rdV b m := by
    rw [(rd_y (b := b) hm).1]
    cases hn : isnan b
    · have k0 : knd b ≠ 0 := by
        intro h0
        have := knd_nan b
        rw [hn, h0] at this; cases this
      rw [nz_some hn]; simp [rdW, hn, kinds_self hb k0 hk.1 hk.2]
    · rw [nz_none hn]; simp [rdW, hn]
  have HY := Lib.hid (show b < 18446744073709551616 ∧ nz b = rdV b m from ⟨hb, E⟩)
  have hM := fun w => ref02_mode m w
  have hK := fun w => ref02_Kind b w
  rw [hm] at hM
  rw [(rd_y (b := b) hm).2]
  have k2 : (knd b != 2) = true := by simpa using hk.1
  have k5 : (knd b != 5) = true := by simpa using hk.2
  clear E hm hk hb
  generalize knd b = k at *
  go_enter Try.func56, Try.ntmps56
  go_wp2_with (first
    | (go_at_call 98; refine (hM _).mono ?_; rintro e w' ⟨rfl, rfl⟩)
    | (go_at_call 61; refine (hK _).mono ?_; rintro e w' ⟨rfl, rfl⟩))
  go_ret2
  exact ⟨b, rfl, HY, Below.refl _ _⟩

theorem big_facts {b : Nat} (hk : knd b = 2 ∨ knd b = 5) (hm : 4503599627370496 * U ≤ mag b) :
    (knd b = 5 ∧ ((FloatKind.f64.format.order b 4841369599423283200 == some Ordering.gt) = true ∨ ((FloatKind.f64.format.order b 4841369599423283200 == some Ordering.gt) = false ∧ (FloatKind.f64.format.order b 4841369599423283200 == some Ordering.eq) = true))) ∨
    (knd b = 2 ∧ (FloatKind.f64.format.order b 4841369599423283200 == some Ordering.gt) = false ∧ (FloatKind.f64.format.order b 4841369599423283200 == some Ordering.eq) = false ∧
      ((FloatKind.f64.format.order b 14064741636278059008 == some Ordering.lt) = true ∨ ((FloatKind.f64.format.order b 14064741636278059008 == some Ordering.lt) = false ∧ (FloatKind.f64.format.order b 14064741636278059008 == some Ordering.eq) = true))) := by
  obtain ⟨hf, hs, hp⟩ := kinds_fin hk
  have n := fin_nan hf
  have g := ov_gt n i_52.1
  have e := ov_eq n i_52.1
  have l := ov_lt n i_m52.1
  have q := ov_eq n i_m52.1
  rw [i_52.2] at g e
  rw [i_m52.2] at l q
  have hm' : 4503599627370496 * (U : Int) ≤ (mag b : Int) := by
    have : ((4503599627370496 * U : Nat) : Int) ≤ (mag b : Int) := Int.ofNat_le.2 hm
    rwa [Int.natCast_mul] at this
  rcases hk with h | h
  · right
    have hv : val b = -(mag b : Int) := by
      rcases val_sign b with ⟨s, v⟩ | ⟨s, v⟩
      · exact v
      · have := hs.2 h; rw [s] at this; cases this
    rw [hv] at g e l q
    have pU : 0 < 4503599627370496 * (U : Int) := by have := U_pos; omega
    refine ⟨h, g.trans (decide_eq_false (by omega)), e.trans (decide_eq_false (by omega)), ?_⟩
    by_cases hh : (mag b : Int) = 4503599627370496 * (U : Int)
    · exact .inr ⟨l.trans (decide_eq_false (by omega)), q.trans (decide_eq_true (by omega))⟩
    · exact .inl (l.trans (decide_eq_true (by omega)))
  · left
    have hv : val b = (mag b : Int) := by
      rcases val_sign b with ⟨s, v⟩ | ⟨s, v⟩
      · have := hs.1 s; omega
      · exact v
    rw [hv] at g e
    refine ⟨h, ?_⟩
    by_cases hh : (mag b : Int) = 4503599627370496 * (U : Int)
    · exact .inr ⟨g.trans (decide_eq_false (by omega)), e.trans (decide_eq_true (by omega))⟩
    · exact .inl (g.trans (decide_eq_true (by omega)))
theorem small_facts {b : Nat} (hf : fin b = true) (hm : mag b < 4503599627370496 * U) :
    (FloatKind.f64.format.order b 4841369599423283200 == some Ordering.gt) = false ∧ (FloatKind.f64.format.order b 4841369599423283200 == some Ordering.eq) = false ∧ (FloatKind.f64.format.order b 14064741636278059008 == some Ordering.lt) = false ∧ (FloatKind.f64.format.order b 14064741636278059008 == some Ordering.eq) = false := by
  have n := fin_nan hf
  have g := ov_gt n i_52.1
  have e := ov_eq n i_52.1
  have l := ov_lt n i_m52.1
  have q := ov_eq n i_m52.1
  rw [i_52.2] at g e
  rw [i_m52.2] at l q
  have hm' : (mag b : Int) < 4503599627370496 * (U : Int) := by
    have : (mag b : Int) < ((4503599627370496 * U : Nat) : Int) := Int.ofNat_lt.2 hm
    rwa [Int.natCast_mul] at this
  have pm : (0 : Int) ≤ mag b := Int.natCast_nonneg _
  rcases val_sign b with ⟨_, v⟩ | ⟨_, v⟩ <;> rw [v] at g e l q <;>
    exact ⟨g.trans (decide_eq_false (by omega)), e.trans (decide_eq_false (by omega)), l.trans (decide_eq_false (by omega)), q.trans (decide_eq_false (by omega))⟩

theorem ref02_Round_big (b : Nat) (m : Int) (hb : b < 18446744073709551616) (hm : modB m = true) (hk : knd b = 2 ∨ knd b = 5) (hg : 4503599627370496 * U ≤ mag b) (w : World) : Calls Try.prog 56 #[.float .f64 b, .int .i64 m] w (GFE w (rdV b m) (rdE m)) := by
  have E : nz b = rdV b m := by
    have hf := (kinds_fin hk).1
    have hn := fin_nan hf
    rw [(rd_y (b := b) hm).1, nz_some hn]
    simp [rdW, hn, round_self hb hf _ (big_whole hg)]
  have HY := Lib.hid (show b < 18446744073709551616 ∧ nz b = rdV b m from ⟨hb, E⟩)
  have hM := fun w => ref02_mode m w
  have hK := fun w => ref02_Kind b w
  rw [hm] at hM
  rw [(rd_y (b := b) hm).2]
  have B := big_facts hk hg
  clear E hm hk hb hg
  rcases B with ⟨k, B⟩ | ⟨k, g, e, B⟩
  · rw [k] at hK
    rcases B with B | ⟨B, C⟩
    all_goals
      go_enter Try.func56, Try.ntmps56
      go_wp2_with (first
        | (go_at_call 98; refine (hM _).mono ?_; rintro e w' ⟨rfl, rfl⟩)
        | (go_at_call 61; refine (hK _).mono ?_; rintro e w' ⟨rfl, rfl⟩))
      go_ret2
      exact ⟨b, rfl, HY, Below.refl _ _⟩
  · rw [k] at hK
    rcases B with B | ⟨B, C⟩
    all_goals
      go_enter Try.func56, Try.ntmps56
      go_wp2_with (first
        | (go_at_call 98; refine (hM _).mono ?_; rintro e w' ⟨rfl, rfl⟩)
        | (go_at_call 61; refine (hK _).mono ?_; rintro e w' ⟨rfl, rfl⟩))
      go_ret2
      exact ⟨b, rfl, HY, Below.refl _ _⟩
theorem ref02_Round_small (b : Nat) (m : Int) (hb : b < 18446744073709551616) (hm : modB m = true) (hk : knd b = 2 ∨ knd b = 5) (hg : mag b < 4503599627370496 * U) (w : World) : Calls Try.prog 56 #[.float .f64 b, .int .i64 m] w (GFE w (rdV b m) (rdE m)) := by
  obtain ⟨hf, hs, _⟩ := kinds_fin hk
  have hn := fin_nan hf
  have hW := fun w => ref02_whole b m hf hg hm w
  have hle := rndI_le (wayM m) hg
  have ic := int_is (n := rndI (wayM m) b) (by omega)
  have rr := round_ref hf hg (wayM m) ic
  obtain ⟨o1, o2, o3, o4⟩ := small_facts hf hg
  have hM := fun w => ref02_mode m w
  have hK := fun w => ref02_Kind b w
  rw [hm] at hM
  have oz : (FloatKind.f64.format.order (floatOfInt .f64 (rndI (wayM m) b)) 0 == some Ordering.eq) = decide (rndI (wayM m) b = 0) := by
    have := ov_eq (fin_nan ic.fin) i_0.1
    rw [i_0.2, ic.val] at this
    exact this.trans (decide_eq_decide.2 int_mul_zero)
  have ez : rdV b m = some (if rndI (wayM m) b = 0 ∧ sg b = true then Op.negFloat .f64 (floatOfInt .f64 (rndI (wayM m) b)) else floatOfInt .f64 (rndI (wayM m) b)) := by
    rw [(rd_y (b := b) hm).1]; simp only [rdW, hn, Bool.false_eq_true, if_false, rr]
  have lc := ic.lt
  have nc := fin_nan ic.fin
  rw [(rd_y (b := b) hm).2]
  by_cases h0 : rndI (wayM m) b = 0
  · rw [decide_eq_true h0] at oz
    rcases hk with k | k
    · have E := Lib.hid (show Op.negFloat .f64 (floatOfInt .f64 (rndI (wayM m) b)) < 18446744073709551616 ∧ nz (Op.negFloat .f64 (floatOfInt .f64 (rndI (wayM m) b))) = rdV b m by
        rw [ez, if_pos ⟨h0, hs.2 k⟩]; exact ⟨neg_lt lc, nz_some ((nan_neg lc).trans nc)⟩)
      rw [k] at hK
      clear ez h0 rr hle ic hs hm hg hf hn lc nc k hb
      generalize rndI (wayM m) b = W at *
      go_enter Try.func56, Try.ntmps56
      go_wp2_with (first
        | (go_at_call 98; refine (hM _).mono ?_; rintro e w' ⟨rfl, rfl⟩)
        | (go_at_call 99; refine (hW _).mono ?_; rintro e w' ⟨rfl, rfl⟩)
        | (go_at_call 61; refine (hK _).mono ?_; rintro e w' ⟨rfl, rfl⟩))
      go_ret2
      exact ⟨_, rfl, E, Below.refl _ _⟩
    · have E := Lib.hid (show floatOfInt .f64 (rndI (wayM m) b) < 18446744073709551616 ∧ nz (floatOfInt .f64 (rndI (wayM m) b)) = rdV b m by
        rw [ez, if_neg (fun h => by have := hs.1 h.2; omega)]; exact ⟨lc, nz_some nc⟩)
      rw [k] at hK
      clear ez h0 rr hle ic hs hm hg hf hn lc nc k hb
      generalize rndI (wayM m) b = W at *
      go_enter Try.func56, Try.ntmps56
      go_wp2_with (first
        | (go_at_call 98; refine (hM _).mono ?_; rintro e w' ⟨rfl, rfl⟩)
        | (go_at_call 99; refine (hW _).mono ?_; rintro e w' ⟨rfl, rfl⟩)
        | (go_at_call 61; refine (hK _).mono ?_; rintro e w' ⟨rfl, rfl⟩))
      go_ret2
      exact ⟨_, rfl, E, Below.refl _ _⟩
  · rw [decide_eq_false h0] at oz
    have E := Lib.hid (show floatOfInt .f64 (rndI (wayM m) b) < 18446744073709551616 ∧ nz (floatOfInt .f64 (rndI (wayM m) b)) = rdV b m by
      rw [ez, if_neg (fun h => h0 h.1)]; exact ⟨lc, nz_some nc⟩)
    clear ez h0 rr hle ic hs hm hg hf hn lc nc hb
    rcases hk with k | k
    all_goals
      rw [k] at hK
      clear k
      generalize rndI (wayM m) b = W at *
      go_enter Try.func56, Try.ntmps56
      go_wp2_with (first
        | (go_at_call 98; refine (hM _).mono ?_; rintro e w' ⟨rfl, rfl⟩)
        | (go_at_call 99; refine (hW _).mono ?_; rintro e w' ⟨rfl, rfl⟩)
        | (go_at_call 61; refine (hK _).mono ?_; rintro e w' ⟨rfl, rfl⟩))
      go_ret2
      exact ⟨_, rfl, E, Below.refl _ _⟩
theorem ref02_Round (b : Nat) (m : Int) (hb : b < 18446744073709551616) (w : World) : Calls Try.prog 56 #[.float .f64 b, .int .i64 m] w (GFE w (rdV b m) (rdE m)) := by
  cases hm : modB m
  · rw [(rd_n (b := b) hm).1, (rd_n (b := b) hm).2]
    have hM := fun w => ref02_mode m w
    rw [hm] at hM
    clear hm hb
    go_enter Try.func56, Try.ntmps56
    go_wp2_with (go_at_call 98; refine (hM _).mono ?_; rintro e w' ⟨rfl, rfl⟩)
    go_ret2
    exact ⟨0, rfl, Lib.hid ⟨by decide, by decide⟩, Below.refl _ _⟩
  · by_cases hk : knd b = 2 ∨ knd b = 5
    · by_cases hg : mag b < 4503599627370496 * U
      · exact ref02_Round_small b m hb hm hk hg w
      · exact ref02_Round_big b m hb hm hk (by omega) w
    · exact ref02_Round_self b m hb hm (by omega) w
theorem ref02_Whole (b : Nat) (m : Int) (hb : b < 18446744073709551616) (w : World) : Calls Try.prog 58 #[.float .f64 b, .int .i64 m] w fun e w' => e = .returned (.tuple #[.int .i64 (whV b m), .int .i64 (whE b m)]) ∧ Below w.heap.size w w' := by
  have hR := fun w => ref02_Round b m hb w
  cases hm : modB m
  · rw [(whE_n hm).1, (whE_n hm).2]
    rw [(rd_n (b := b) hm).1, (rd_n (b := b) hm).2] at hR
    clear hm
    go_enter Try.func58, Try.ntmps58
    go_wp2_with (go_at_call 56; refine (hR _).mono ?_; rintro e w1 ⟨y, rfl, HY, hbw⟩)
    go_ret2
    exact ⟨rfl, hbw⟩
  rw [(rd_y (b := b) hm).1, (rd_y (b := b) hm).2] at hR
  cases hn : isnan b
  · rcases six b with ⟨h, _⟩ | ⟨_, hi, h⟩ | ⟨_, hi, _, hf⟩
    · rw [hn] at h; cases h
    · rw [(whE_r hm hn (by simp [hi])).1, (whE_r hm hn (by simp [hi])).2]
      obtain ⟨e, hc⟩ := ends_inf hb ⟨hn, h⟩ (wayM m)
      rw [e] at hR
      have hN := fun w => ref02_Kind b w
      have k0 : (knd b == 0) = false := (knd_nan b).symm.trans hn
      clear hm hn hi h e
      rcases hc with ⟨g, l⟩ | ⟨g, e, l⟩
      all_goals
        go_enter Try.func58, Try.ntmps58
        go_wp2_with (first
          | (go_at_call 56; refine (hR _).mono ?_; rintro e w1 ⟨y, rfl, HY, hbw⟩; obtain ⟨rfl, _⟩ := nz_eq_some HY.out.2; clear HY)
          | (go_at_call 61; refine (hN _).mono ?_; rintro e w' ⟨rfl, rfl⟩))
        go_ret2
        exact ⟨rfl, hbw⟩
    · obtain ⟨Y, e, hl, ny, g, q, l, cv⟩ := ends_fin hf (wayM m)
      rw [e] at hR
      have hN := fun w => ref02_Kind Y w
      have k0 : (knd Y == 0) = false := (knd_nan Y).symm.trans ny
      by_cases hr : -9223372036854775808 ≤ rndI (wayM m) b ∧ rndI (wayM m) b ≤ 9223372036854775807
      · rw [(whE_y hm hn ⟨hi, hr⟩).1, (whE_y hm hn ⟨hi, hr⟩).2]
        have cv := cv hr
        rw [decide_eq_false (by omega)] at g l
        have q' : (rndI (wayM m) b == 9223372036854775808) = false := by simp; omega
        rw [q'] at q
        clear hm hn hi hf e ny hr q' hl
        generalize rndI (wayM m) b = W at *
        go_enter Try.func58, Try.ntmps58
        go_wp2_with (first
          | (go_at_call 56; refine (hR _).mono ?_; rintro e w1 ⟨y, rfl, HY, hbw⟩; obtain ⟨rfl, _⟩ := nz_eq_some HY.out.2; clear HY)
          | (go_at_call 61; refine (hN _).mono ?_; rintro e w' ⟨rfl, rfl⟩))
        go_ret2
        exact ⟨rfl, hbw⟩
      · rw [(whE_r hm hn (fun h => hr h.2)).1, (whE_r hm hn (fun h => hr h.2)).2]
        clear cv
        rcases Int.lt_trichotomy (rndI (wayM m) b) (-9223372036854775808) with h | h | h
        · rw [decide_eq_true h] at l
          rw [decide_eq_false (by omega)] at g
          have q' : (rndI (wayM m) b == 9223372036854775808) = false := by simp; omega
          rw [q'] at q
          clear hm hn hi hf e ny hr hl h q'
          go_enter Try.func58, Try.ntmps58
          go_wp2_with (first
            | (go_at_call 56; refine (hR _).mono ?_; rintro e w1 ⟨y, rfl, HY, hbw⟩; obtain ⟨rfl, _⟩ := nz_eq_some HY.out.2; clear HY)
            | (go_at_call 61; refine (hN _).mono ?_; rintro e w' ⟨rfl, rfl⟩))
          go_ret2
          exact ⟨rfl, hbw⟩
        · exfalso; omega
        · rw [decide_eq_false (by omega)] at l
          by_cases h2 : 9223372036854775808 < rndI (wayM m) b
          · rw [decide_eq_true h2] at g
            clear hm hn hi hf e ny hr hl h q h2
            go_enter Try.func58, Try.ntmps58
            go_wp2_with (first
              | (go_at_call 56; refine (hR _).mono ?_; rintro e w1 ⟨y, rfl, HY, hbw⟩; obtain ⟨rfl, _⟩ := nz_eq_some HY.out.2; clear HY)
              | (go_at_call 61; refine (hN _).mono ?_; rintro e w' ⟨rfl, rfl⟩))
            go_ret2
            exact ⟨rfl, hbw⟩
          · rw [decide_eq_false h2] at g
            have q' : (rndI (wayM m) b == 9223372036854775808) = true := by simp; omega
            rw [q'] at q
            clear hm hn hi hf e ny hr hl h q' h2
            go_enter Try.func58, Try.ntmps58
            go_wp2_with (first
              | (go_at_call 56; refine (hR _).mono ?_; rintro e w1 ⟨y, rfl, HY, hbw⟩; obtain ⟨rfl, _⟩ := nz_eq_some HY.out.2; clear HY)
              | (go_at_call 61; refine (hN _).mono ?_; rintro e w' ⟨rfl, rfl⟩))
            go_ret2
            exact ⟨rfl, hbw⟩
  · rw [(whE_nan hm hn).1, (whE_nan hm hn).2]
    rw [show rdW (wayM m) b = none by simp [rdW, hn]] at hR
    have hN := fun w y => ref02_Kind y w
    clear hm hn
    go_enter Try.func58, Try.ntmps58
    go_wp2_with (first
      | (go_at_call 56; refine (hR _).mono ?_; rintro e w1 ⟨y, rfl, HY, hbw⟩; have hy := nz_eq_none HY.out.2; clear HY; have hN := fun w => ref02_Kind y w; have k0 : (knd y == 0) = true := (knd_nan y).symm.trans hy; clear hy)
      | (go_at_call 61; ((with_reducible refine (hN _).mono ?_); rintro e w' ⟨rfl, rfl⟩)))
    go_ret2
    exact ⟨rfl, hbw⟩
end Go.Proofs.Ytblmlglkjmilkab
