/-
  Contracts of package lon and of the reference.
-/
import Derived.Test.YtblmlglkjmilkabJulV
namespace Go.Proofs.Ytblmlglkjmilkab
open Go.RowKit Flo

def fitB (d : Nat) : Bool := decide (rg d ≤ 4640537203540230144)
def fitE (d : Nat) : Int := if isnan d = true then 18 else if fitB d = true then 0 else 1
theorem fit_cases (d : Nat) : (isnan d = true ∧ fitE d = 18) ∨ (isnan d = false ∧ fitB d = true ∧ fitE d = 0) ∨ (isnan d = false ∧ fitB d = false ∧ fitE d = 1) := by
  unfold fitE
  cases isnan d <;> cases fitB d <;> simp
theorem abs_gt {d : Nat} (h : isnan d = false) : (FloatKind.f64.format.order (rg d) 4640537203540230144 == some Ordering.gt) = !fitB d := by
  have hl := rg_lt d
  have hr : rg d ≤ 9218868437227405312 := by unfold isnan at h; simpa using h
  have r : rg (rg d) = rg d := by unfold rg at hl ⊢; omega
  have n : isnan (rg d) = false := by unfold isnan; rw [r]; simp; omega
  have s : sg (rg d) = false := by
    unfold sg
    have : rg d / 9223372036854775808 % 2 = 0 := by omega
    rw [this]; rfl
  have c : isnan 4640537203540230144 = false ∧ rg 4640537203540230144 = 4640537203540230144 ∧ plc 4640537203540230144 = 4640537203540230144 := by decide
  have p' : plc (rg d) = rg d := by unfold plc; rw [n, s, r]; rfl
  have := ord_gt n c.1
  rw [c.2.1, c.2.2, p', r] at this
  refine this.trans ?_
  unfold fitB
  by_cases hh : rg d ≤ 4640537203540230144
  · rw [decide_eq_true hh, decide_eq_false (by omega)]; rfl
  · rw [decide_eq_false hh, decide_eq_true (by omega)]; rfl
theorem lon_may (d : Nat) (hd : d < 18446744073709551616) (w : World) : Calls Try.prog 85 #[.float .f64 d] w fun e w' => e = .returned (.int .i64 (fitE d)) ∧ w = w' := by
  have h1 := fun w => math_IsNaN d w
  have h2 := fun w => math_Abs d hd w
  rcases fit_cases d with ⟨n, e⟩ | ⟨n, f, e⟩ | ⟨n, f, e⟩
  · rw [e]; rw [n] at h1
    clear hd n e
    go_enter Try.func85, Try.ntmps85
    go_wp2_with (first
      | (go_at_call 87; refine (h1 _).mono ?_; rintro e w' ⟨rfl, rfl⟩)
      | (go_at_call 114; refine (h2 _).mono ?_; rintro e w' ⟨rfl, rfl⟩))
    go_ret
    exact ⟨rfl, rfl⟩
  all_goals
    have o := abs_gt n
    rw [f] at o
    rw [e]; rw [n] at h1
    clear hd n e f
    generalize rg d = a at *
    go_enter Try.func85, Try.ntmps85
    go_wp2_with (first
      | (go_at_call 87; refine (h1 _).mono ?_; rintro e w' ⟨rfl, rfl⟩)
      | (go_at_call 114; refine (h2 _).mono ?_; rintro e w' ⟨rfl, rfl⟩))
    go_ret
    exact ⟨rfl, rfl⟩
theorem fits_facts {d : Nat} (h : isnan d = false) : ((FloatKind.f64.format.order d 13863909240395005952 == some Ordering.lt) = (sg d && !fitB d)) ∧ ((FloatKind.f64.format.order d 4640537203540230144 == some Ordering.gt) = (!sg d && !fitB d)) := by
  have c : isnan 4640537203540230144 = false ∧ rg 4640537203540230144 = 4640537203540230144 ∧ plc 4640537203540230144 = 4640537203540230144 := by decide
  have c2 : isnan 13863909240395005952 = false ∧ rg 13863909240395005952 = 4640537203540230144 ∧ plc 13863909240395005952 = -4640537203540230145 := by decide
  have l := ord_lt h c2.1
  have g := ord_gt h c.1
  rw [c2.2.1, c2.2.2] at l
  rw [c.2.1, c.2.2] at g
  unfold fitB
  rcases plc_num h with ⟨s, p, q⟩ | ⟨s, p, q⟩
  · rw [s]; rw [p] at l g
    refine ⟨l.trans ?_, g.trans ?_⟩
    · by_cases hh : rg d ≤ 4640537203540230144
      · rw [decide_eq_true hh, decide_eq_false (by omega)]; rfl
      · rw [decide_eq_false hh, decide_eq_true (by omega)]; rfl
    · rw [decide_eq_false (by omega)]; rfl
  · rw [s]; rw [p] at l g
    refine ⟨l.trans ?_, g.trans ?_⟩
    · rw [decide_eq_false (by omega)]; rfl
    · by_cases hh : rg d ≤ 4640537203540230144
      · rw [decide_eq_true hh, decide_eq_false (by omega)]; rfl
      · rw [decide_eq_false hh, decide_eq_true (by omega)]; rfl
theorem ref09_fits (d : Nat) (w : World) : Calls Try.prog 93 #[.float .f64 d] w fun e w' => e = .returned (.int .i64 (fitE d)) ∧ w = w' := by
  have h1 := fun w => ref02_Kind d w
  have k0 := knd_nan d
  rcases fit_cases d with ⟨n, e⟩ | ⟨n, f, e⟩ | ⟨n, f, e⟩
  · rw [e]; rw [n] at k0
    have k : (knd d == 0) = true := k0.symm
    clear n e k0
    generalize knd d = k at *
    go_enter Try.func93, Try.ntmps93
    go_wp2_with (go_at_call 61; refine (h1 _).mono ?_; rintro e w' ⟨rfl, rfl⟩)
    go_ret
    exact ⟨rfl, rfl⟩
  all_goals
    obtain ⟨o1, o2⟩ := fits_facts n
    rw [f] at o1 o2
    rw [n] at k0
    have k : (knd d == 0) = false := k0.symm
    rw [e]
    clear n e k0 f
    generalize knd d = k at *
    cases hs : sg d
    all_goals
      rw [hs] at o1 o2
      clear hs
      go_enter Try.func93, Try.ntmps93
      go_wp2_with (go_at_call 61; refine (h1 _).mono ?_; rintro e w' ⟨rfl, rfl⟩)
      go_ret
      exact ⟨rfl, rfl⟩

def offX (d : Nat) : Option Nat := fop .mul (nz d) (some 4642648265865560064)
def offE (d : Nat) (m : Int) : Int := if modB m = true then (if fitE d = 0 then whNE (offX d) m else fitE d) else 4
def offV (d : Nat) (m : Int) : Int := if modB m = true then (if fitE d = 0 then whNV (offX d) m else 0) else 0
theorem off_n {d : Nat} {m : Int} (h : modB m = false) : offE d m = 4 ∧ offV d m = 0 := by simp [offE, offV, h]
theorem off_f {d : Nat} {m : Int} (h : modB m = true) (hf : fitE d ≠ 0) : offE d m = fitE d ∧ offV d m = 0 := by simp [offE, offV, h, hf]
theorem off_y {d : Nat} {m : Int} (h : modB m = true) (hf : fitE d = 0) : offE d m = whNE (offX d) m ∧ offV d m = whNV (offX d) m := by simp [offE, offV, h, hf]
theorem lon_Off (d : Nat) (m : Int) (hd : d < 18446744073709551616) (w : World) : Calls Try.prog 39 #[.float .f64 d, .int .i64 m] w fun e w' => e = .returned (.tuple #[.int .i64 (offV d m), .int .i64 (offE d m)]) ∧ Below w.heap.size w w' := by
  have hR := fun w => real_Round d m hd w
  have hF := fun w => lon_may d hd w
  cases hm : modB m
  · rw [(rd_n (b := d) hm).2] at hR
    rw [(off_n hm).1, (off_n hm).2]
    clear hm hd
    go_enter Try.func39, Try.ntmps39
    go_wp2_with (go_at_call 55; refine (hR _).mono ?_; rintro e w1 ⟨y, rfl, HY, hb⟩)
    go_ret2
    exact ⟨rfl, hb⟩
  rw [(rd_y (b := d) hm).2] at hR
  by_cases hf : fitE d = 0
  · rw [(off_y hm hf).1, (off_y hm hf).2]
    rw [hf] at hF
    have hWf : ∀ q, q < 18446744073709551616 → nz q = offX d → ∀ w : World, Calls Try.prog 57 #[.float .f64 q, .int .i64 m] w fun e w' => e = .returned (.tuple #[.int .i64 (whNV (offX d) m), .int .i64 (whNE (offX d) m)]) ∧ Below w.heap.size w w' := fun q l1 hq w => by
      have := real_Whole q m l1 w
      rwa [(wh_nz q m).1, (wh_nz q m).2, hq] at this
    generalize whNV (offX d) m = V at *
    generalize whNE (offX d) m = E at *
    clear hm hd hf
    go_enter Try.func39, Try.ntmps39
    go_wp2_with (first
      | (go_at_call 55; refine (hR _).mono ?_; rintro e w1 ⟨y, rfl, HY, hb⟩; obtain ⟨q, k1, h1, l1, z1⟩ := run_fop (P := Try.prog) .mul (by simp) 28 d 4642648265865560064 w1; have hW := hWf q l1 (by rw [z1]; rfl); have zb := hb.size; clear l1 z1 HY)
      | (go_at_call 85; refine (hF _).mono ?_; rintro e w' ⟨rfl, rfl⟩)
      | (go_at_call 57; refine (hW _).mono ?_; rintro e w2 ⟨rfl, hb2⟩))
    go_ret2
    exact ⟨rfl, by (focus (repeat' (first | exact Below.refl _ _ | refine Below.alloc ?_ ?_ _ | refine Below.setCell ?_ ?_ _ | refine Below.drew ?_ | refine below_drewN ?_ _ | refine Below.trans ?_ (Below.mono (by assumption) ?_) | refine Below.trans ?_ (Below.mono (BW.below _) ?_) | (simp; done) | (simp; omega) | omega)))⟩
  · rw [(off_f hm hf).1, (off_f hm hf).2]
    have hf' : (fitE d != 0) = true := by simpa using hf
    clear hm hd hf
    generalize fitE d = F at *
    go_enter Try.func39, Try.ntmps39
    go_wp2_with (first
      | (go_at_call 55; refine (hR _).mono ?_; rintro e w1 ⟨y, rfl, HY, hb⟩)
      | (go_at_call 85; refine (hF _).mono ?_; rintro e w' ⟨rfl, rfl⟩))
    go_ret2
    exact ⟨rfl, hb⟩
theorem ref09_Off (d : Nat) (m : Int) (w : World) : Calls Try.prog 48 #[.float .f64 d, .int .i64 m] w fun e w' => e = .returned (.tuple #[.int .i64 (offV d m), .int .i64 (offE d m)]) ∧ Below w.heap.size w w' := by
  have hR := fun w => ref02_Round 0 m (by decide) w
  have hF := fun w => ref09_fits d w
  cases hm : modB m
  · rw [(rd_n (b := 0) hm).2] at hR
    rw [(off_n hm).1, (off_n hm).2]
    clear hm
    go_enter Try.func48, Try.ntmps48
    go_wp2_with (go_at_call 56; refine (hR _).mono ?_; rintro e w1 ⟨y, rfl, HY, hb⟩)
    go_ret2
    exact ⟨rfl, hb⟩
  rw [(rd_y (b := 0) hm).2] at hR
  by_cases hf : fitE d = 0
  · rw [(off_y hm hf).1, (off_y hm hf).2]
    rw [hf] at hF
    have hWf : ∀ q, q < 18446744073709551616 → nz q = offX d → ∀ w : World, Calls Try.prog 58 #[.float .f64 q, .int .i64 m] w fun e w' => e = .returned (.tuple #[.int .i64 (whNV (offX d) m), .int .i64 (whNE (offX d) m)]) ∧ Below w.heap.size w w' := fun q l1 hq w => by
      have := ref02_Whole q m l1 w
      rwa [(wh_nz q m).1, (wh_nz q m).2, hq] at this
    generalize whNV (offX d) m = V at *
    generalize whNE (offX d) m = E at *
    clear hm hf
    go_enter Try.func48, Try.ntmps48
    go_wp2_with (first
      | (go_at_call 56; refine (hR _).mono ?_; rintro e w1 ⟨y, rfl, HY, hb⟩; obtain ⟨q, k1, h1, l1, z1⟩ := run_fop (P := Try.prog) .mul (by simp) 28 d 4642648265865560064 w1; have hW := hWf q l1 (by rw [z1]; rfl); have zb := hb.size; clear l1 z1 HY)
      | (go_at_call 93; refine (hF _).mono ?_; rintro e w' ⟨rfl, rfl⟩)
      | (go_at_call 58; refine (hW _).mono ?_; rintro e w2 ⟨rfl, hb2⟩))
    go_ret2
    exact ⟨rfl, by (focus (repeat' (first | exact Below.refl _ _ | refine Below.alloc ?_ ?_ _ | refine Below.setCell ?_ ?_ _ | refine Below.drew ?_ | refine below_drewN ?_ _ | refine Below.trans ?_ (Below.mono (by assumption) ?_) | refine Below.trans ?_ (Below.mono (BW.below _) ?_) | (simp; done) | (simp; omega) | omega)))⟩
  · rw [(off_f hm hf).1, (off_f hm hf).2]
    have hf' : (fitE d != 0) = true := by simpa using hf
    clear hm hf
    generalize fitE d = F at *
    go_enter Try.func48, Try.ntmps48
    go_wp2_with (first
      | (go_at_call 56; refine (hR _).mono ?_; rintro e w1 ⟨y, rfl, HY, hb⟩)
      | (go_at_call 93; refine (hF _).mono ?_; rintro e w' ⟨rfl, rfl⟩))
    go_ret2
    exact ⟨rfl, hb⟩

def degB (n : Int) : Bool := decide (-43200 ≤ n ∧ n ≤ 43200)
def degX (n : Int) : Option Nat := if degB n = true then fop .quo (some (floatOfInt .f64 n)) (some 4642648265865560064) else some 0
def degE (n : Int) : Int := if degB n = true then 0 else 1
theorem deg_cases (n : Int) : (n < -43200 ∧ degX n = some 0 ∧ degE n = 1) ∨ (decide (n < -43200) = false ∧ 43200 < n ∧ degX n = some 0 ∧ degE n = 1) ∨ (-43200 ≤ n ∧ n ≤ 43200 ∧ degX n = fop .quo (some (floatOfInt .f64 n)) (some 4642648265865560064) ∧ degE n = 0) := by
  by_cases h : -43200 ≤ n ∧ n ≤ 43200
  · have : degB n = true := decide_eq_true h
    exact .inr (.inr ⟨h.1, h.2, by simp [degX, this], by simp [degE, this]⟩)
  · have hb : degB n = false := decide_eq_false h
    by_cases h1 : n < -43200
    · exact .inl ⟨h1, by simp [degX, hb], by simp [degE, hb]⟩
    · exact .inr (.inl ⟨decide_eq_false h1, by omega, by simp [degX, hb], by simp [degE, hb]⟩)
theorem lon_Degrees (n : Int) (w : World) : Calls Try.prog 41 #[.int .i64 n] w (GFE w (degX n) (degE n)) := by
  rcases deg_cases n with ⟨h, e1, e2⟩ | ⟨h0, h, e1, e2⟩ | ⟨h, h2, e1, e2⟩
  · rw [e1, e2]
    clear e1 e2
    go_enter Try.func41, Try.ntmps41
    go_wp2
    go_ret2
    exact ⟨0, rfl, Lib.hid ⟨by decide, by decide⟩, Below.refl _ _⟩
  · rw [e1, e2]
    clear e1 e2
    go_enter Try.func41, Try.ntmps41
    go_wp2
    go_ret2
    exact ⟨0, rfl, Lib.hid ⟨by decide, by decide⟩, Below.refl _ _⟩
  · rw [e2]
    obtain ⟨q, k1, hq, l1, z1⟩ := run_fop (P := Try.prog) .quo (by simp) 28 (floatOfInt .f64 n) 4642648265865560064 w
    have E := Lib.hid (show q < 18446744073709551616 ∧ nz q = degX n from ⟨l1, by rw [z1, int_nz, e1]; rfl⟩)
    clear l1 z1 e1 e2
    go_enter Try.func41, Try.ntmps41
    go_wp2_with (go_at_call 66; refine (real_Of n _).mono ?_; rintro e w' ⟨rfl, rfl⟩)
    go_ret2
    exact ⟨q, rfl, E, by (focus (repeat' (first | exact Below.refl _ _ | refine Below.alloc ?_ ?_ _ | refine Below.setCell ?_ ?_ _ | refine Below.drew ?_ | refine below_drewN ?_ _ | refine Below.trans ?_ (Below.mono (by assumption) ?_) | refine Below.trans ?_ (Below.mono (BW.below _) ?_) | (simp; done) | (simp; omega) | omega)))⟩
theorem ref09_Degrees (n : Int) (w : World) : Calls Try.prog 49 #[.int .i64 n] w (GFE w (degX n) (degE n)) := by
  rcases deg_cases n with ⟨h, e1, e2⟩ | ⟨h0, h, e1, e2⟩ | ⟨h, h2, e1, e2⟩
  · rw [e1, e2]
    clear e1 e2
    go_enter Try.func49, Try.ntmps49
    go_wp2
    go_ret2
    exact ⟨0, rfl, Lib.hid ⟨by decide, by decide⟩, Below.refl _ _⟩
  · rw [e1, e2]
    clear e1 e2
    go_enter Try.func49, Try.ntmps49
    go_wp2
    go_ret2
    exact ⟨0, rfl, Lib.hid ⟨by decide, by decide⟩, Below.refl _ _⟩
  · rw [e2]
    obtain ⟨q, k1, hq, l1, z1⟩ := run_fop (P := Try.prog) .quo (by simp) 28 (floatOfInt .f64 n) 4642648265865560064 w
    have E := Lib.hid (show q < 18446744073709551616 ∧ nz q = degX n from ⟨l1, by rw [z1, int_nz, e1]; rfl⟩)
    clear l1 z1 e1 e2
    go_enter Try.func49, Try.ntmps49
    go_wp2
    go_ret2
    exact ⟨q, rfl, E, by (focus (repeat' (first | exact Below.refl _ _ | refine Below.alloc ?_ ?_ _ | refine Below.setCell ?_ ?_ _ | refine Below.drew ?_ | refine below_drewN ?_ _ | refine Below.trans ?_ (Below.mono (by assumption) ?_) | refine Below.trans ?_ (Below.mono (BW.below _) ?_) | (simp; done) | (simp; omega) | omega)))⟩

/-- A longitude that may be, over 15: a number that is told as a whole one. -/
theorem fit_hours {d : Nat} (h : fitE d = 0) : ∃ q, fop .quo (nz d) (some 4624633867356078080) = some q ∧ q < 18446744073709551616 ∧ whE q 4 = 0 := by
  have hf : isnan d = false ∧ fitB d = true := by
    rcases fit_cases d with ⟨n, e⟩ | ⟨n, f, e⟩ | ⟨n, f, e⟩
    · omega
    · exact ⟨n, f⟩
    · omega
  obtain ⟨n, f⟩ := hf
  unfold fitB at f
  have f' := of_decide_eq_true f
  have fd : fin d = true := by unfold fin; simp; omega
  have c15 : Is 4624633867356078080 false (15 * U : Int) := by
    have h := const_H 4624633867356078080 1025 8444249301319680 30 48 (by omega) (by omega) (by omega) (by omega) (by decide) rfl
    have e : ((30 : Nat) : Int) * (H : Int) = 15 * (U : Int) := by rw [U_H]; omega
    rwa [e] at h
  have c180 : Is 4640537203540230144 false (180 * U : Int) := by
    have h := const_H 4640537203540230144 1029 6333186975989760 360 44 (by omega) (by omega) (by omega) (by omega) (by decide) rfl
    have e : ((360 : Nat) : Int) * (H : Int) = 180 * (U : Int) := by rw [U_H]; omega
    rwa [e] at h
  have hm : (mag d : Int) ≤ 180 * U := by
    have h1 : mag d ≤ mag 4640537203540230144 := mg_mono f'
    have h2 := c180.val
    have h3 := val_nat 4640537203540230144
    rw [h2] at h3
    omega
  have pU := U_pos
  obtain ⟨q, hq, rq⟩ := div_rnd fd c15.fin (by rw [c15.val]; omega)
  have rq' : Rnd (val d) 15 q := by
    rw [c15.val, show ((15 : Int) * U).toNat = 15 * U by omega] at rq
    exact rq.unscale pU
  have vn := val_nat d
  have e11 : 2 ^ (K + 11) = 2048 * U := by rw [Nat.pow_add, show (2 : Nat) ^ 11 = 2048 from rfl, Nat.mul_comm, U_def]
  have e11' : ((2 ^ (K + 11) : Nat) : Int) = 2048 * U := by rw [e11]; omega
  obtain ⟨fq, q1, q2⟩ := rq'.near (t := K + 11) (by omega) (by rw [e11]; omega)
  rw [e11'] at q1 q2
  refine ⟨q, by rw [nz_some n]; exact hq, rq'.lt, ?_⟩
  have hr : isinf q = false := by unfold isinf; unfold fin at fq; simp at *; omega
  have vq := val_nat q
  have hmq : mag q < 4503599627370496 * U := by omega
  have := rndI_le .even hmq
  exact (whE_y (m := 4) rfl (fin_nan fq) ⟨hr, by rw [show wayM 4 = .even from rfl]; omega⟩).1
def hourV (d : Nat) : Int := if fitE d = 0 then whNV (fop .quo (nz d) (some 4624633867356078080)) 4 else 0
theorem hour_y {d : Nat} (h : fitE d = 0) : hourV d = whNV (fop .quo (nz d) (some 4624633867356078080)) 4 := by simp [hourV, h]
theorem hour_n {d : Nat} (h : fitE d ≠ 0) : hourV d = 0 := by simp [hourV, h]
theorem whV_bd (b : Nat) (m : Int) : I64 (whV b m) := by
  unfold whV
  by_cases h : whE b m = 0
  · rw [if_pos h]
    unfold whE at h
    by_cases hm : modB m = true
    · rw [if_pos hm] at h
      by_cases hn : isnan b = true
      · rw [if_pos hn] at h; omega
      · rw [if_neg hn] at h
        by_cases hr : isinf b = false ∧ -9223372036854775808 ≤ rndI (wayM m) b ∧ rndI (wayM m) b ≤ 9223372036854775807
        · exact ⟨hr.2.1, hr.2.2⟩
        · rw [if_neg hr] at h; omega
    · rw [if_neg hm] at h; omega
  · rw [if_neg h]; exact I64.sm (by omega)
theorem lon_Hours (d : Nat) (hd : d < 18446744073709551616) (w : World) : Calls Try.prog 40 #[.float .f64 d] w fun e w' => e = .returned (.tuple #[.int .i64 (hourV d), .int .i64 (fitE d)]) ∧ Below w.heap.size w w' := by
  have hF := fun w => lon_may d hd w
  by_cases hf : fitE d = 0
  · obtain ⟨q, hq, lq, hE⟩ := fit_hours hf
    have hW := fun w => real_Whole q 4 lq w
    rw [hE] at hW
    rw [hour_y hf, hq, show whNV (some q) 4 = whV q 4 from rfl]
    have hb := (bits_word (show floatBits .quo .f64 d 4624633867356078080 = some q by rw [← fop_nz]; exact hq))
    have run : ∀ w : World, (binOp .quo 28 (.float .f64 d) (.float .f64 4624633867356078080)).run Try.prog w = .ok (.float .f64 q) w := fun w => run_float_arith w .quo _ .f64 _ _ _ (by rw [← fop_nz]; exact hq)
    obtain ⟨b0, b1⟩ := whV_bd q 4
    rw [hf]
    rw [hf] at hF
    clear hf hq lq hE hb hd
    generalize whV q 4 = V at *
    go_enter Try.func40, Try.ntmps40
    go_wp2_with (first
      | (go_at_call 85; refine (hF _).mono ?_; rintro e w' ⟨rfl, rfl⟩)
      | (go_at_call 57; refine (hW _).mono ?_; rintro e w2 ⟨rfl, hb2⟩))
    go_ret2
    exact ⟨rfl, by (focus (repeat' (first | exact Below.refl _ _ | refine Below.alloc ?_ ?_ _ | refine Below.setCell ?_ ?_ _ | refine Below.drew ?_ | refine below_drewN ?_ _ | refine Below.trans ?_ (Below.mono (by assumption) ?_) | refine Below.trans ?_ (Below.mono (BW.below _) ?_) | (simp; done) | (simp; omega) | omega)))⟩
  · rw [hour_n hf]
    have hf' : (fitE d != 0) = true := by simpa using hf
    clear hf hd
    generalize fitE d = F at *
    go_enter Try.func40, Try.ntmps40
    go_wp2_with (go_at_call 85; refine (hF _).mono ?_; rintro e w' ⟨rfl, rfl⟩)
    go_ret2
    exact ⟨rfl, Below.refl _ _⟩
theorem ref09_Hours (d : Nat) (w : World) : Calls Try.prog 50 #[.float .f64 d] w fun e w' => e = .returned (.tuple #[.int .i64 (hourV d), .int .i64 (fitE d)]) ∧ Below w.heap.size w w' := by
  have hF := fun w => ref09_fits d w
  by_cases hf : fitE d = 0
  · obtain ⟨q, hq, lq, hE⟩ := fit_hours hf
    have hW := fun w => ref02_Whole q 4 lq w
    rw [hE] at hW
    rw [hour_y hf, hq, show whNV (some q) 4 = whV q 4 from rfl]
    have run : ∀ w : World, (binOp .quo 28 (.float .f64 d) (.float .f64 4624633867356078080)).run Try.prog w = .ok (.float .f64 q) w := fun w => run_float_arith w .quo _ .f64 _ _ _ (by rw [← fop_nz]; exact hq)
    obtain ⟨b0, b1⟩ := whV_bd q 4
    rw [hf]
    rw [hf] at hF
    clear hf hq lq hE
    generalize whV q 4 = V at *
    go_enter Try.func50, Try.ntmps50
    go_wp2_with (first
      | (go_at_call 93; refine (hF _).mono ?_; rintro e w' ⟨rfl, rfl⟩)
      | (go_at_call 58; refine (hW _).mono ?_; rintro e w2 ⟨rfl, hb2⟩))
    go_ret2
    exact ⟨rfl, by (focus (repeat' (first | exact Below.refl _ _ | refine Below.alloc ?_ ?_ _ | refine Below.setCell ?_ ?_ _ | refine Below.drew ?_ | refine below_drewN ?_ _ | refine Below.trans ?_ (Below.mono (by assumption) ?_) | refine Below.trans ?_ (Below.mono (BW.below _) ?_) | (simp; done) | (simp; omega) | omega)))⟩
  · rw [hour_n hf]
    have hf' : (fitE d != 0) = true := by simpa using hf
    clear hf
    generalize fitE d = F at *
    go_enter Try.func50, Try.ntmps50
    go_wp2_with (go_at_call 93; refine (hF _).mono ?_; rintro e w' ⟨rfl, rfl⟩)
    go_ret2
    exact ⟨rfl, Below.refl _ _⟩
def rdN (way : Ieee.Toward) (X : Option Nat) : Option Nat := match X with | some b => rdW way b | none => none
theorem rd_nz (way : Ieee.Toward) (b : Nat) : rdW way b = rdN way (nz b) := by
  cases h : isnan b
  · rw [nz_some h]; rfl
  · rw [nz_none h]; exact rdW_nan way h
def normX (X : Option Nat) : Option Nat := fop .sub X (fop .mul (some 4645040803167600640) (rdN .down (fop .quo (fop .add X (some 4640537203540230144)) (some 4645040803167600640))))
theorem lon_Norm (d : Nat) (w : World) : Calls Try.prog 51 #[.float .f64 d] w (GF w (normX (nz d))) := by
  obtain ⟨a, k1, h1, l1, z1⟩ := run_fop (P := Try.prog) .add (by simp) 28 d 4640537203540230144 w
  obtain ⟨b, k2, h2, l2, z2⟩ := run_fop (P := Try.prog) .quo (by simp) 28 a 4645040803167600640 (w.drewN k1)
  have hR := fun w => real_Round b 1 l2 w
  rw [(rdV_1 b).1, (rdV_1 b).2] at hR
  have hX : rdW .down b = rdN .down (fop .quo (fop .add (nz d) (some 4640537203540230144)) (some 4645040803167600640)) := by rw [rd_nz, z2, z1]; rfl
  rw [hX] at hR
  have hS : normX (nz d) = fop .sub (nz d) (fop .mul (some 4645040803167600640) (rdN .down (fop .quo (fop .add (nz d) (some 4640537203540230144)) (some 4645040803167600640)))) := rfl
  have HS := Lib.hid hS
  clear l1 z1 l2 z2 hX hS
  generalize rdN .down (fop .quo (fop .add (nz d) (some 4640537203540230144)) (some 4645040803167600640)) = R at *
  generalize normX (nz d) = X at *
  go_enter Try.func51, Try.ntmps51
  go_wp2_with (go_at_call 55; refine (hR _).mono ?_; rintro e w1 ⟨y, rfl, HY, hb⟩; obtain ⟨p, k3, h3, l3, z3⟩ := run_fop (P := Try.prog) .mul (by simp) 28 4645040803167600640 y w1; obtain ⟨q, k4, h4, l4, z4⟩ := run_fop (P := Try.prog) .sub (by simp) 28 d p (w1.drewN k3); have E := Lib.hid (show q < 18446744073709551616 ∧ nz q = X from ⟨l4, by rw [z4, z3, HY.out.2, HS.out]; rfl⟩); have zb := hb.size; clear l3 z3 l4 z4 HY)
  go_ret
  exact ⟨q, rfl, E, by (focus (repeat' (first | exact Below.refl _ _ | refine Below.alloc ?_ ?_ _ | refine Below.setCell ?_ ?_ _ | refine Below.drew ?_ | refine below_drewN ?_ _ | refine Below.trans ?_ (Below.mono (by assumption) ?_) | refine Below.trans ?_ (Below.mono (BW.below _) ?_) | (simp; done) | (simp; omega) | omega)))⟩
theorem ref09_Norm (d : Nat) (w : World) : Calls Try.prog 52 #[.float .f64 d] w (GF w (normX (nz d))) := by
  obtain ⟨a, k1, h1, l1, z1⟩ := run_fop (P := Try.prog) .add (by simp) 28 d 4640537203540230144 w
  obtain ⟨b, k2, h2, l2, z2⟩ := run_fop (P := Try.prog) .quo (by simp) 28 a 4645040803167600640 (w.drewN k1)
  have hR := fun w => ref02_Round b 1 l2 w
  rw [(rdV_1 b).1, (rdV_1 b).2] at hR
  have hX : rdW .down b = rdN .down (fop .quo (fop .add (nz d) (some 4640537203540230144)) (some 4645040803167600640)) := by rw [rd_nz, z2, z1]; rfl
  rw [hX] at hR
  have hS : normX (nz d) = fop .sub (nz d) (fop .mul (some 4645040803167600640) (rdN .down (fop .quo (fop .add (nz d) (some 4640537203540230144)) (some 4645040803167600640)))) := rfl
  have HS := Lib.hid hS
  clear l1 z1 l2 z2 hX hS
  generalize rdN .down (fop .quo (fop .add (nz d) (some 4640537203540230144)) (some 4645040803167600640)) = R at *
  generalize normX (nz d) = X at *
  go_enter Try.func52, Try.ntmps52
  go_wp2_with (go_at_call 56; refine (hR _).mono ?_; rintro e w1 ⟨y, rfl, HY, hb⟩; obtain ⟨p, k3, h3, l3, z3⟩ := run_fop (P := Try.prog) .mul (by simp) 28 4645040803167600640 y w1; obtain ⟨q, k4, h4, l4, z4⟩ := run_fop (P := Try.prog) .sub (by simp) 28 d p (w1.drewN k3); have E := Lib.hid (show q < 18446744073709551616 ∧ nz q = X from ⟨l4, by rw [z4, z3, HY.out.2, HS.out]; rfl⟩); have zb := hb.size; clear l3 z3 l4 z4 HY)
  go_ret
  exact ⟨q, rfl, E, by (focus (repeat' (first | exact Below.refl _ _ | refine Below.alloc ?_ ?_ _ | refine Below.setCell ?_ ?_ _ | refine Below.drew ?_ | refine below_drewN ?_ _ | refine Below.trans ?_ (Below.mono (by assumption) ?_) | refine Below.trans ?_ (Below.mono (BW.below _) ?_) | (simp; done) | (simp; omega) | omega)))⟩
end Go.Proofs.Ytblmlglkjmilkab
