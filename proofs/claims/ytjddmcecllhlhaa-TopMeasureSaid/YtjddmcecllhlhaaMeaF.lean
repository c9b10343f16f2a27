/-
  Sums and means: how far what is rounded is from what is not.
-/
import Derived.Test.YtjddmcecllhlhaaFloM
namespace Go.Proofs.Ytjddmcecllhlhaa.Flo
open Ieee

theorem mg_52 : mg 4503599627370496 = 4503599627370496 := by
  have := mg_mk 1 0
  unfold mg
  rw [if_neg (by omega)]
theorem small_rung {N D r : Nat} (h : Rd N D r) (hD : 0 < D) (hr : ¬ 4503599627370496 ≤ r) : N ≤ D * 4503599627370496 := by
  apply Classical.byContradiction
  intro hN
  have e := Rd.exact D 4503599627370496 hD
  rw [mg_52] at e
  have := e.mono h hD hD (Nat.mul_le_mul_right _ (by omega))
  omega
theorem rd_close {N D r : Nat} (h : Rd N D r) (hD : 0 < D) : 4503599627370496 * (D * mg r) ≤ 4503599627370496 * N + N + 4503599627370496 * D ∧ 4503599627370496 * N ≤ 4503599627370496 * (D * mg r) + N + 4503599627370496 * D := by
  by_cases hr : 4503599627370496 ≤ r
  · obtain ⟨u, l⟩ := rd_rel h hr
    generalize D * mg r = X at *
    omega
  · have hN := small_rung h hD hr
    have e0 : (2 : Nat) ^ 0 = 1 := rfl
    have hN' : N ≤ D * (9007199254740992 * 2 ^ 0) := by
      rw [e0]
      exact Nat.le_trans hN (Nat.mul_le_mul_left _ (by decide))
    obtain ⟨u, l⟩ := rd_err h hD hN'
    rw [e0, Nat.mul_one] at u l
    clear hN' e0 h hr
    generalize D * mg r = X at *
    omega
def G0 : Nat := 900
def G : Nat := 2 ^ G0
theorem G_big : 1427247692705959881058285969449495136382746624 ≤ G := by
  have e : 150 ≤ G0 := by unfold G0; omega
  have h1 : (2 : Nat) ^ 150 ≤ 2 ^ G0 := Nat.pow_le_pow_right (by omega) e
  exact Nat.le_trans (by decide) h1
theorem KG : 9007199254740992 * 2 ^ (K + G0) = 9007199254740992 * (U * G) := by rw [two_split, ← U_def, G]
/-- Within a 2 ^ 52nd part, or the least number. -/
theorem Rnd.close {z y : Int} {D b : Nat} (h : Rnd z D b) (hy : -y ≤ z ∧ z ≤ y) (hz : y ≤ D * (9007199254740992 * (U * G) : Nat)) :
    fin b = true ∧ 4503599627370496 * (D * val b - z) ≤ y + 4503599627370496 * D ∧ 4503599627370496 * (z - D * val b) ≤ y + 4503599627370496 * D := by
  have hz' : z.natAbs ≤ D * (9007199254740992 * 2 ^ (K + G0)) := by
    rw [KG]
    have : (z.natAbs : Int) ≤ ((D * (9007199254740992 * (U * G)) : Nat) : Int) := by
      rw [Int.natCast_mul]
      omega
    exact Int.ofNat_le.1 this
  have hf := (h.near (show K + G0 ≤ K + 900 from Nat.le_refl _) hz').1
  clear hz hz'
  refine ⟨hf, ?_⟩
  obtain ⟨hD, r, neg, hr, rfl, hp, hn⟩ := h
  have hlt : r < 9218868437227405312 := by
    rw [fin_wd] at hf
    simpa using hf
  obtain ⟨u, l⟩ := rd_close hr hD
  rw [val_wd neg (by omega)]
  have u' : 4503599627370496 * ((D : Int) * (mg r : Int)) ≤ 4503599627370496 * (z.natAbs : Int) + z.natAbs + 4503599627370496 * (D : Int) := by
    have := Int.ofNat_le.2 u
    simp only [Int.natCast_add, Int.natCast_mul] at this
    omega
  have l' : 4503599627370496 * (z.natAbs : Int) ≤ 4503599627370496 * ((D : Int) * (mg r : Int)) + z.natAbs + 4503599627370496 * (D : Int) := by
    have := Int.ofNat_le.2 l
    simp only [Int.natCast_add, Int.natCast_mul] at this
    omega
  have e : (z.natAbs : Int) ≤ y := by omega
  rcases Int.lt_trichotomy z 0 with h | h | h
  · rw [hn h]
    have e : (z.natAbs : Int) = -z := by omega
    rw [e] at u' l'
    simp only [if_true, Int.mul_neg]
    generalize (D : Int) * (mg r : Int) = X at *
    omega
  · subst h
    have := rd_zero hr hD
    subst this
    have pD : (0 : Int) < D := Int.natCast_pos.2 hD
    cases neg <;> simp [mg_zero] <;> omega
  · rw [hp h]
    have e : (z.natAbs : Int) = z := by omega
    rw [e] at u' l'
    simp only [Bool.false_eq_true, if_false]
    generalize (D : Int) * (mg r : Int) = X at *
    omega
theorem U_big : (4503599627370496 : Int) ≤ U := by
  have h := U_H
  have : 4503599627370496 * 1 ≤ H := Nat.mul_le_mul_left _ (two_pow_pos J)
  omega
theorem mulbd {h m x y : Int} (h1 : -m ≤ h) (h2 : h ≤ m) (h3 : -y ≤ x) (h4 : x ≤ y) : -(m * y) ≤ h * x ∧ h * x ≤ m * y := by
  have a := Int.mul_nonneg (show 0 ≤ m - h by omega) (show 0 ≤ y + x by omega)
  have b := Int.mul_nonneg (show 0 ≤ m + h by omega) (show 0 ≤ y - x by omega)
  have c := Int.mul_nonneg (show 0 ≤ m - h by omega) (show 0 ≤ y - x by omega)
  have d := Int.mul_nonneg (show 0 ≤ m + h by omega) (show 0 ≤ y + x by omega)
  simp only [Int.sub_mul, Int.add_mul, Int.mul_add, Int.mul_sub] at a b c d
  omega

/-- One more, one side. -/
theorem mean_hi {U M h c s t F n x s' t' y : Int} (hU : 4503599627370496 ≤ U) (hM : U ≤ M) (h1 : -M ≤ h) (h2 : h ≤ M) (hc0 : 0 ≤ c) (hc : c ≤ 1000) (ht : U ≤ t) (hn : U ≤ n)
    (i : 4503599627370496 * (s * U - h * t) ≤ c * (M * t)) (hF : F ≤ h) (hx : 4503599627370496 * (U * x - F * n) ≤ (M - U) * n + 4503599627370496 * U)
    (ht1 : 4503599627370496 * (t' - (t + n)) ≤ (t + n) + 4503599627370496) (ht2 : 4503599627370496 * ((t + n) - t') ≤ (t + n) + 4503599627370496)
    (hs : 4503599627370496 * (s' - (s + x)) ≤ y + 4503599627370496) (hy : U * y ≤ 2 * (M * t) + 2 * (M * n)) :
    4503599627370496 * (s' * U - h * t') ≤ (c + 6) * (M * t') := by
  have q1 : 4503599627370496 * U ≤ U * U := Int.mul_le_mul_of_nonneg_right hU (by omega)
  have q2 : U * U ≤ M * t := Int.mul_le_mul hM ht (by omega) (by omega)
  have q3 : U * U ≤ U * n := Int.mul_le_mul_of_nonneg_left hn (by omega)
  have q4 : F * n ≤ h * n := Int.mul_le_mul_of_nonneg_right hF (by omega)
  have q5 := Int.mul_le_mul_of_nonneg_left hs (show 0 ≤ U by omega)
  have q6 := (mulbd (h := h) (m := M) (x := 4503599627370496 * (t' - (t + n))) (y := 2 * (t + n)) h1 h2 (by omega) (by omega)).1
  have q7 := Int.mul_le_mul_of_nonneg_left (show 4503599627370496 * ((t + n) - t') ≤ 2 * (t + n) by omega) (show 0 ≤ M by omega)
  have q8 := Int.mul_le_mul_of_nonneg_left q7 hc0
  have pA : 0 ≤ M * t := Int.mul_nonneg (by omega) (by omega)
  have pB : 0 ≤ M * n := Int.mul_nonneg (by omega) (by omega)
  have pC : 0 ≤ c * (M * t) := Int.mul_nonneg hc0 pA
  have pD : 0 ≤ c * (M * n) := Int.mul_nonneg hc0 pB
  have pE : c * (M * t) ≤ 1000 * (M * t) := Int.mul_le_mul_of_nonneg_right hc pA
  have pF : c * (M * n) ≤ 1000 * (M * n) := Int.mul_le_mul_of_nonneg_right hc pB
  have l1 : M * (4503599627370496 * (t + n - t')) = 4503599627370496 * (M * t + M * n - M * t') := by rw [Int.mul_left_comm, Int.mul_sub, Int.mul_add]
  have l2 : M * (2 * (t + n)) = 2 * (M * t + M * n) := by rw [Int.mul_left_comm, Int.mul_add]
  have l3 : h * (4503599627370496 * (t' - (t + n))) = 4503599627370496 * (h * t' - (h * t + h * n)) := by rw [Int.mul_left_comm, Int.mul_sub, Int.mul_add]
  have l4 : U * (4503599627370496 * (s' - (s + x))) = 4503599627370496 * (s' * U - (s * U + U * x)) := by
    rw [Int.mul_left_comm, Int.mul_sub, Int.mul_add, Int.mul_comm U s', Int.mul_comm U s]
  have l5 : (M - U) * n = M * n - U * n := Int.sub_mul _ _ _
  have l6 : c * (4503599627370496 * (M * t + M * n - M * t')) = 4503599627370496 * (c * (M * t) + c * (M * n) - c * (M * t')) := by rw [Int.mul_left_comm, Int.mul_sub, Int.mul_add]
  have l7 : c * (2 * (M * t + M * n)) = 2 * (c * (M * t) + c * (M * n)) := by rw [Int.mul_left_comm, Int.mul_add]
  have l8 : U * (y + 4503599627370496) = U * y + 4503599627370496 * U := by rw [Int.mul_add, Int.mul_comm U 4503599627370496]
  rw [l1, l2] at q7
  rw [l1, l2, l6, l7] at q8
  rw [l2, l3] at q6
  rw [l4, l8] at q5
  rw [l5] at hx
  rw [Int.add_mul]
  generalize M * t = A at *
  generalize M * n = B at *
  generalize M * t' = A' at *
  generalize c * A = cA at *
  generalize c * B = cB at *
  generalize c * A' = cA' at *
  generalize h * t = ht at *
  generalize h * n = hn at *
  generalize h * t' = ht' at *
  generalize s * U = sU at *
  generalize s' * U = sU' at *
  generalize U * x = Ux at *
  generalize U * y = Uy at *
  generalize F * n = Fn at *
  generalize U * n = Un at *
  generalize U * U = UU at *
  omega

/-- What is held of the partial sums: t of the times, s of the values times the times; the values lie between l and h. -/
structure MInv (M h l c : Int) (s t : Nat) : Prop where
  fs : fin s = true
  ft : fin t = true
  pos : (U : Int) ≤ val t
  big : val t ≤ c * (147573952589676412928 * U)
  hi : 4503599627370496 * (val s * U - h * val t) ≤ c * (M * val t)
  lo : 4503599627370496 * (-val s * U - -l * val t) ≤ c * (M * val t)
/-- The bounds of the values. -/
structure MBd (M h l : Int) : Prop where
  u : (U : Int) ≤ M
  m : M ≤ 36893488147419103232 * U
  hl : l ≤ h
  h : h ≤ M - U
  l : -(M - U) ≤ l
theorem big_ok {y z : Int} {D : Nat} (h : y ≤ D * z) (hz : z ≤ 12855504354071922204335696738729300820177623950262342682411008 * (U : Int)) : y ≤ D * (9007199254740992 * (U * G) : Nat) := by
  have g := G_big
  have e : 12855504354071922204335696738729300820177623950262342682411008 * U ≤ 9007199254740992 * (U * G) := by
    have : 1427247692705959881058285969449495136382746624 * U ≤ G * U := Nat.mul_le_mul_right _ g
    rw [Nat.mul_comm U G]
    omega
  have e' : 12855504354071922204335696738729300820177623950262342682411008 * (U : Int) ≤ ((9007199254740992 * (U * G) : Nat) : Int) := by
    have := Int.ofNat_le.2 e
    rw [Int.natCast_mul 12855504354071922204335696738729300820177623950262342682411008 U] at this
    exact this
  exact Int.le_trans h (Int.mul_le_mul_of_nonneg_left (Int.le_trans hz e') (Int.natCast_nonneg _))
theorem mul_le_one {y z : Int} (h : y ≤ z) : y ≤ (1 : Nat) * z := by omega
/-- One value times its time. -/
theorem mean_mul {M h l : Int} {f n : Nat} (b : MBd M h l) (ff : fin f = true) (fn : fin n = true) (f1 : l ≤ val f) (f2 : val f ≤ h) (n1 : (U : Int) ≤ val n) (n2 : val n ≤ 36893488147419103232 * U) :
    ∃ x, Go.floatBits .mul .f64 f n = some x ∧ fin x = true ∧ 4503599627370496 * (U * val x - val f * val n) ≤ (M - U) * val n + 4503599627370496 * U ∧ 4503599627370496 * (val f * val n - U * val x) ≤ (M - U) * val n + 4503599627370496 * U := by
  obtain ⟨b1, b2, b3, b4, b5⟩ := b
  have hU := U_big
  obtain ⟨x, e, r⟩ := mul_rnd ff fn
  have m := mulbd (h := val f) (m := M - U) (x := val n) (y := val n) (by omega) (by omega) (by omega) (by omega)
  have h0 : (M - U) * val n ≤ U * (36893488147419103232 * (36893488147419103232 * U)) := by
    have e1 : (M - U) * val n ≤ (36893488147419103232 * U) * (36893488147419103232 * U) := Int.mul_le_mul (by omega) n2 (by omega) (by omega)
    have e2 : (36893488147419103232 * (U : Int)) * (36893488147419103232 * U) = U * (36893488147419103232 * (36893488147419103232 * U)) := by rw [Int.mul_comm 36893488147419103232 (U : Int), Int.mul_assoc]
    rw [e2] at e1
    exact e1
  obtain ⟨fx, u, v⟩ := r.close m (big_ok h0 (by omega))
  exact ⟨x, e, fx, u, v⟩
theorem mean_first {M h l : Int} {f n : Nat} (b : MBd M h l) (ff : fin f = true) (fn : fin n = true) (f1 : l ≤ val f) (f2 : val f ≤ h) (n1 : (U : Int) ≤ val n) (n2 : val n ≤ 36893488147419103232 * U) :
    ∃ x, Go.floatBits .mul .f64 f n = some x ∧ MInv M h l 6 x n := by
  obtain ⟨x, e, fx, u, v⟩ := mean_mul b ff fn f1 f2 n1 n2
  obtain ⟨b1, b2, b3, b4, b5⟩ := b
  have hU := U_big
  refine ⟨x, e, fx, fn, n1, by omega, ?_, ?_⟩
  all_goals
    have q1 : 4503599627370496 * (U : Int) ≤ U * U := Int.mul_le_mul_of_nonneg_right hU (by omega)
    have q3 : (U : Int) * U ≤ U * val n := Int.mul_le_mul_of_nonneg_left n1 (by omega)
    have q4 : val f * val n ≤ h * val n := Int.mul_le_mul_of_nonneg_right f2 (by omega)
    have q5 : l * val n ≤ val f * val n := Int.mul_le_mul_of_nonneg_right f1 (by omega)
    have pB : 0 ≤ M * val n := Int.mul_nonneg (by omega) (by omega)
    rw [Int.sub_mul] at u v
    rw [Int.mul_comm (U : Int) (val x)] at u v
    try simp only [Int.neg_mul]
    generalize M * val n = B at *
    generalize val f * val n = Fn at *
    generalize h * val n = hn at *
    generalize l * val n = ln at *
    generalize val x * (U : Int) = xU at *
    generalize (U : Int) * val n = Un at *
    generalize (U : Int) * U = UU at *
    omega
theorem mean_next {M h l c : Int} {s t f n : Nat} (b : MBd M h l) (i : MInv M h l c s t) (hc0 : 0 ≤ c) (hc : c ≤ 1000) (ff : fin f = true) (fn : fin n = true) (f1 : l ≤ val f) (f2 : val f ≤ h) (n1 : (U : Int) ≤ val n) (n2 : val n ≤ 36893488147419103232 * U) :
    ∃ x s' t', Go.floatBits .mul .f64 f n = some x ∧ Go.floatBits .add .f64 s x = some s' ∧ Go.floatBits .add .f64 t n = some t' ∧ MInv M h l (c + 6) s' t' := by
  obtain ⟨x, e, fx, u, v⟩ := mean_mul b ff fn f1 f2 n1 n2
  obtain ⟨b1, b2, b3, b4, b5⟩ := b
  obtain ⟨i1, i2, i3, i4, i5, i6⟩ := i
  have hU := U_big
  obtain ⟨s', es, rs⟩ := add_rnd i1 fx
  obtain ⟨t', et, rt⟩ := add_rnd i2 fn
  have cZ : c * (147573952589676412928 * U) ≤ 1000 * (147573952589676412928 * (U : Int)) := Int.mul_le_mul_of_nonneg_right hc (by omega)
  obtain ⟨ft, t1, t2⟩ := rt.close (y := val t + val n) (by omega) (big_ok (mul_le_one (Int.le_refl _)) (by omega))
  -- how great the parts are
  have q1 : 4503599627370496 * (U : Int) ≤ U * U := Int.mul_le_mul_of_nonneg_right hU (by omega)
  have q3 : (U : Int) * U ≤ U * val n := Int.mul_le_mul_of_nonneg_left n1 (by omega)
  have q4 : val f * val n ≤ h * val n := Int.mul_le_mul_of_nonneg_right f2 (by omega)
  have q5 : l * val n ≤ val f * val n := Int.mul_le_mul_of_nonneg_right f1 (by omega)
  have q6 := mulbd (h := h) (m := M) (x := val n) (y := val n) (by omega) (by omega) (by omega) (by omega)
  have q7 := mulbd (h := l) (m := M) (x := val n) (y := val n) (by omega) (by omega) (by omega) (by omega)
  have q8 := mulbd (h := h) (m := M) (x := val t) (y := val t) (by omega) (by omega) (by omega) (by omega)
  have q9 := mulbd (h := l) (m := M) (x := val t) (y := val t) (by omega) (by omega) (by omega) (by omega)
  have pA : 0 ≤ M * val t := Int.mul_nonneg (by omega) (by omega)
  have pE : c * (M * val t) ≤ 1000 * (M * val t) := Int.mul_le_mul_of_nonneg_right hc pA
  have u0 := u
  have v0 := v
  have i50 := i5
  have i60 := i6
  rw [Int.sub_mul] at u0 v0
  simp only [Int.neg_mul] at i60
  have kx : -(2 * (M * val n)) ≤ U * val x ∧ U * val x ≤ 2 * (M * val n) := by
    generalize M * val n = B at *
    generalize val f * val n = Fn at *
    generalize h * val n = hn at *
    generalize l * val n = ln at *
    generalize (U : Int) * val x = xU at *
    generalize (U : Int) * val n = Un at *
    generalize (U : Int) * U = UU at *
    omega
  have ks : -(2 * (M * val t)) ≤ val s * U ∧ val s * U ≤ 2 * (M * val t) := by
    generalize c * (M * val t) = cA at *
    generalize M * val t = A at *
    generalize h * val t = ht at *
    generalize l * val t = lt at *
    generalize val s * (U : Int) = sU at *
    omega
  obtain ⟨y, hy⟩ : ∃ y : Int, y = (val s + val x).natAbs := ⟨_, rfl⟩
  have ky : U * y ≤ 2 * (M * val t) + 2 * (M * val n) := by
    have e1 : U * y = U * (val s + val x) ∨ U * y = -(U * (val s + val x)) := by
      rcases (show y = val s + val x ∨ y = -(val s + val x) by omega) with h | h
      · exact .inl (by rw [h])
      · exact .inr (by rw [h, Int.mul_neg])
    rw [Int.mul_add, Int.mul_comm (U : Int) (val s)] at e1
    omega
  have kM : M * val t + M * val n ≤ (36893488147419103232 * U) * (1000 * (147573952589676412928 * U) + 36893488147419103232 * U) := by
    rw [← Int.mul_add]
    exact Int.mul_le_mul b2 (by omega) (by omega) (by omega)
  have yb : y ≤ 12855504354071922204335696738729300820177623950262342682411008 * (U : Int) := by
    apply Classical.byContradiction
    intro hy'
    have e1 : U * (12855504354071922204335696738729300820177623950262342682411008 * (U : Int)) ≤ U * y := Int.mul_le_mul_of_nonneg_left (by omega) (by omega)
    have e2 : (36893488147419103232 * (U : Int)) * (1000 * (147573952589676412928 * U) + 36893488147419103232 * U) = 5445879000202699169267847217338018456141824 * (U * U) := by
      rw [show (1000 * (147573952589676412928 * U) + 36893488147419103232 * (U : Int)) = 147610846077823832031232 * U by omega, Int.mul_assoc, Int.mul_left_comm (U : Int) 147610846077823832031232 U]
      omega
    rw [Int.mul_left_comm] at e1
    rw [e2] at kM
    have pU : 0 ≤ (U : Int) * U := Int.mul_nonneg (by omega) (by omega)
    omega
  obtain ⟨fs, s1, s2⟩ := rs.close (y := y) (by omega) (big_ok (mul_le_one (Int.le_refl _)) yb)
  rw [show ((1 : Nat) : Int) * val s' = val s' by omega] at s1 s2
  rw [show ((1 : Nat) : Int) * val t' = val t' by omega] at t1 t2
  have s1' : 4503599627370496 * (val s' - (val s + val x)) ≤ y + 4503599627370496 := by omega
  have s2' : 4503599627370496 * (-val s' - (-val s + -val x)) ≤ y + 4503599627370496 := by omega
  have t1' : 4503599627370496 * (val t' - (val t + val n)) ≤ (val t + val n) + 4503599627370496 := by omega
  have t2' : 4503599627370496 * ((val t + val n) - val t') ≤ (val t + val n) + 4503599627370496 := by omega
  refine ⟨x, s', t', e, es, et, fs, ft, by omega, ?_, mean_hi hU b1 (by omega) (by omega) hc0 hc i3 n1 i5 f2 u t1' t2' s1' ky, mean_hi hU b1 (by omega) (by omega) hc0 hc i3 n1 i6 (show -val f ≤ -l by omega) (by rw [Int.mul_neg, Int.neg_mul]; omega) t1' t2' s2' ky⟩
  rw [Int.add_mul]
  omega
/-- The mean: from the sums. -/
theorem mean_quo {M h l c : Int} {s t : Nat} (b : MBd M h l) (i : MInv M h l c s t) (hc : c ≤ 1000) :
    ∃ m, Go.floatBits .quo .f64 s t = some m ∧ fin m = true ∧ 4503599627370496 * val m ≤ 4503599627370496 * h + 1003 * M ∧ 4503599627370496 * l ≤ 4503599627370496 * val m + 1003 * M := by
  obtain ⟨b1, b2, b3, b4, b5⟩ := b
  obtain ⟨i1, i2, i3, i4, i5, i6⟩ := i
  have hU := U_big
  obtain ⟨m, e, r⟩ := div_rnd i1 i2 (by omega)
  have et : ((val t).toNat : Int) = val t := by omega
  have q8 := mulbd (h := h) (m := M) (x := val t) (y := val t) (by omega) (by omega) (by omega) (by omega)
  have q9 := mulbd (h := l) (m := M) (x := val t) (y := val t) (by omega) (by omega) (by omega) (by omega)
  have pA : 0 ≤ M * val t := Int.mul_nonneg (by omega) (by omega)
  have pE : c * (M * val t) ≤ 1000 * (M * val t) := Int.mul_le_mul_of_nonneg_right hc pA
  have ks : -(2 * (M * val t)) ≤ val s * U ∧ val s * U ≤ 2 * (M * val t) := by
    simp only [Int.neg_mul] at i6
    generalize c * (M * val t) = cA at *
    generalize M * val t = A at *
    generalize h * val t = ht at *
    generalize l * val t = lt at *
    generalize val s * (U : Int) = sU at *
    omega
  have kb : 2 * (M * val t) ≤ (val t).toNat * (2 * M) := by rw [et, Int.mul_left_comm (val t), Int.mul_comm (val t) M]; omega
  obtain ⟨fm, u, v⟩ := r.close (y := 2 * (M * val t)) ks (big_ok kb (by omega))
  rw [et] at u v
  refine ⟨m, e, fm, ?_, ?_⟩
  · apply Int.le_of_mul_le_mul_left ?_ (show 0 < val t by omega)
    rw [Int.mul_add, Int.mul_left_comm, Int.mul_left_comm (val t), Int.mul_left_comm (val t), Int.mul_comm (val t) M, Int.mul_comm (val t) h]
    have q2 : 4503599627370496 * val t ≤ M * val t := Int.mul_le_mul_of_nonneg_right (by omega) (by omega)
    generalize c * (M * val t) = cA at *
    generalize M * val t = A at *
    generalize h * val t = ht at *
    generalize val s * (U : Int) = sU at *
    generalize val t * val m = tm at *
    omega
  · apply Int.le_of_mul_le_mul_left ?_ (show 0 < val t by omega)
    rw [Int.mul_add, Int.mul_left_comm, Int.mul_left_comm (val t), Int.mul_left_comm (val t), Int.mul_comm (val t) M, Int.mul_comm (val t) l]
    have q2 : 4503599627370496 * val t ≤ M * val t := Int.mul_le_mul_of_nonneg_right (by omega) (by omega)
    simp only [Int.neg_mul] at i6
    generalize c * (M * val t) = cA at *
    generalize M * val t = A at *
    generalize l * val t = lt at *
    generalize val s * (U : Int) = sU at *
    generalize val t * val m = tm at *
    omega
/-- Millionths. -/
theorem micro_is : Is 4517329193108106637 false ((4722366482869645 * 2 ^ L2 : Nat) : Int) :=
  have e : L2 = 1002 := rfl
  const_is 4517329193108106637 L2 4722366482869645 (by rw [e]) (by omega) (by omega) (by omega)
theorem U_L2 : U = 4722366482869645213696 * 2 ^ L2 := by rw [U_Q, Q_L2]; omega
/-- The slack is greater than what is rounded. -/
theorem mean_slack {M h l : Int} {g fh fl m : Nat} (b : MBd M h l) (fg : fin g = true) (hg : val g = M - U) (ffh : fin fh = true) (ffl : fin fl = true) (vh : val fh = h) (vl : val fl = l)
    (m1 : 4503599627370496 * val m ≤ 4503599627370496 * h + 1003 * M) (m2 : 4503599627370496 * l ≤ 4503599627370496 * val m + 1003 * M) :
    ∃ p q y z, Go.floatBits .add .f64 4607182418800017408 g = some p ∧ Go.floatBits .mul .f64 4517329193108106637 p = some q ∧ Go.floatBits .add .f64 fh q = some y ∧ Go.floatBits .sub .f64 fl q = some z ∧ fin y = true ∧ fin z = true ∧ val z ≤ val m ∧ val m ≤ val y := by
  obtain ⟨b1, b2, b3, b4, b5⟩ := b
  have hU := U_big
  have o := one_is
  have c := micro_is
  have hC : 999999 * val 4517329193108106637 ≤ U ∧ (U : Int) ≤ 1000001 * val 4517329193108106637 ∧ 0 ≤ val 4517329193108106637 := by
    rw [c.val, U_L2]
    have : 0 < 2 ^ L2 := two_pow_pos _
    generalize 2 ^ L2 = w at *
    omega
  obtain ⟨p, ep, rp⟩ := add_rnd o.fin fg
  rw [o.val, hg] at rp
  obtain ⟨fp, p1, p2⟩ := rp.close (y := M) (by omega) (big_ok (mul_le_one (Int.le_refl _)) (by omega))
  rw [show ((1 : Nat) : Int) * val p = val p by omega] at p1 p2
  obtain ⟨q, eq, rq⟩ := mul_rnd c.fin fp
  generalize val 4517329193108106637 = C at *
  have e1 : 999999 * (C * val p) ≤ U * val p := by
    rw [← Int.mul_assoc]; exact Int.mul_le_mul_of_nonneg_right hC.1 (by omega)
  have e2 : U * val p ≤ 1000001 * (C * val p) := by
    rw [← Int.mul_assoc]; exact Int.mul_le_mul_of_nonneg_right hC.2.1 (by omega)
  have e3 : 0 ≤ C * val p := Int.mul_nonneg hC.2.2 (by omega)
  have pU : (0 : Int) < U := by omega
  have e0 : 0 ≤ U * val p := Int.mul_nonneg (by omega) (by omega)
  obtain ⟨fq, q1, q2⟩ := rq.close (y := C * val p) (by omega) (big_ok (show C * val p ≤ U * val p by omega) (by omega))
  have k1 : 2000000 * val q ≤ 3 * val p + 4000000 := by
    apply Int.le_of_mul_le_mul_left ?_ pU
    rw [Int.mul_add, Int.mul_left_comm, Int.mul_left_comm (U : Int) 3]
    generalize C * val p = X at *
    generalize (U : Int) * val p = Y at *
    generalize (U : Int) * val q = Z at *
    omega
  have k2 : val p ≤ 2000000 * val q + 4000000 := by
    apply Int.le_of_mul_le_mul_left ?_ pU
    rw [Int.mul_add, Int.mul_left_comm]
    generalize C * val p = X at *
    generalize (U : Int) * val p = Y at *
    generalize (U : Int) * val q = Z at *
    omega
  obtain ⟨y, ey, ry⟩ := add_rnd ffh fq
  obtain ⟨z, ez, rz⟩ := sub_rnd ffl fq rq.lt
  rw [vh] at ry
  rw [vl] at rz
  obtain ⟨fy, y1, y2⟩ := ry.close (y := 2 * M) (by omega) (big_ok (mul_le_one (Int.le_refl _)) (by omega))
  obtain ⟨fz, z1, z2⟩ := rz.close (y := 2 * M) (by omega) (big_ok (mul_le_one (Int.le_refl _)) (by omega))
  rw [show ((1 : Nat) : Int) * val y = val y by omega] at y1 y2
  rw [show ((1 : Nat) : Int) * val z = val z by omega] at z1 z2
  exact ⟨p, q, y, z, ep, eq, ey, ez, fy, fz, by omega, by omega⟩
end Go.Proofs.Ytjddmcecllhlhaa.Flo
