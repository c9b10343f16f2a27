/-
  noontidelaw02: RealRounded, joined.
-/
import Derived.Test.YtblmlglkjmilkacReaR2
import Derived.Test.YtblmlglkjmilkacReaR3
namespace Go.Proofs.Ytblmlglkjmilkac
open Go.RowKit Flo Ieee

theorem word_m {x y : Nat} {way : Toward} (h : rdW way x = some y) {m : Int} (hm : 1 ≤ m ∧ m ≤ 4) (hw : wayM m = way) : rdV x m = some y ∧ rdE m = 0 := by
  have hb : modB m = true := decide_eq_true hm
  exact ⟨(rd_y hb).1.trans (by rw [hw]; exact h), (rd_y (b := 0) hb).2⟩
theorem round_is_m {x y : Nat} (lx : x < 18446744073709551616) {m : Int} (h : rdV x m = some y ∧ rdE m = 0) (w : World) : Calls Try.prog 11 #[.float .f64 x, .int .i64 m] w fun e w' => e = .returned (.tuple #[.float .f64 y, .int .i64 0]) ∧ Below w.heap.size w w' :=
  gfe_is (real_Round x m lx w) h.1 h.2
theorem six_whole (n : Int) (m : Int) (w : World) (hm : 1 ≤ m ∧ m ≤ 4) : Calls Try.prog 12 #[.float .f64 (floatOfInt .f64 (n.tmod 1000000)), .int .i64 m] w fun e w' => e = .returned (.tuple #[.int .i64 (n.tmod 1000000), .int .i64 0]) ∧ Below w.heap.size w w' := by
  have h1 := Int.tmod_lt_of_pos n (show (0 : Int) < 1000000 by omega)
  have h2 : -1000000 < n.tmod 1000000 := by
    have := Int.tmod_lt_of_pos (-n) (show (0 : Int) < 1000000 by omega)
    rw [Int.neg_tmod] at this
    omega
  obtain ⟨a, b⟩ := whole_int ⟨h2, h1⟩ hm
  exact whole_is _ (int_rnd _).lt b a w
/-- A number that is one, given the words that it is rounded to. -/
theorem RealRounded_num {x d u z v : Nat} {Q K : World → Nat} (n : Int) (lx : x < 18446744073709551616) (nx : isnan x = false) (ld : d < 18446744073709551616) (lu : u < 18446744073709551616) (lz : z < 18446744073709551616) (lv : v < 18446744073709551616)
    (ed : rdW .down x = some d) (eu : rdW .up x = some u) (ez : rdW .zero x = some z) (ev : rdW .even x = some v) (ad : ∀ way, rdW way d = some d) (au : ∀ way, rdW way u = some u) (az : ∀ way, rdW way z = some z) (av : ∀ way, rdW way v = some v)
    (g1 : (FloatKind.f64.format.order d x == some .gt) = false) (g2 : (FloatKind.f64.format.order u x == some .lt) = false)
    (hq : ∀ w : World, (binOp .sub 22 (.float .f64 u) (.float .f64 d)).run Try.prog w = .ok (.float .f64 (Q w)) (w.drewN (K w))) (g3 : ∀ w : World, (FloatKind.f64.format.order (Q w) 4607182418800017408 == some .gt) = false)
    (HX : (FloatKind.f64.format.order x 0 = some .gt ∧ FloatKind.f64.format.order z d = some .eq) ∨ (FloatKind.f64.format.order x 0 = some .eq ∧ FloatKind.f64.format.order z d = some .eq ∧ FloatKind.f64.format.order z u = some .eq) ∨ (FloatKind.f64.format.order x 0 = some .lt ∧ FloatKind.f64.format.order z u = some .eq))
    (HE : (FloatKind.f64.format.order v d = some .eq ∧ FloatKind.f64.format.order v u = some .eq) ∨ (FloatKind.f64.format.order v d = some .eq ∧ ¬ FloatKind.f64.format.order v u = some .eq ∧ ∃ p r, (∀ w : World, (binOp .sub 22 (.float .f64 u) (.float .f64 x)).run Try.prog w = .ok (.float .f64 p) w) ∧ (∀ w : World, (binOp .sub 22 (.float .f64 x) (.float .f64 d)).run Try.prog w = .ok (.float .f64 r) w) ∧ (FloatKind.f64.format.order r p = some .lt ∨ FloatKind.f64.format.order r p = some .eq)) ∨
      (¬ FloatKind.f64.format.order v d = some .eq ∧ FloatKind.f64.format.order v u = some .eq ∧ ∃ p r, (∀ w : World, (binOp .sub 22 (.float .f64 u) (.float .f64 x)).run Try.prog w = .ok (.float .f64 p) w) ∧ (∀ w : World, (binOp .sub 22 (.float .f64 x) (.float .f64 d)).run Try.prog w = .ok (.float .f64 r) w) ∧ (FloatKind.f64.format.order p r = some .lt ∨ FloatKind.f64.format.order p r = some .eq)))
    (w : World) : Calls Try.prog 4 #[.float .f64 x, .int .i64 n] w fun e w' => e = .returned (.bool true) ∧ Below w.heap.size w w' := by
  have R : ∀ {y : Nat}, y < 18446744073709551616 → (∀ way, rdW way y = some y) → ∀ (m : Int) (w : World), 1 ≤ m ∧ m ≤ 4 → Calls Try.prog 11 #[.float .f64 y, .int .i64 m] w fun e w' => e = .returned (.tuple #[.float .f64 y, .int .i64 0]) ∧ Below w.heap.size w w' :=
    fun ly ay m w hm => round_is_m ly (word_m (ay _) hm rfl) w
  have S : ∀ {y : Nat}, y < 18446744073709551616 → ∀ w : World, Calls Try.prog 9 #[.float .f64 y, .float .f64 y] w fun e w' => e = .returned (.bool true) ∧ w = w' :=
    fun ly w => same_is _ _ ly ly (by simp) w
  have n0 : (FloatKind.f64.format.order x x != some .eq) = false := (ord_self x).trans nx
  exact RealRounded_fin x d u z v Q K n (fun w => round_is_m lx (word_m ed (by omega) rfl) w) (fun w => round_is_m lx (word_m eu (by omega) rfl) w) (fun w => round_is_m lx (word_m ez (by omega) rfl) w) (fun w => round_is_m lx (word_m ev (by omega) rfl) w)
    (R ld ad) (S ld) (R lu au) (S lu) (R lz az) (S lz) (R lv av) (S lv) (six_whole n) n0 g1 g2 hq g3 (Lib.hid HX) (Lib.hid HE) w
theorem o_lt {a b : Nat} (ha : isnan a = false) (hb : isnan b = false) (h : val a < val b) : FloatKind.f64.format.order a b = some .lt := by
  have := (ov_lt ha hb).trans (decide_eq_true h)
  exact eq_of_beq this
theorem o_gt {a b : Nat} (ha : isnan a = false) (hb : isnan b = false) (h : val b < val a) : FloatKind.f64.format.order a b = some .gt := by
  have := (ov_gt ha hb).trans (decide_eq_true h)
  exact eq_of_beq this
theorem o_eq {a b : Nat} (ha : isnan a = false) (hb : isnan b = false) (h : val a = val b) : FloatKind.f64.format.order a b = some .eq := by
  have := (ov_eq ha hb).trans (decide_eq_true h)
  exact eq_of_beq this
theorem o_ne {a b : Nat} (ha : isnan a = false) (hb : isnan b = false) (h : val a ≠ val b) : ¬ FloatKind.f64.format.order a b = some .eq := by
  intro hh
  have := (ov_eq ha hb).symm.trans (show (double.order a b == some .eq) = true from by rw [show double.order a b = some .eq from hh]; rfl)
  exact h (of_decide_eq_true this)
theorem o_le {a b : Nat} (ha : isnan a = false) (hb : isnan b = false) (h : val a ≤ val b) : FloatKind.f64.format.order a b = some .lt ∨ FloatKind.f64.format.order a b = some .eq := by
  by_cases hh : val a = val b
  · exact .inr (o_eq ha hb hh)
  · exact .inl (o_lt ha hb (by omega))
theorem o_gtF {a b : Nat} (ha : isnan a = false) (hb : isnan b = false) (h : ¬ val b < val a) : (FloatKind.f64.format.order a b == some .gt) = false := (ov_gt ha hb).trans (decide_eq_false h)
theorem o_ltF {a b : Nat} (ha : isnan a = false) (hb : isnan b = false) (h : ¬ val a < val b) : (FloatKind.f64.format.order a b == some .lt) = false := (ov_lt ha hb).trans (decide_eq_false h)
theorem RealRounded_f {x : Nat} (n : Int) (lx : x < 18446744073709551616) (fx : fin x = true) (w : World) : Calls Try.prog 4 #[.float .f64 x, .int .i64 n] w fun e w' => e = .returned (.bool true) ∧ Below w.heap.size w w' := by
  obtain ⟨d, ed, ld, fd, _, _, vd, _⟩ := round_word fx .down
  obtain ⟨u, eu, lu, fu, _, _, vu, _⟩ := round_word fx .up
  obtain ⟨z, ez, lz, fz, _, _, vz, _⟩ := round_word fx .zero
  obtain ⟨v, ev, lv, fv, _, _, vv, _⟩ := round_word fx .even
  have nx := fin_nan fx
  have nd := fin_nan fd
  have nu := fin_nan fu
  have nz' := fin_nan fz
  have nv := fin_nan fv
  obtain ⟨h1, h2, ⟨q, hq, nq, hq1⟩, hz1, hz2, he, p, r, hp, hr, np, nr, he1, he2⟩ := rounded_fin fx lx fd ld fu vd vu vz vv
  have wd : ∀ {way : Toward} {y : Nat}, double.write ((double.read x).integral way) = y → rdW way x = some y := fun h => by simp [rdW, nx, h]
  have one := one_is
  refine RealRounded_num (Q := fun _ => q) (K := fun _ => 0) n lx nx ld lu lz lv (wd ed) (wd eu) (wd ez) (wd ev) (fun way => (again_fin ld fd vd way).1) (fun way => (again_fin lu fu vu way).1) (fun way => (again_fin lz fz vz way).1) (fun way => (again_fin lv fv vv way).1)
    (o_gtF nd nx (by omega)) (o_ltF nu nx (by omega)) (fun w => run_float_arith w .sub _ .f64 _ _ _ hq) (fun w => o_gtF nq (fin_nan one.fin) (by rw [one.val]; omega)) ?_ ?_ w
  · have i0 := i_0
    rcases Int.lt_trichotomy (val x) 0 with h | h | h
    · exact .inr (.inr ⟨o_lt nx i0.1 (by rw [i0.2]; exact h), o_eq nz' nu (hz2 (by omega))⟩)
    · exact .inr (.inl ⟨o_eq nx i0.1 (by rw [i0.2]; exact h), o_eq nz' nd (hz1 (by omega)), o_eq nz' nu (hz2 (by omega))⟩)
    · exact .inl ⟨o_gt nx i0.1 (by rw [i0.2]; exact h), o_eq nz' nd (hz1 (by omega))⟩
  · by_cases a : val v = val d
    · by_cases b : val v = val u
      · exact .inl ⟨o_eq nv nd a, o_eq nv nu b⟩
      · exact .inr (.inl ⟨o_eq nv nd a, o_ne nv nu b, p, r, fun w => run_float_arith w .sub _ .f64 _ _ _ hp, fun w => run_float_arith w .sub _ .f64 _ _ _ hr, o_le nr np (he2 b)⟩)
    · exact .inr (.inr ⟨o_ne nv nd a, o_eq nv nu (he.resolve_left a), p, r, fun w => run_float_arith w .sub _ .f64 _ _ _ hp, fun w => run_float_arith w .sub _ .f64 _ _ _ hr, o_le np nr (he1 a)⟩)
theorem RealRounded_i {x : Nat} (n : Int) (hx : x = 9218868437227405312 ∨ x = 18442240474082181120) (w : World) : Calls Try.prog 4 #[.float .f64 x, .int .i64 n] w fun e w' => e = .returned (.bool true) ∧ Below w.heap.size w w' := by
  have lx : x < 18446744073709551616 := by omega
  have hr : rg x = 9218868437227405312 := by rcases hx with rfl | rfl <;> decide
  have nx : isnan x = false := by rcases hx with rfl | rfl <;> decide
  have hn : fop .sub (nz x) (nz x) = none := by rcases hx with rfl | rfl <;> kernel_rfl
  have ai : ∀ way, rdW way x = some x := fun way => (again_inf lx nx hr way).trans (nz_some nx)
  have ch : ∀ w : World, ∃ r n, (binOp .sub 22 (.float .f64 x) (.float .f64 x)).run Try.prog w = .ok (.float .f64 r) (w.drewN n) ∧ (FloatKind.f64.format.order r 4607182418800017408 == some .gt) = false := fun w => by
    obtain ⟨r, n, h1, _, h3⟩ := run_fop (P := Try.prog) .sub (by simp) 22 x x w
    exact ⟨r, n, h1, ord_nan (.inl (nz_eq_none (h3.trans hn))) _⟩
  refine RealRounded_num (Q := fun w => Classical.choose (ch w)) (K := fun w => Classical.choose (Classical.choose_spec (ch w))) n lx nx lx lx lx lx (ai _) (ai _) (ai _) (ai _) ai ai ai ai
    (o_gtF nx nx (by omega)) (o_ltF nx nx (by omega)) (fun w => (Classical.choose_spec (Classical.choose_spec (ch w))).1) (fun w => (Classical.choose_spec (Classical.choose_spec (ch w))).2) ?_ (.inl ⟨o_eq nx nx rfl, o_eq nx nx rfl⟩) w
  rcases hx with rfl | rfl
  · exact .inl ⟨by kernel_rfl, o_eq nx nx rfl⟩
  · exact .inr (.inr ⟨by kernel_rfl, o_eq nx nx rfl⟩)
theorem RealRounded_walk (x : Nat) (n : Int) (lx : x < 18446744073709551616) (w : World) : Calls Try.prog 4 #[.float .f64 x, .int .i64 n] w fun e w' => e = .returned (.bool true) ∧ Below w.heap.size w w' := by
  cases hn : isnan x
  · by_cases hi : rg x = 9218868437227405312
    · refine RealRounded_i n ?_ w
      unfold rg at hi
      omega
    · exact RealRounded_f n lx (fin_of hn hi) w
  · refine RealRounded_nan x n ?_ ?_ ?_ (Lib.hid ⟨lx, nz_none hn⟩) (six_whole n) w
    · intro y m w hy hm
      obtain ⟨ly, ny⟩ := hy.out
      have h := real_Round y m ly w
      obtain ⟨a, b⟩ := again_m (m := m) (again_nan (nz_eq_none ny)) hm
      rwa [a, b, ny] at h
    · intro y r w hy hr
      obtain ⟨ly, ny⟩ := hy.out
      obtain ⟨lr, nr⟩ := hr.out
      exact same_is _ _ ly lr (by rw [plc_nan (nz_eq_none ny), plc_nan (nz_eq_none nr)]; rfl) w
    · intro y hy
      exact (ord_self y).trans (nz_eq_none hy.out.2)
end Go.Proofs.Ytblmlglkjmilkac
