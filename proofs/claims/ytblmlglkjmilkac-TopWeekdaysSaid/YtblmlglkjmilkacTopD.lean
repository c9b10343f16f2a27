/-
  noontidetop.TopWeekdays: the walk.
-/
import Derived.Test.YtblmlglkjmilkacNooL
import Derived.Test.YtblmlglkjmilkacWeeC
namespace Go.Proofs.Ytblmlglkjmilkac
open Go.RowKit Flo Cal
attribute [local go_sem] BW.cell BW.frozen
set_option maxRecDepth 100000 in
set_option maxHeartbeats 4000000 in
theorem TopWeekdays_a (n d c Y A B x y : Int) (s : Nat) (h0 : -10000000 ≤ n) (h1 : n ≤ 10000000) (d0 : 0 ≤ d) (d1 : d ≤ 6) (c0 : 1 ≤ c) (c1 : c ≤ 7) (hc : c % 7 = d) (hz : ∀ w : World, Calls Try.prog 13 #[.int .i64 0] w fun e w' => e = .returned (.float .f64 4702495533095190528) ∧ Below w.heap.size w w') (hO : ∀ w : World, Calls Try.prog 13 #[.int .i64 (n * 86400 + 43200)] w fun e w' => e = .returned (.float .f64 s) ∧ Below w.heap.size w w') (hP : ∀ w : World, Calls Try.prog 14 #[.float .f64 s] w fun e w' => e = .returned (.tuple #[.float .f64 s, .float .f64 0]) ∧ Below w.heap.size w w') (hS : ∀ w : World, Calls Try.prog 15 #[.float .f64 s, .int .i64 3] w fun e w' => e = .returned (.tuple #[.int .i64 (n * 86400 + 43200), .int .i64 0]) ∧ Below w.heap.size w w') (hW : ∀ w : World, Calls Try.prog 16 #[.int .i64 n] w fun e w' => e = .returned (.int .i64 d) ∧ Below w.heap.size w w') (hD : ∀ w : World, Calls Try.prog 17 #[.int .i64 n] w fun e w' => e = .returned (.tuple #[dat Y A B, .int .i64 0]) ∧ Below w.heap.size w w') (hK : ∀ w : World, Calls Try.prog 18 #[dat Y A B] w fun e w' => e = .returned (.tuple #[dat x y c, .int .i64 0]) ∧ Below w.heap.size w w') (hv : ∀ w : World, (convert 22 2 (.float .f64 s)).run Try.prog w = .ok (.int .i64 (n + 2440588)) w) (hq : (n + 2440588 + 1).tmod 7 = d) (w : World) : Calls Try.prog 5 #[.int .i64 n] w fun e w' => e = .returned (.bool true) ∧ Below w.heap.size w w' := by
  go_enter Try.func5, Try.ntmps5
  go_wp2_with fail
  refine (hz _).mono ?_
  rintro e w1 ⟨rfl, hb1⟩
  have B1 : Below w.heap.size w w1 := by (focus (repeat' (first | assumption | exact Below.refl _ _ | refine Below.alloc ?_ ?_ _ | refine Below.setCell ?_ ?_ _ | refine Below.drew ?_ | refine below_drewN ?_ _ | refine Below.trans ?_ (Below.mono (by assumption) ?_) | refine Below.trans ?_ (Below.mono (BW.below _) ?_) | (simp; done) | (simp; omega) | omega)))
  have n1 : w.heap.size ≤ w1.heap.size := B1.size
  clear hb1
  go_wp2_with fail
  refine (hO _).mono ?_
  rintro e w2 ⟨rfl, hb2⟩
  have B2 : Below w.heap.size w w2 := by (focus (repeat' (first | assumption | exact Below.refl _ _ | refine Below.alloc ?_ ?_ _ | refine Below.setCell ?_ ?_ _ | refine Below.drew ?_ | refine below_drewN ?_ _ | refine Below.trans ?_ (Below.mono (by assumption) ?_) | refine Below.trans ?_ (Below.mono (BW.below _) ?_) | (simp; done) | (simp; omega) | omega)))
  have n2 : w.heap.size ≤ w2.heap.size := B2.size
  clear hb2 B1
  go_wp2_with fail
  refine (hP _).mono ?_
  rintro e w3 ⟨rfl, hb3⟩
  have B3 : Below w.heap.size w w3 := by (focus (repeat' (first | assumption | exact Below.refl _ _ | refine Below.alloc ?_ ?_ _ | refine Below.setCell ?_ ?_ _ | refine Below.drew ?_ | refine below_drewN ?_ _ | refine Below.trans ?_ (Below.mono (by assumption) ?_) | refine Below.trans ?_ (Below.mono (BW.below _) ?_) | (simp; done) | (simp; omega) | omega)))
  have n3 : w.heap.size ≤ w3.heap.size := B3.size
  clear hb3 B2
  go_wp2_with fail
  refine (hS _).mono ?_
  rintro e w4 ⟨rfl, hb4⟩
  have B4 : Below w.heap.size w w4 := by (focus (repeat' (first | assumption | exact Below.refl _ _ | refine Below.alloc ?_ ?_ _ | refine Below.setCell ?_ ?_ _ | refine Below.drew ?_ | refine below_drewN ?_ _ | refine Below.trans ?_ (Below.mono (by assumption) ?_) | refine Below.trans ?_ (Below.mono (BW.below _) ?_) | (simp; done) | (simp; omega) | omega)))
  have n4 : w.heap.size ≤ w4.heap.size := B4.size
  clear hb4 B3
  go_wp2_with fail
  refine (hW _).mono ?_
  rintro e w5 ⟨rfl, hb5⟩
  have B5 : Below w.heap.size w w5 := by (focus (repeat' (first | assumption | exact Below.refl _ _ | refine Below.alloc ?_ ?_ _ | refine Below.setCell ?_ ?_ _ | refine Below.drew ?_ | refine below_drewN ?_ _ | refine Below.trans ?_ (Below.mono (by assumption) ?_) | refine Below.trans ?_ (Below.mono (BW.below _) ?_) | (simp; done) | (simp; omega) | omega)))
  have n5 : w.heap.size ≤ w5.heap.size := B5.size
  clear hb5 B4
  go_wp2_with fail
  refine (hD _).mono ?_
  rintro e w6 ⟨rfl, hb6⟩
  have B6 : Below w.heap.size w w6 := by (focus (repeat' (first | assumption | exact Below.refl _ _ | refine Below.alloc ?_ ?_ _ | refine Below.setCell ?_ ?_ _ | refine Below.drew ?_ | refine below_drewN ?_ _ | refine Below.trans ?_ (Below.mono (by assumption) ?_) | refine Below.trans ?_ (Below.mono (BW.below _) ?_) | (simp; done) | (simp; omega) | omega)))
  have n6 : w.heap.size ≤ w6.heap.size := B6.size
  clear hb6 B5
  go_wp2_with fail
  refine (hK _).mono ?_
  rintro e w7 ⟨rfl, hb7⟩
  have B7 : Below w.heap.size w w7 := by (focus (repeat' (first | assumption | exact Below.refl _ _ | refine Below.alloc ?_ ?_ _ | refine Below.setCell ?_ ?_ _ | refine Below.drew ?_ | refine below_drewN ?_ _ | refine Below.trans ?_ (Below.mono (by assumption) ?_) | refine Below.trans ?_ (Below.mono (BW.below _) ?_) | (simp; done) | (simp; omega) | omega)))
  have n7 : w.heap.size ≤ w7.heap.size := B7.size
  clear hb7 B6
  go_wp2_with fail
  go_ret
  exact ⟨rfl, by (focus (repeat' (first | assumption | exact Below.refl _ _ | refine Below.alloc ?_ ?_ _ | refine Below.setCell ?_ ?_ _ | refine Below.drew ?_ | refine below_drewN ?_ _ | refine Below.trans ?_ (Below.mono (by assumption) ?_) | refine Below.trans ?_ (Below.mono (BW.below _) ?_) | (simp; done) | (simp; omega) | omega)))⟩
set_option maxRecDepth 100000 in
set_option maxHeartbeats 4000000 in
theorem TopWeekdays_b (n d c Y A B x y : Int) (s : Nat) (h0 : -10000000 ≤ n) (h1 : n ≤ 10000000) (d0 : 0 ≤ d) (d1 : d ≤ 6) (c0 : 1 ≤ c) (c1 : c ≤ 7) (hc : c % 7 = d) (hz : ∀ w : World, Calls Try.prog 13 #[.int .i64 0] w fun e w' => e = .returned (.float .f64 4702495533095190528) ∧ Below w.heap.size w w') (hO : ∀ w : World, Calls Try.prog 13 #[.int .i64 (n * 86400 + 43200)] w fun e w' => e = .returned (.float .f64 s) ∧ Below w.heap.size w w') (hP : ∀ w : World, Calls Try.prog 14 #[.float .f64 s] w fun e w' => e = .returned (.tuple #[.float .f64 s, .float .f64 0]) ∧ Below w.heap.size w w') (hS : ∀ w : World, Calls Try.prog 15 #[.float .f64 s, .int .i64 3] w fun e w' => e = .returned (.tuple #[.int .i64 (n * 86400 + 43200), .int .i64 0]) ∧ Below w.heap.size w w') (hW : ∀ w : World, Calls Try.prog 16 #[.int .i64 n] w fun e w' => e = .returned (.int .i64 d) ∧ Below w.heap.size w w') (hD : ∀ w : World, Calls Try.prog 17 #[.int .i64 n] w fun e w' => e = .returned (.tuple #[dat Y A B, .int .i64 0]) ∧ Below w.heap.size w w') (hK : ∀ w : World, Calls Try.prog 18 #[dat Y A B] w fun e w' => e = .returned (.tuple #[dat x y c, .int .i64 0]) ∧ Below w.heap.size w w') (hv : ∀ w : World, (convert 22 2 (.float .f64 s)).run Try.prog w = .ok (.int .i64 (n + 2440588)) w) (hq : (n + 2440588 + 1).tmod 7 = d - 7) (hn : (d - 7 == d) = false) (w : World) : Calls Try.prog 5 #[.int .i64 n] w fun e w' => e = .returned (.bool true) ∧ Below w.heap.size w w' := by
  go_enter Try.func5, Try.ntmps5
  go_wp2_with fail
  refine (hz _).mono ?_
  rintro e w1 ⟨rfl, hb1⟩
  have B1 : Below w.heap.size w w1 := by (focus (repeat' (first | assumption | exact Below.refl _ _ | refine Below.alloc ?_ ?_ _ | refine Below.setCell ?_ ?_ _ | refine Below.drew ?_ | refine below_drewN ?_ _ | refine Below.trans ?_ (Below.mono (by assumption) ?_) | refine Below.trans ?_ (Below.mono (BW.below _) ?_) | (simp; done) | (simp; omega) | omega)))
  have n1 : w.heap.size ≤ w1.heap.size := B1.size
  clear hb1
  go_wp2_with fail
  refine (hO _).mono ?_
  rintro e w2 ⟨rfl, hb2⟩
  have B2 : Below w.heap.size w w2 := by (focus (repeat' (first | assumption | exact Below.refl _ _ | refine Below.alloc ?_ ?_ _ | refine Below.setCell ?_ ?_ _ | refine Below.drew ?_ | refine below_drewN ?_ _ | refine Below.trans ?_ (Below.mono (by assumption) ?_) | refine Below.trans ?_ (Below.mono (BW.below _) ?_) | (simp; done) | (simp; omega) | omega)))
  have n2 : w.heap.size ≤ w2.heap.size := B2.size
  clear hb2 B1
  go_wp2_with fail
  refine (hP _).mono ?_
  rintro e w3 ⟨rfl, hb3⟩
  have B3 : Below w.heap.size w w3 := by (focus (repeat' (first | assumption | exact Below.refl _ _ | refine Below.alloc ?_ ?_ _ | refine Below.setCell ?_ ?_ _ | refine Below.drew ?_ | refine below_drewN ?_ _ | refine Below.trans ?_ (Below.mono (by assumption) ?_) | refine Below.trans ?_ (Below.mono (BW.below _) ?_) | (simp; done) | (simp; omega) | omega)))
  have n3 : w.heap.size ≤ w3.heap.size := B3.size
  clear hb3 B2
  go_wp2_with fail
  refine (hS _).mono ?_
  rintro e w4 ⟨rfl, hb4⟩
  have B4 : Below w.heap.size w w4 := by (focus (repeat' (first | assumption | exact Below.refl _ _ | refine Below.alloc ?_ ?_ _ | refine Below.setCell ?_ ?_ _ | refine Below.drew ?_ | refine below_drewN ?_ _ | refine Below.trans ?_ (Below.mono (by assumption) ?_) | refine Below.trans ?_ (Below.mono (BW.below _) ?_) | (simp; done) | (simp; omega) | omega)))
  have n4 : w.heap.size ≤ w4.heap.size := B4.size
  clear hb4 B3
  go_wp2_with fail
  refine (hW _).mono ?_
  rintro e w5 ⟨rfl, hb5⟩
  have B5 : Below w.heap.size w w5 := by (focus (repeat' (first | assumption | exact Below.refl _ _ | refine Below.alloc ?_ ?_ _ | refine Below.setCell ?_ ?_ _ | refine Below.drew ?_ | refine below_drewN ?_ _ | refine Below.trans ?_ (Below.mono (by assumption) ?_) | refine Below.trans ?_ (Below.mono (BW.below _) ?_) | (simp; done) | (simp; omega) | omega)))
  have n5 : w.heap.size ≤ w5.heap.size := B5.size
  clear hb5 B4
  go_wp2_with fail
  refine (hD _).mono ?_
  rintro e w6 ⟨rfl, hb6⟩
  have B6 : Below w.heap.size w w6 := by (focus (repeat' (first | assumption | exact Below.refl _ _ | refine Below.alloc ?_ ?_ _ | refine Below.setCell ?_ ?_ _ | refine Below.drew ?_ | refine below_drewN ?_ _ | refine Below.trans ?_ (Below.mono (by assumption) ?_) | refine Below.trans ?_ (Below.mono (BW.below _) ?_) | (simp; done) | (simp; omega) | omega)))
  have n6 : w.heap.size ≤ w6.heap.size := B6.size
  clear hb6 B5
  go_wp2_with fail
  refine (hK _).mono ?_
  rintro e w7 ⟨rfl, hb7⟩
  have B7 : Below w.heap.size w w7 := by (focus (repeat' (first | assumption | exact Below.refl _ _ | refine Below.alloc ?_ ?_ _ | refine Below.setCell ?_ ?_ _ | refine Below.drew ?_ | refine below_drewN ?_ _ | refine Below.trans ?_ (Below.mono (by assumption) ?_) | refine Below.trans ?_ (Below.mono (BW.below _) ?_) | (simp; done) | (simp; omega) | omega)))
  have n7 : w.heap.size ≤ w7.heap.size := B7.size
  clear hb7 B6
  go_wp2_with fail
  go_ret
  exact ⟨rfl, by (focus (repeat' (first | assumption | exact Below.refl _ _ | refine Below.alloc ?_ ?_ _ | refine Below.setCell ?_ ?_ _ | refine Below.drew ?_ | refine below_drewN ?_ _ | refine Below.trans ?_ (Below.mono (by assumption) ?_) | refine Below.trans ?_ (Below.mono (BW.below _) ?_) | (simp; done) | (simp; omega) | omega)))⟩
theorem TopWeekdays_l (n : Int) (h : n < -10000000) (hz : ∀ w : World, Calls Try.prog 13 #[.int .i64 0] w fun e w' => e = .returned (.float .f64 4702495533095190528) ∧ Below w.heap.size w w') (w : World) : Calls Try.prog 5 #[.int .i64 n] w fun e w' => e = .returned (.bool true) ∧ Below w.heap.size w w' := by
  go_enter Try.func5, Try.ntmps5
  go_wp2_with fail
  refine (hz _).mono ?_
  rintro e w1 ⟨rfl, hb1⟩
  have B1 : Below w.heap.size w w1 := by (focus (repeat' (first | assumption | exact Below.refl _ _ | refine Below.alloc ?_ ?_ _ | refine Below.setCell ?_ ?_ _ | refine Below.drew ?_ | refine below_drewN ?_ _ | refine Below.trans ?_ (Below.mono (by assumption) ?_) | refine Below.trans ?_ (Below.mono (BW.below _) ?_) | (simp; done) | (simp; omega) | omega)))
  have n1 : w.heap.size ≤ w1.heap.size := B1.size
  clear hb1
  go_wp2_with fail
  go_ret
  exact ⟨rfl, by (focus (repeat' (first | assumption | exact Below.refl _ _ | refine Below.alloc ?_ ?_ _ | refine Below.setCell ?_ ?_ _ | refine Below.drew ?_ | refine below_drewN ?_ _ | refine Below.trans ?_ (Below.mono (by assumption) ?_) | refine Below.trans ?_ (Below.mono (BW.below _) ?_) | (simp; done) | (simp; omega) | omega)))⟩
theorem TopWeekdays_g (n : Int) (h : 10000000 < n) (hz : ∀ w : World, Calls Try.prog 13 #[.int .i64 0] w fun e w' => e = .returned (.float .f64 4702495533095190528) ∧ Below w.heap.size w w') (w : World) : Calls Try.prog 5 #[.int .i64 n] w fun e w' => e = .returned (.bool true) ∧ Below w.heap.size w w' := by
  have h2 : decide (n < -10000000) = false := decide_eq_false (by omega)
  go_enter Try.func5, Try.ntmps5
  go_wp2_with fail
  refine (hz _).mono ?_
  rintro e w1 ⟨rfl, hb1⟩
  have B1 : Below w.heap.size w w1 := by (focus (repeat' (first | assumption | exact Below.refl _ _ | refine Below.alloc ?_ ?_ _ | refine Below.setCell ?_ ?_ _ | refine Below.drew ?_ | refine below_drewN ?_ _ | refine Below.trans ?_ (Below.mono (by assumption) ?_) | refine Below.trans ?_ (Below.mono (BW.below _) ?_) | (simp; done) | (simp; omega) | omega)))
  have n1 : w.heap.size ≤ w1.heap.size := B1.size
  clear hb1
  go_wp2_with fail
  go_ret
  exact ⟨rfl, by (focus (repeat' (first | assumption | exact Below.refl _ _ | refine Below.alloc ?_ ?_ _ | refine Below.setCell ?_ ?_ _ | refine Below.drew ?_ | refine below_drewN ?_ _ | refine Below.trans ?_ (Below.mono (by assumption) ?_) | refine Below.trans ?_ (Below.mono (BW.below _) ?_) | (simp; done) | (simp; omega) | omega)))⟩
theorem TopWeekdays_walk (n : Int) (w : World) : Calls Try.prog 5 #[.int .i64 n] w fun e w' => e = .returned (.bool true) ∧ Below w.heap.size w w' := by
  have hz := fun w => gf_is (julian_Of 0 w) (c := 4702495533095190528) (by kernel_rfl)
  by_cases h0 : -10000000 ≤ n
  · by_cases h1 : n ≤ 10000000
    · obtain ⟨s, es, ls, fs, vs⟩ := noon_word h0 h1
      have hO := fun w => gf_is (julian_Of (n * 86400 + 43200) w) es
      have ns : nz s = some s := nz_some (fin_nan fs)
      obtain ⟨p1, p2⟩ := noon_parts ls fs vs
      have hP : ∀ w : World, Calls Try.prog 14 #[.float .f64 s] w fun e w' => e = .returned (.tuple #[.float .f64 s, .float .f64 0]) ∧ Below w.heap.size w w' := by
        intro w
        have := julian_Parts s ls w
        rw [ns, p1, p2] at this
        refine this.mono ?_
        rintro e w' ⟨x, y, rfl, hx, hy, hb⟩
        have ex := nz_eq_some hx.out.2
        have ey := nz_eq_some hy.out.2
        rw [ex.1, ey.1]
        exact ⟨rfl, hb⟩
      have hS : ∀ w : World, Calls Try.prog 15 #[.float .f64 s, .int .i64 3] w fun e w' => e = .returned (.tuple #[.int .i64 (n * 86400 + 43200), .int .i64 0]) ∧ Below w.heap.size w w' := by
        intro w
        have := julian_Secs s 3 w
        obtain ⟨a, b⟩ := noon_secs h0 h1 fs vs
        rwa [ns, a, b] at this
      have hW := fun w => civil_Weekday n (I64.sm (by omega)) w
      have hd : dtOk n = true := (dt_iff n).2 (by omega)
      have hD := fun w => civil_Date n w
      obtain ⟨e1, e2, e3, e4⟩ := dt_y hd
      rw [e1, e2, e3, e4] at hD
      have hyr := (dtOk_year n).1 hd
      have hr := date_right n
      rw [decide_eq_true hyr] at hr
      have hK := fun w => week_Of (dateY n) (dateM n) (dateD n) (I64.sm (by omega)) w
      have hnum := (date_ok n).2.2.2.2
      have near := wk_near n
      have hin := wk_in n
      have hmb := mon_bd n
      have yb : -39999 ≤ wkY n ∧ wkY n ≤ 39999 := by
        have f0 := wfst_bd (wkY n)
        have f1 := wfst_bd (wkY n + 1)
        constructor
        · apply Classical.byContradiction
          intro hh
          have := ahead_mono (a := wkY n + 1) (b := -39999) (by omega)
          have : Cal.ahead (-39999) = -15328862 := by decide
          omega
        · apply Classical.byContradiction
          intro hh
          have := ahead_mono (a := 40000) (b := wkY n) (by omega)
          have : Cal.ahead 40000 = 13890172 := by decide
          omega
      have hok : woOk (dateY n) (dateM n) (dateD n) = true := by
        unfold woOk
        rw [hr, hnum, decide_eq_true yb]
        rfl
      obtain ⟨k1, k2, k3, k4⟩ := wo_y hok
      rw [k1, k2, k3, k4, hnum] at hK
      obtain ⟨_, _, w3, w4, w5, _⟩ := wk_week n
      have wd := wday_bd n
      have hv : ∀ w : World, (convert 22 2 (.float .f64 s)).run Try.prog w = .ok (.int .i64 (n + 2440588)) w := fun w => run_convert_float_int w _ _ _ _ _ _ (by kernel_rfl) (by kernel_rfl) (noon_int h0 h1 fs vs)
      have hc : wkD n % 7 = wday n := by
        rw [w3]
        unfold wday
        omega
      rcases noon_day n with hq | hq
      · exact TopWeekdays_a _ _ _ _ _ _ _ _ _ h0 h1 wd.1 wd.2 w4 w5 hc hz hO hP hS hW hD hK hv hq w
      · exact TopWeekdays_b _ _ _ _ _ _ _ _ _ h0 h1 wd.1 wd.2 w4 w5 hc hz hO hP hS hW hD hK hv hq (by simp; omega) w
    · exact TopWeekdays_g n (by omega) hz w
  · exact TopWeekdays_l n (by omega) hz w
end Go.Proofs.Ytblmlglkjmilkac
