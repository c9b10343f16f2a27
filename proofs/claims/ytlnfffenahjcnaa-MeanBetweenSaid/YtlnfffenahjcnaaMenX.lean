/-
  MeanBetween: the walk.
-/
import Derived.Test.YtlnfffenahjcnaaMenW
import Derived.Test.YtlnfffenahjcnaaMenQ
namespace Go.Proofs.Ytlnfffenahjcnaa
open Go.RowKit Go.Shelf Flo
attribute [local go_sem] unary_neg_float
theorem ordv_lt {a b : Nat} (ha : isnan a = false) (hb : isnan b = false) (h : val a < val b) : FloatKind.f64.format.order a b = some .lt := eq_of_beq ((ov_lt ha hb).trans (decide_eq_true h))
theorem ordv_gt {a b : Nat} (ha : isnan a = false) (hb : isnan b = false) (h : val b < val a) : FloatKind.f64.format.order a b = some .gt := eq_of_beq ((ov_gt ha hb).trans (decide_eq_true h))
theorem ordv_eq {a b : Nat} (ha : isnan a = false) (hb : isnan b = false) (h : val a = val b) : FloatKind.f64.format.order a b = some .eq := eq_of_beq ((ov_eq ha hb).trans (decide_eq_true h))
theorem fin_nan {b : Nat} (h : fin b = true) : isnan b = false := by
  unfold fin at h
  unfold isnan
  simp at h ⊢
  omega
theorem max2_is {P : Program} {x y : Nat} (hx : fin x = true) (hy : fin y = true) : ∃ g, (∀ w : World, (Builtin.max2 (.float .f64 x) (.float .f64 y)).run P w = .ok (.float .f64 g) w) ∧ fin g = true ∧ val g = max (val x) (val y) := by
  rcases Int.lt_trichotomy (val x) (val y) with h | h | h
  · refine ⟨y, fun w => ?_, hy, by omega⟩
    simp [Builtin.max2, ordv_lt (fin_nan hx) (fin_nan hy) h]
  · by_cases hn : (FloatKind.f64.decode x).neg = true
    · refine ⟨y, fun w => ?_, hy, by omega⟩
      simp [Builtin.max2, ordv_eq (fin_nan hx) (fin_nan hy) h, hn]
    · refine ⟨x, fun w => ?_, hx, by omega⟩
      simp [Builtin.max2, ordv_eq (fin_nan hx) (fin_nan hy) h, hn]
  · refine ⟨x, fun w => ?_, hx, by omega⟩
    simp [Builtin.max2, ordv_gt (fin_nan hx) (fin_nan hy) h]
theorem max3_is {P : Program} {x y z : Nat} (hx : fin x = true) (hy : fin y = true) (hz : fin z = true) : ∃ g, (∀ (ts : Array TypeId) (t : TypeId) (w : World), (Builtin.max_ ts t #[.float .f64 x, .float .f64 y, .float .f64 z]).run P w = .ok (.float .f64 g) w) ∧ fin g = true ∧ val g = max (max (val x) (val y)) (val z) := by
  obtain ⟨g, h1, f1, v1⟩ := max2_is (P := P) hx hy
  obtain ⟨k, h2, f2, v2⟩ := max2_is (P := P) f1 hz
  refine ⟨k, fun ts t w => ?_, f2, by rw [v2, v1]⟩
  simp [Builtin.max_, h1, h2]
theorem order_ge {a b : Nat} (ha : fin a = true) (hb : fin b = true) (h : val b ≤ val a) : FloatKind.f64.format.order a b = some .gt ∨ FloatKind.f64.format.order a b = some .eq := by
  rcases Int.lt_or_eq_of_le h with h | h
  · exact .inl (ordv_gt (fin_nan ha) (fin_nan hb) h)
  · exact .inr (ordv_eq (fin_nan ha) (fin_nan hb) h.symm)
theorem order_le {a b : Nat} (ha : fin a = true) (hb : fin b = true) (h : val a ≤ val b) : FloatKind.f64.format.order a b = some .lt ∨ FloatKind.f64.format.order a b = some .eq := by
  rcases Int.lt_or_eq_of_le h with h | h
  · exact .inl (ordv_lt (fin_nan ha) (fin_nan hb) h)
  · exact .inr (ordv_eq (fin_nan ha) (fin_nan hb) h)
/-- All that the law's last line looks at. -/
theorem between_nums {P : Program} {l : List Pt} {a b : Int} (hlen : l.length ≤ 60) (hne : cnt l a b l.length ≠ []) :
    ∃ m g p q y z, fop .quo (sumX (vls l a b)) (sumX (tms l a b)) = some m ∧ (∀ (ts : Array TypeId) (t : TypeId) (w : World), (Builtin.max_ ts t #[.float .f64 (Go.floatOfInt .f64 (endL (cnt l a b l.length)).2.1), .float .f64 (Op.negFloat .f64 (Go.floatOfInt .f64 (endL (cnt l a b l.length)).1)), .float .f64 13830554455654793216]).run P w = .ok (.float .f64 g) w) ∧
      Go.floatBits .add .f64 4607182418800017408 g = some p ∧ Go.floatBits .mul .f64 4517329193108106637 p = some q ∧ Go.floatBits .add .f64 (Go.floatOfInt .f64 (endL (cnt l a b l.length)).2.1) q = some y ∧ Go.floatBits .sub .f64 (Go.floatOfInt .f64 (endL (cnt l a b l.length)).1) q = some z ∧
      (FloatKind.f64.format.order m z = some .gt ∨ FloatKind.f64.format.order m z = some .eq) ∧ (FloatKind.f64.format.order m y = some .lt ∨ FloatKind.f64.format.order m y = some .eq) := by
  obtain ⟨_, _, e3, e4, _⟩ := endL_facts _ (cnt l a b l.length) rfl
  have hU := U_big
  unfold I64 at e3 e4
  have hl := cnt_len l a b l.length
  have f1 : fin (Go.floatOfInt .f64 (endL (cnt l a b l.length)).2.1) = true := int_fin (by omega) (by omega)
  have f2 : fin (Go.floatOfInt .f64 (endL (cnt l a b l.length)).1) = true := int_fin (by omega) (by omega)
  have lt : Go.floatOfInt .f64 (endL (cnt l a b l.length)).1 < 18446744073709551616 := by obtain ⟨r, _, e⟩ := of_int (endL (cnt l a b l.length)).1; rw [e]; exact wd_lt _ _
  have o := is_neg one_is (by omega)
  obtain ⟨g, hg, fg, vg⟩ := max3_is (P := P) f1 (show fin (Op.negFloat .f64 (Go.floatOfInt .f64 (endL (cnt l a b l.length)).1)) = true by rw [fin_neg lt]; exact f2) (show fin 13830554455654793216 = true from o.fin)
  rw [val_neg lt, show val 13830554455654793216 = -(U : Int) from o.val] at vg
  obtain ⟨m, p, q, y, z, h1, h2, h3, h4, h5, h6, h7, h8, h9, h10⟩ := mean_between hne (by omega) fg vg
  exact ⟨m, g, p, q, y, z, h1, hg, h3, h4, h5, h6, order_ge h2 h8 h9, order_le h2 h7 h10⟩
set_option maxRecDepth 100000 in
set_option maxHeartbeats 4000000 in
theorem MeanBetween_many {w : World} {p : Option Addr} {l : List Pt} (cap : Nat) (a b : Int) (h : PtS w p l) (hI : ∀ k, k < l.length → PtI (pt l k)) (hlen : 60 < l.length) (hbig : l.length ≤ 6000000000000) : Calls Try.prog 4 #[.slice p l.length cap, spn a b] w fun e w' => e = .returned (.bool true) ∧ Below w.heap.size w w' := by
  have HI := Lib.hid hI
  clear hI
  have P0 : PtS (w.alloc (.cells #[.int .i64 a, .int .i64 b] 24)) p l := h.below ((Below.refl _ _).alloc (Nat.le_refl _) _)
  have B0 : Below w.heap.size w (w.alloc (.cells #[.int .i64 a, .int .i64 b] 24)) := (Below.refl _ _).alloc (Nat.le_refl _) _
  have s0 : (w.alloc (.cells #[.int .i64 a, .int .i64 b] 24)).cell? ⟨w.heap.size, 0, none⟩ = some (.int .i64 a) := by go_simp
  have t0 : (w.alloc (.cells #[.int .i64 a, .int .i64 b] 24)).cell? ⟨w.heap.size, 1, none⟩ = some (.int .i64 b) := by go_simp
  have z0 : w.heap.size < (w.alloc (.cells #[.int .i64 a, .int .i64 b] 24)).heap.size := by simp
  have h60 : (60 : Int) < (l.length : Int) := by omega
  go_enter Try.func4, Try.ntmps4
  go_wp2_with fail
  generalize (w.alloc (.cells #[.int .i64 a, .int .i64 b] 24)) = x0 at *
  refine (mean_lives _).mono ?_
  rintro e x1 ⟨rfl, hb⟩
  have P1 := P0.below hb
  have B1 : Below w.heap.size w x1 := B0.trans (hb.mono B0.size)
  have s1 := (hb.cell (p := ⟨w.heap.size, 0, none⟩) z0).trans s0
  have t1 := (hb.cell (p := ⟨w.heap.size, 1, none⟩) z0).trans t0
  have z1 : w.heap.size < x1.heap.size := Nat.lt_of_lt_of_le z0 hb.size
  clear hb P0 B0 s0 t0 z0
  go_wp2_with fail
  refine (mean_Mean cap a b P1 (by omega) HI.out).mono ?_
  rintro e x2 ⟨y2, rfl, H2, hb⟩
  have P2 := P1.below hb
  have B2 : Below w.heap.size w x2 := B1.trans (hb.mono B1.size)
  have s2 := (hb.cell (p := ⟨w.heap.size, 0, none⟩) z1).trans s1
  have t2 := (hb.cell (p := ⟨w.heap.size, 1, none⟩) z1).trans t1
  have z2 : w.heap.size < x2.heap.size := Nat.lt_of_lt_of_le z1 hb.size
  clear hb P1 B1 s1 t1 z1
  go_wp2_with fail
  refine (mean_Ends cap a b P2 (by omega) HI.out).mono ?_
  rintro e x3 ⟨rfl, hb⟩
  have P3 := P2.below hb
  have B3 : Below w.heap.size w x3 := B2.trans (hb.mono B2.size)
  have s3 := (hb.cell (p := ⟨w.heap.size, 0, none⟩) z2).trans s2
  have t3 := (hb.cell (p := ⟨w.heap.size, 1, none⟩) z2).trans t2
  have z3 : w.heap.size < x3.heap.size := Nat.lt_of_lt_of_le z2 hb.size
  clear hb P2 B2 s2 t2 z2
  clear s3 t3 z3
  generalize totE l = E at *
  generalize ends l a b = D at *
  obtain ⟨d1, d2, d3⟩ := D
  go_wp2_with fail
  go_ret
  exact ⟨rfl, B3⟩
set_option maxRecDepth 100000 in
set_option maxHeartbeats 4000000 in
theorem MeanBetween_wrong {w : World} {p : Option Addr} {l : List Pt} (cap : Nat) (a b : Int) (h : PtS w p l) (hI : ∀ k, k < l.length → PtI (pt l k)) (hlen : l.length ≤ 60) (hr : rightL l = false) : Calls Try.prog 4 #[.slice p l.length cap, spn a b] w fun e w' => e = .returned (.bool true) ∧ Below w.heap.size w w' := by
  have HI := Lib.hid hI
  clear hI
  have P0 : PtS (w.alloc (.cells #[.int .i64 a, .int .i64 b] 24)) p l := h.below ((Below.refl _ _).alloc (Nat.le_refl _) _)
  have B0 : Below w.heap.size w (w.alloc (.cells #[.int .i64 a, .int .i64 b] 24)) := (Below.refl _ _).alloc (Nat.le_refl _) _
  have s0 : (w.alloc (.cells #[.int .i64 a, .int .i64 b] 24)).cell? ⟨w.heap.size, 0, none⟩ = some (.int .i64 a) := by go_simp
  have t0 : (w.alloc (.cells #[.int .i64 a, .int .i64 b] 24)).cell? ⟨w.heap.size, 1, none⟩ = some (.int .i64 b) := by go_simp
  have z0 : w.heap.size < (w.alloc (.cells #[.int .i64 a, .int .i64 b] 24)).heap.size := by simp
  have h60 : ¬ (60 : Int) < (l.length : Int) := by omega
  have eE : totE l = 4 := by unfold totE; rw [hr]; rfl
  have eD : ends l a b = (0, 0, false) := by unfold ends; rw [hr]; rfl
  go_enter Try.func4, Try.ntmps4
  go_wp2_with fail
  generalize (w.alloc (.cells #[.int .i64 a, .int .i64 b] 24)) = x0 at *
  refine (mean_lives _).mono ?_
  rintro e x1 ⟨rfl, hb⟩
  have P1 := P0.below hb
  have B1 : Below w.heap.size w x1 := B0.trans (hb.mono B0.size)
  have s1 := (hb.cell (p := ⟨w.heap.size, 0, none⟩) z0).trans s0
  have t1 := (hb.cell (p := ⟨w.heap.size, 1, none⟩) z0).trans t0
  have z1 : w.heap.size < x1.heap.size := Nat.lt_of_lt_of_le z0 hb.size
  clear hb P0 B0 s0 t0 z0
  go_wp2_with fail
  refine (mean_Mean cap a b P1 (by omega) HI.out).mono ?_
  rintro e x2 ⟨y2, rfl, H2, hb⟩
  have P2 := P1.below hb
  have B2 : Below w.heap.size w x2 := B1.trans (hb.mono B1.size)
  have s2 := (hb.cell (p := ⟨w.heap.size, 0, none⟩) z1).trans s1
  have t2 := (hb.cell (p := ⟨w.heap.size, 1, none⟩) z1).trans t1
  have z2 : w.heap.size < x2.heap.size := Nat.lt_of_lt_of_le z1 hb.size
  clear hb P1 B1 s1 t1 z1
  go_wp2_with fail
  refine (mean_Ends cap a b P2 (by omega) HI.out).mono ?_
  rintro e x3 ⟨rfl, hb⟩
  have P3 := P2.below hb
  have B3 : Below w.heap.size w x3 := B2.trans (hb.mono B2.size)
  have s3 := (hb.cell (p := ⟨w.heap.size, 0, none⟩) z2).trans s2
  have t3 := (hb.cell (p := ⟨w.heap.size, 1, none⟩) z2).trans t2
  have z3 : w.heap.size < x3.heap.size := Nat.lt_of_lt_of_le z2 hb.size
  clear hb P2 B2 s2 t2 z2
  clear s3 t3 z3
  try rw [eE]
  try rw [eD]
  clear eE eD
  go_wp2_with fail
  refine (mean_Right cap P3 (by omega)).mono ?_
  rintro e x4 ⟨rfl, hb⟩
  have P4 := P3.below hb
  have B4 : Below w.heap.size w x4 := B3.trans (hb.mono B3.size)
  clear hb P3 B3
  rw [hr]
  go_wp2_with fail
  go_ret
  exact ⟨rfl, B4⟩
set_option maxRecDepth 100000 in
set_option maxHeartbeats 4000000 in
theorem MeanBetween_none {w : World} {p : Option Addr} {l : List Pt} (cap : Nat) (a b : Int) (h : PtS w p l) (hI : ∀ k, k < l.length → PtI (pt l k)) (hlen : l.length ≤ 60) (hr : rightL l = true) (hn : cnt l a b l.length = []) : Calls Try.prog 4 #[.slice p l.length cap, spn a b] w fun e w' => e = .returned (.bool true) ∧ Below w.heap.size w w' := by
  have HI := Lib.hid hI
  clear hI
  have P0 : PtS (w.alloc (.cells #[.int .i64 a, .int .i64 b] 24)) p l := h.below ((Below.refl _ _).alloc (Nat.le_refl _) _)
  have B0 : Below w.heap.size w (w.alloc (.cells #[.int .i64 a, .int .i64 b] 24)) := (Below.refl _ _).alloc (Nat.le_refl _) _
  have s0 : (w.alloc (.cells #[.int .i64 a, .int .i64 b] 24)).cell? ⟨w.heap.size, 0, none⟩ = some (.int .i64 a) := by go_simp
  have t0 : (w.alloc (.cells #[.int .i64 a, .int .i64 b] 24)).cell? ⟨w.heap.size, 1, none⟩ = some (.int .i64 b) := by go_simp
  have z0 : w.heap.size < (w.alloc (.cells #[.int .i64 a, .int .i64 b] 24)).heap.size := by simp
  have h60 : ¬ (60 : Int) < (l.length : Int) := by omega
  have eE : totE l = 0 := by unfold totE; rw [hr]; rfl
  have eD : ends l a b = (0, 0, false) := by unfold ends; rw [hr, hn]; rfl
  have eX : meanX l a b = none := by unfold meanX vls tms; rw [hr, hn]; kernel_rfl
  go_enter Try.func4, Try.ntmps4
  go_wp2_with fail
  generalize (w.alloc (.cells #[.int .i64 a, .int .i64 b] 24)) = x0 at *
  refine (mean_lives _).mono ?_
  rintro e x1 ⟨rfl, hb⟩
  have P1 := P0.below hb
  have B1 : Below w.heap.size w x1 := B0.trans (hb.mono B0.size)
  have s1 := (hb.cell (p := ⟨w.heap.size, 0, none⟩) z0).trans s0
  have t1 := (hb.cell (p := ⟨w.heap.size, 1, none⟩) z0).trans t0
  have z1 : w.heap.size < x1.heap.size := Nat.lt_of_lt_of_le z0 hb.size
  clear hb P0 B0 s0 t0 z0
  go_wp2_with fail
  refine (mean_Mean cap a b P1 (by omega) HI.out).mono ?_
  rintro e x2 ⟨y2, rfl, H2, hb⟩
  have P2 := P1.below hb
  have B2 : Below w.heap.size w x2 := B1.trans (hb.mono B1.size)
  have s2 := (hb.cell (p := ⟨w.heap.size, 0, none⟩) z1).trans s1
  have t2 := (hb.cell (p := ⟨w.heap.size, 1, none⟩) z1).trans t1
  have z2 : w.heap.size < x2.heap.size := Nat.lt_of_lt_of_le z1 hb.size
  clear hb P1 B1 s1 t1 z1
  go_wp2_with fail
  refine (mean_Ends cap a b P2 (by omega) HI.out).mono ?_
  rintro e x3 ⟨rfl, hb⟩
  have P3 := P2.below hb
  have B3 : Below w.heap.size w x3 := B2.trans (hb.mono B2.size)
  have s3 := (hb.cell (p := ⟨w.heap.size, 0, none⟩) z2).trans s2
  have t3 := (hb.cell (p := ⟨w.heap.size, 1, none⟩) z2).trans t2
  have z3 : w.heap.size < x3.heap.size := Nat.lt_of_lt_of_le z2 hb.size
  clear hb P2 B2 s2 t2 z2
  clear s3 t3 z3
  rw [eX] at H2
  have K2 := fun w => kind_n H2 w
  try rw [eE]
  try rw [eD]
  clear eE eD eX H2
  go_wp2_with (go_at_call 20; with_reducible refine (K2 _).mono ?_; rintro e w' ⟨rfl, rfl⟩)
  go_ret
  exact ⟨rfl, B3⟩
set_option maxRecDepth 100000 in
set_option maxHeartbeats 4000000 in
theorem MeanBetween_some {w : World} {p : Option Addr} {l : List Pt} (cap : Nat) (a b : Int) (h : PtS w p l) (hI : ∀ k, k < l.length → PtI (pt l k)) (hlen : l.length ≤ 60) (hr : rightL l = true) (hn : cnt l a b l.length ≠ []) : Calls Try.prog 4 #[.slice p l.length cap, spn a b] w fun e w' => e = .returned (.bool true) ∧ Below w.heap.size w w' := by
  have HI := Lib.hid hI
  clear hI
  have P0 : PtS (w.alloc (.cells #[.int .i64 a, .int .i64 b] 24)) p l := h.below ((Below.refl _ _).alloc (Nat.le_refl _) _)
  have B0 : Below w.heap.size w (w.alloc (.cells #[.int .i64 a, .int .i64 b] 24)) := (Below.refl _ _).alloc (Nat.le_refl _) _
  have s0 : (w.alloc (.cells #[.int .i64 a, .int .i64 b] 24)).cell? ⟨w.heap.size, 0, none⟩ = some (.int .i64 a) := by go_simp
  have t0 : (w.alloc (.cells #[.int .i64 a, .int .i64 b] 24)).cell? ⟨w.heap.size, 1, none⟩ = some (.int .i64 b) := by go_simp
  have z0 : w.heap.size < (w.alloc (.cells #[.int .i64 a, .int .i64 b] 24)).heap.size := by simp
  have h60 : ¬ (60 : Int) < (l.length : Int) := by omega
  have eE : totE l = 0 := by unfold totE; rw [hr]; rfl
  have eD : ends l a b = ((endL (cnt l a b l.length)).1, (endL (cnt l a b l.length)).2.1, true) := by
    unfold ends
    rw [hr]
    have := (endL_facts _ (cnt l a b l.length) rfl).1
    rw [decide_eq_true hn] at this
    simp only [if_true]
    exact Prod.ext rfl (Prod.ext rfl this)
  have eX : meanX l a b = fop .quo (sumX (vls l a b)) (sumX (tms l a b)) := by unfold meanX; rw [hr]; rfl
  obtain ⟨m, g, p', q, y, z, n1, n2, n3, n4, n5, n6, n7, n8⟩ := between_nums (P := Try.prog) hlen hn
  rw [n1] at eX
  go_enter Try.func4, Try.ntmps4
  go_wp2_with fail
  generalize (w.alloc (.cells #[.int .i64 a, .int .i64 b] 24)) = x0 at *
  refine (mean_lives _).mono ?_
  rintro e x1 ⟨rfl, hb⟩
  have P1 := P0.below hb
  have B1 : Below w.heap.size w x1 := B0.trans (hb.mono B0.size)
  have s1 := (hb.cell (p := ⟨w.heap.size, 0, none⟩) z0).trans s0
  have t1 := (hb.cell (p := ⟨w.heap.size, 1, none⟩) z0).trans t0
  have z1 : w.heap.size < x1.heap.size := Nat.lt_of_lt_of_le z0 hb.size
  clear hb P0 B0 s0 t0 z0
  go_wp2_with fail
  refine (mean_Mean cap a b P1 (by omega) HI.out).mono ?_
  rintro e x2 ⟨y2, rfl, H2, hb⟩
  have P2 := P1.below hb
  have B2 : Below w.heap.size w x2 := B1.trans (hb.mono B1.size)
  have s2 := (hb.cell (p := ⟨w.heap.size, 0, none⟩) z1).trans s1
  have t2 := (hb.cell (p := ⟨w.heap.size, 1, none⟩) z1).trans t1
  have z2 : w.heap.size < x2.heap.size := Nat.lt_of_lt_of_le z1 hb.size
  clear hb P1 B1 s1 t1 z1
  go_wp2_with fail
  refine (mean_Ends cap a b P2 (by omega) HI.out).mono ?_
  rintro e x3 ⟨rfl, hb⟩
  have P3 := P2.below hb
  have B3 : Below w.heap.size w x3 := B2.trans (hb.mono B2.size)
  have s3 := (hb.cell (p := ⟨w.heap.size, 0, none⟩) z2).trans s2
  have t3 := (hb.cell (p := ⟨w.heap.size, 1, none⟩) z2).trans t2
  have z3 : w.heap.size < x3.heap.size := Nat.lt_of_lt_of_le z2 hb.size
  clear hb P2 B2 s2 t2 z2
  clear s3 t3 z3
  rw [eX] at H2
  obtain rfl := nz_eq H2.out.2
  try rw [eE]
  try rw [eD]
  clear eE eD eX H2 n1
  generalize (endL (cnt l a b l.length)).1 = lo at *
  generalize (endL (cnt l a b l.length)).2.1 = hi at *
  have r3 := fun w => run_float_arith (P := Try.prog) w .add 26 .f64 _ _ _ n3
  have r4 := fun w => run_float_arith (P := Try.prog) w .mul 26 .f64 _ _ _ n4
  have r5 := fun w => run_float_arith (P := Try.prog) w .add 26 .f64 _ _ _ n5
  have r6 := fun w => run_float_arith (P := Try.prog) w .sub 26 .f64 _ _ _ n6
  clear n3 n4 n5 n6
  rcases n7 with n7 | n7 <;> rcases n8 with n8 | n8
  all_goals
    go_wp2_with fail
    go_ret
    exact ⟨rfl, B3⟩
theorem MeanBetween_frame (p : Option Addr) (cap : Nat) (l : List Pt) (a b : Int) (hI : ∀ k, k < l.length → PtI (pt l k)) (w : World) (h : PtS w p l) (hbig : l.length ≤ 6000000000000) : Calls Try.prog 4 #[.slice p l.length cap, spn a b] w fun e w' => e = .returned (.bool true) ∧ Below w.heap.size w w' := by
  by_cases hlen : 60 < l.length
  · exact MeanBetween_many cap a b h hI hlen hbig
  · cases hr : rightL l
    · exact MeanBetween_wrong cap a b h hI (by omega) hr
    · by_cases hn : cnt l a b l.length = []
      · exact MeanBetween_none cap a b h hI (by omega) hr hn
      · exact MeanBetween_some cap a b h hI (by omega) hr hn
end Go.Proofs.Ytlnfffenahjcnaa
