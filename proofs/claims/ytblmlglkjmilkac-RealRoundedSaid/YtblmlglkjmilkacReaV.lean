/-
  noontidelaw02: lives.
-/
import Derived.Test.YtblmlglkjmilkacReaH
import Derived.Test.YtblmlglkjmilkacFast
namespace Go.Proofs.Ytblmlglkjmilkac
open Go.RowKit Flo
attribute [local go_sem] BW.cell BW.frozen

theorem gf_is {f : FuncId} {args : Array Value} {w : World} {X : Option Nat} {c : Nat} (h : Calls Try.prog f args w (GF w X)) (e : X = some c) : Calls Try.prog f args w fun e w' => e = .returned (.float .f64 c) ∧ Below w.heap.size w w' := by
  refine h.mono ?_
  rintro e' w' ⟨y, rfl, HY, hb⟩
  have := HY.out.2
  rw [e] at this
  rw [(nz_eq_some this).1]
  exact ⟨rfl, hb⟩
theorem gfe_is {f : FuncId} {args : Array Value} {w : World} {X : Option Nat} {E E' : Int} {c : Nat} (h : Calls Try.prog f args w (GFE w X E)) (e : X = some c) (e2 : E = E') : Calls Try.prog f args w fun e w' => e = .returned (.tuple #[.float .f64 c, .int .i64 E']) ∧ Below w.heap.size w w' := by
  subst e2
  refine h.mono ?_
  rintro e' w' ⟨y, rfl, HY, hb⟩
  have := HY.out.2
  rw [e] at this
  rw [(nz_eq_some this).1]
  exact ⟨rfl, hb⟩
theorem kind_is (x : Nat) {k : Int} (hx : x < 18446744073709551616) (hk : knd x = k) (w : World) : Calls Try.prog 26 #[.float .f64 x] w fun e w' => e = .returned (.int .i64 k) ∧ w = w' := by
  have := real_Kind x hx w
  rwa [hk] at this
theorem knd_of_nan {x : Nat} (h : isnan x = true) : knd x = 0 := by simp [knd, h]
theorem whole_is (x : Nat) {m V E : Int} (hx : x < 18446744073709551616) (hV : whV x m = V) (hE : whE x m = E) (w : World) : Calls Try.prog 12 #[.float .f64 x, .int .i64 m] w fun e w' => e = .returned (.tuple #[.int .i64 V, .int .i64 E]) ∧ Below w.heap.size w w' := by
  have := real_Whole x m hx w
  rwa [hV, hE] at this
theorem whole_nan {x : Nat} {m : Int} (h : isnan x = true) : whV x m = 0 ∧ whE x m = (if modB m = true then 18 else 4) := by
  cases hm : modB m
  · exact ⟨(whE_n hm).2, (whE_n hm).1⟩
  · exact ⟨(whE_nan hm h).2, (whE_nan hm h).1⟩
theorem same_is (x y : Nat) {v : Bool} (hx : x < 18446744073709551616) (hy : y < 18446744073709551616) (hv : (plc x == plc y) = v) (w : World) : Calls Try.prog 9 #[.float .f64 x, .float .f64 y] w fun e w' => e = .returned (.bool v) ∧ w = w' := by
  have := real_Same x y hx hy w
  rwa [hv] at this
theorem less_is (x y : Nat) {v : Bool} (hx : x < 18446744073709551616) (hy : y < 18446744073709551616) (hv : decide (plc x < plc y) = v) (w : World) : Calls Try.prog 8 #[.float .f64 x, .float .f64 y] w fun e w' => e = .returned (.bool v) ∧ w = w' := by
  have := real_Less x y hx hy w
  rwa [hv] at this
theorem flat_one (w : World) (a : Nat) : FlAt (w.alloc (.cells #[.float .f64 a] 22)) w.heap.size 0 1 [a] :=
  ⟨by simp, by simp, by decide, fun k hk => match k, hk with | 0, _ => by go_simp⟩
theorem flat_three (w : World) (a b c : Nat) : FlAt (w.alloc (.cells #[.float .f64 a, .float .f64 b, .float .f64 c] 22)) w.heap.size 0 3 [a, b, c] :=
  ⟨by simp, by simp, by decide, fun k hk => match k, hk with | 0, _ => by go_simp | 1, _ => by go_simp | 2, _ => by go_simp⟩
theorem sum_three (w : World) (a b c : Nat) {r : Nat} (ha : a < 18446744073709551616) (hb : b < 18446744073709551616) (hc : c < 18446744073709551616) (e : sumX [a, b, c] = some r) : Calls Try.prog 28 #[.slice (some ⟨w.heap.size, 0, none⟩) 3 3] (w.alloc (.cells #[.float .f64 a, .float .f64 b, .float .f64 c] 22)) fun e w' => e = .returned (.float .f64 r) ∧ Below (w.alloc (.cells #[.float .f64 a, .float .f64 b, .float .f64 c] 22)).heap.size (w.alloc (.cells #[.float .f64 a, .float .f64 b, .float .f64 c] 22)) w' :=
  gf_is (X := sumX [a, b, c]) (real_Sum (l := [a, b, c]) (flat_three w a b c) (fun x hx => by simp at hx; rcases hx with rfl | rfl | rfl <;> assumption)) e
theorem sum_one (w : World) (a : Nat) {r : Nat} (ha : a < 18446744073709551616) (e : sumX [a] = some r) : Calls Try.prog 28 #[.slice (some ⟨w.heap.size, 0, none⟩) 1 1] (w.alloc (.cells #[.float .f64 a] 22)) fun e w' => e = .returned (.float .f64 r) ∧ Below (w.alloc (.cells #[.float .f64 a] 22)).heap.size (w.alloc (.cells #[.float .f64 a] 22)) w' :=
  gf_is (X := sumX [a]) (real_Sum (l := [a]) (flat_one w a) (fun x hx => by simp at hx; subst hx; assumption)) e
theorem least_three (w : World) (a b c : Nat) {r : Nat} (ha : a < 18446744073709551616) (hb : b < 18446744073709551616) (hc : c < 18446744073709551616) (e : leastL [a, b, c] = r) : Calls Try.prog 10 #[.slice (some ⟨w.heap.size, 0, none⟩) 3 3] (w.alloc (.cells #[.float .f64 a, .float .f64 b, .float .f64 c] 22)) fun e w' => e = .returned (.tuple #[.float .f64 r, .bool true]) ∧ (w.alloc (.cells #[.float .f64 a, .float .f64 b, .float .f64 c] 22)) = w' := by
  subst e
  exact real_Least (flat_three w a b c) (fun x hx => by simp at hx; rcases hx with rfl | rfl | rfl <;> assumption)
theorem held_right {w w' : World} (h : (∀ b o, b < w.heap.size → w'.cell? ⟨b, o, none⟩ = w.cell? ⟨b, o, none⟩) ∧ Below w.heap.size w w') : Below w.heap.size w w' := h.2
theorem same_below {f : FuncId} {args : Array Value} {w : World} {v : Value} (h : Calls Try.prog f args w fun e w' => e = .returned v ∧ w = w') : Calls Try.prog f args w fun e w' => e = .returned v ∧ Below w.heap.size w w' :=
  h.mono fun _ _ ⟨a, b⟩ => ⟨a, by rw [← b]; exact Below.refl _ _⟩
theorem flat_drew (w : World) (a b c : Nat) : FlAt (w.alloc (.cells #[.float .f64 a, .float .f64 b, .float .f64 c] 22)).drew w.heap.size 0 3 [a, b, c] :=
  ⟨by simp, by simp, by decide, fun k hk => match k, hk with | 0, _ => by go_simp | 1, _ => by go_simp | 2, _ => by go_simp⟩
theorem least_drew (w : World) (a b c : Nat) {r : Nat} (ha : a < 18446744073709551616) (hb : b < 18446744073709551616) (hc : c < 18446744073709551616) (e : leastL [a, b, c] = r) : Calls Try.prog 10 #[.slice (some ⟨w.heap.size, 0, none⟩) 3 3] (w.alloc (.cells #[.float .f64 a, .float .f64 b, .float .f64 c] 22)).drew fun e w' => e = .returned (.tuple #[.float .f64 r, .bool true]) ∧ Below (w.alloc (.cells #[.float .f64 a, .float .f64 b, .float .f64 c] 22)).drew.heap.size (w.alloc (.cells #[.float .f64 a, .float .f64 b, .float .f64 c] 22)).drew w' := by
  subst e
  exact same_below (real_Least (l := [a, b, c]) (flat_drew w a b c) (fun x hx => by simp at hx; rcases hx with rfl | rfl | rfl <;> assumption))
set_option maxRecDepth 100000 in
set_option maxHeartbeats 4000000 in
theorem real_lives   (w : World) : Calls Try.prog 7 #[] w fun e w' => e = .returned (.bool true) ∧ Below w.heap.size w w' := by
  have hOf := fun w => real_Of 9007199254740993 w
  rw [show floatOfInt .f64 9007199254740993 = 4845873199050653696 by kernel_rfl] at hOf
  have o837674 : (FloatKind.f64.format.order 4611686018427387904 4611686018427387904 == some Ordering.eq) = true := by kernel_rfl
  have o819090 : (FloatKind.f64.format.order 13837309855095848960 13837309855095848960 == some Ordering.eq) = true := by kernel_rfl
  have o669274 : (FloatKind.f64.format.order 4845873199050653696 4845873199050653696 == some Ordering.eq) = true := by kernel_rfl
  have o296782 : (FloatKind.f64.format.order 4615063718147915776 4615063718147915776 == some Ordering.eq) = true := by kernel_rfl
  go_enter Try.func7, Try.ntmps7
  go_wp2_with fail
  refine (ref02_Edges _).mono ?_
  rintro e w1 ⟨g, n, rfl, sg, cg_0, cg_1, cg_2, cg_3, cg_4, HN, hb1⟩
  have B1 : Below w.heap.size w w1 := by (focus (repeat' (first | assumption | exact Below.refl _ _ | refine Below.alloc ?_ ?_ _ | refine Below.setCell ?_ ?_ _ | refine Below.drew ?_ | refine below_drewN ?_ _ | refine Below.trans ?_ (Below.mono (by assumption) ?_) | refine Below.trans ?_ (Below.mono (BW.below _) ?_) | (simp; done) | (simp; omega) | omega)))
  have n1 : w.heap.size ≤ w1.heap.size := B1.size
  clear hb1
  go_wp2_with fail
  refine wp_loop_rounds 6 ?_
  rw [rounds_succ]
  go_wp2_with fail
  have Bx1 : Below w.heap.size w (w1.alloc (.cells #[.int .i64 0, .int .i64 1, .int .i64 3, .int .i64 4, .int .i64 6] 3)) := by (focus (repeat' (first | assumption | exact Below.refl _ _ | refine Below.alloc ?_ ?_ _ | refine Below.setCell ?_ ?_ _ | refine Below.drew ?_ | refine below_drewN ?_ _ | refine Below.trans ?_ (Below.mono (by assumption) ?_) | refine Below.trans ?_ (Below.mono (BW.below _) ?_) | (simp; done) | (simp; omega) | omega)))
  have nx1 : w.heap.size ≤ (w1.alloc (.cells #[.int .i64 0, .int .i64 1, .int .i64 3, .int .i64 4, .int .i64 6] 3)).heap.size := Bx1.size
  have sx1_0 : g < (w1.alloc (.cells #[.int .i64 0, .int .i64 1, .int .i64 3, .int .i64 4, .int .i64 6] 3)).heap.size := (by first | (simp; done) | (simp; omega) | omega)
  have cx1_0_0 : (w1.alloc (.cells #[.int .i64 0, .int .i64 1, .int .i64 3, .int .i64 4, .int .i64 6] 3)).cell? ⟨g, 0, none⟩ = some (.float .f64 n) := by go_simp
  have cx1_0_1 : (w1.alloc (.cells #[.int .i64 0, .int .i64 1, .int .i64 3, .int .i64 4, .int .i64 6] 3)).cell? ⟨g, 1, none⟩ = some (.float .f64 18442240474082181120) := by go_simp
  have cx1_0_2 : (w1.alloc (.cells #[.int .i64 0, .int .i64 1, .int .i64 3, .int .i64 4, .int .i64 6] 3)).cell? ⟨g, 2, none⟩ = some (.float .f64 9223372036854775808) := by go_simp
  have cx1_0_3 : (w1.alloc (.cells #[.int .i64 0, .int .i64 1, .int .i64 3, .int .i64 4, .int .i64 6] 3)).cell? ⟨g, 3, none⟩ = some (.float .f64 0) := by go_simp
  have cx1_0_4 : (w1.alloc (.cells #[.int .i64 0, .int .i64 1, .int .i64 3, .int .i64 4, .int .i64 6] 3)).cell? ⟨g, 4, none⟩ = some (.float .f64 9218868437227405312) := by go_simp
  have sx1_1 : w1.heap.size < (w1.alloc (.cells #[.int .i64 0, .int .i64 1, .int .i64 3, .int .i64 4, .int .i64 6] 3)).heap.size := (by first | (simp; done) | (simp; omega) | omega)
  have cx1_1_0 : (w1.alloc (.cells #[.int .i64 0, .int .i64 1, .int .i64 3, .int .i64 4, .int .i64 6] 3)).cell? ⟨w1.heap.size, 0, none⟩ = some (.int .i64 0) := by go_simp
  have cx1_1_1 : (w1.alloc (.cells #[.int .i64 0, .int .i64 1, .int .i64 3, .int .i64 4, .int .i64 6] 3)).cell? ⟨w1.heap.size, 1, none⟩ = some (.int .i64 1) := by go_simp
  have cx1_1_2 : (w1.alloc (.cells #[.int .i64 0, .int .i64 1, .int .i64 3, .int .i64 4, .int .i64 6] 3)).cell? ⟨w1.heap.size, 2, none⟩ = some (.int .i64 3) := by go_simp
  have cx1_1_3 : (w1.alloc (.cells #[.int .i64 0, .int .i64 1, .int .i64 3, .int .i64 4, .int .i64 6] 3)).cell? ⟨w1.heap.size, 3, none⟩ = some (.int .i64 4) := by go_simp
  have cx1_1_4 : (w1.alloc (.cells #[.int .i64 0, .int .i64 1, .int .i64 3, .int .i64 4, .int .i64 6] 3)).cell? ⟨w1.heap.size, 4, none⟩ = some (.int .i64 6) := by go_simp
  clear cg_0 cg_1 cg_2 cg_3 cg_4 B1
  generalize (w1.alloc (.cells #[.int .i64 0, .int .i64 1, .int .i64 3, .int .i64 4, .int .i64 6] 3)) = x1 at *
  try dsimp only [List.append]
  refine wp_region_bw (by kernel_rfl) (by kernel_rfl) ?_; (repeat (go_big_quiet_step ((go_at_call 26; exact bw_same (kind_is n (k := 0) HN.out.2 (knd_of_nan HN.out.1) _))))); refine wpQuiet_nil ?_; intro _ hw'; obtain ⟨xq, hw''⟩ := hw'; subst hw''
  have Bx2 : Below w.heap.size w xq.val := Bx1.trans (xq.below.mono nx1)
  have nx2 : w.heap.size ≤ xq.val.heap.size := Bx2.size
  have sx2_0 : g < xq.val.heap.size := Nat.lt_of_lt_of_le (by first | (simp; done) | (simp; omega) | omega) xq.below.size
  have cx2_0_0 : xq.val.cell? ⟨g, 0, none⟩ = some (.float .f64 n) := (xq.cell (g) 0 (by first | (simp; done) | (simp; omega) | omega)).trans (by go_simp)
  have cx2_0_1 : xq.val.cell? ⟨g, 1, none⟩ = some (.float .f64 18442240474082181120) := (xq.cell (g) 1 (by first | (simp; done) | (simp; omega) | omega)).trans (by go_simp)
  have cx2_0_2 : xq.val.cell? ⟨g, 2, none⟩ = some (.float .f64 9223372036854775808) := (xq.cell (g) 2 (by first | (simp; done) | (simp; omega) | omega)).trans (by go_simp)
  have cx2_0_3 : xq.val.cell? ⟨g, 3, none⟩ = some (.float .f64 0) := (xq.cell (g) 3 (by first | (simp; done) | (simp; omega) | omega)).trans (by go_simp)
  have cx2_0_4 : xq.val.cell? ⟨g, 4, none⟩ = some (.float .f64 9218868437227405312) := (xq.cell (g) 4 (by first | (simp; done) | (simp; omega) | omega)).trans (by go_simp)
  have sx2_1 : w1.heap.size < xq.val.heap.size := Nat.lt_of_lt_of_le (by first | (simp; done) | (simp; omega) | omega) xq.below.size
  have cx2_1_0 : xq.val.cell? ⟨w1.heap.size, 0, none⟩ = some (.int .i64 0) := (xq.cell (w1.heap.size) 0 (by first | (simp; done) | (simp; omega) | omega)).trans (by go_simp)
  have cx2_1_1 : xq.val.cell? ⟨w1.heap.size, 1, none⟩ = some (.int .i64 1) := (xq.cell (w1.heap.size) 1 (by first | (simp; done) | (simp; omega) | omega)).trans (by go_simp)
  have cx2_1_2 : xq.val.cell? ⟨w1.heap.size, 2, none⟩ = some (.int .i64 3) := (xq.cell (w1.heap.size) 2 (by first | (simp; done) | (simp; omega) | omega)).trans (by go_simp)
  have cx2_1_3 : xq.val.cell? ⟨w1.heap.size, 3, none⟩ = some (.int .i64 4) := (xq.cell (w1.heap.size) 3 (by first | (simp; done) | (simp; omega) | omega)).trans (by go_simp)
  have cx2_1_4 : xq.val.cell? ⟨w1.heap.size, 4, none⟩ = some (.int .i64 6) := (xq.cell (w1.heap.size) 4 (by first | (simp; done) | (simp; omega) | omega)).trans (by go_simp)
  clear Bx1 cx1_0_0 cx1_0_1 cx1_0_2 cx1_0_3 cx1_0_4 cx1_1_0 cx1_1_1 cx1_1_2 cx1_1_3 cx1_1_4
  generalize xq.val = x2 at *
  go_wp2_with fail
  rw [rounds_succ]
  go_wp2_with fail
  have Bx3 : Below w.heap.size w x2 := by (focus (repeat' (first | assumption | exact Below.refl _ _ | refine Below.alloc ?_ ?_ _ | refine Below.setCell ?_ ?_ _ | refine Below.drew ?_ | refine below_drewN ?_ _ | refine Below.trans ?_ (Below.mono (by assumption) ?_) | refine Below.trans ?_ (Below.mono (BW.below _) ?_) | (simp; done) | (simp; omega) | omega)))
  have nx3 : w.heap.size ≤ x2.heap.size := Bx3.size
  have sx3_0 : g < x2.heap.size := (by first | (simp; done) | (simp; omega) | omega)
  have cx3_0_0 : x2.cell? ⟨g, 0, none⟩ = some (.float .f64 n) := by go_simp
  have cx3_0_1 : x2.cell? ⟨g, 1, none⟩ = some (.float .f64 18442240474082181120) := by go_simp
  have cx3_0_2 : x2.cell? ⟨g, 2, none⟩ = some (.float .f64 9223372036854775808) := by go_simp
  have cx3_0_3 : x2.cell? ⟨g, 3, none⟩ = some (.float .f64 0) := by go_simp
  have cx3_0_4 : x2.cell? ⟨g, 4, none⟩ = some (.float .f64 9218868437227405312) := by go_simp
  have sx3_1 : w1.heap.size < x2.heap.size := (by first | (simp; done) | (simp; omega) | omega)
  have cx3_1_0 : x2.cell? ⟨w1.heap.size, 0, none⟩ = some (.int .i64 0) := by go_simp
  have cx3_1_1 : x2.cell? ⟨w1.heap.size, 1, none⟩ = some (.int .i64 1) := by go_simp
  have cx3_1_2 : x2.cell? ⟨w1.heap.size, 2, none⟩ = some (.int .i64 3) := by go_simp
  have cx3_1_3 : x2.cell? ⟨w1.heap.size, 3, none⟩ = some (.int .i64 4) := by go_simp
  have cx3_1_4 : x2.cell? ⟨w1.heap.size, 4, none⟩ = some (.int .i64 6) := by go_simp
  clear Bx2 cx2_0_0 cx2_0_1 cx2_0_2 cx2_0_3 cx2_0_4 cx2_1_0 cx2_1_1 cx2_1_2 cx2_1_3 cx2_1_4
  generalize x2 = x3 at *
  try dsimp only [List.append]
  refine wp_region_bw (by kernel_rfl) (by kernel_rfl) ?_; (repeat (go_big_quiet_step ((go_at_call 26; exact bw_same (kind_is 18442240474082181120 (k := 1) (by decide) (by kernel_rfl) _))))); refine wpQuiet_nil ?_; intro _ hw'; obtain ⟨xq, hw''⟩ := hw'; subst hw''
  have Bx4 : Below w.heap.size w xq.val := Bx3.trans (xq.below.mono nx3)
  have nx4 : w.heap.size ≤ xq.val.heap.size := Bx4.size
  have sx4_0 : g < xq.val.heap.size := Nat.lt_of_lt_of_le (by first | (simp; done) | (simp; omega) | omega) xq.below.size
  have cx4_0_0 : xq.val.cell? ⟨g, 0, none⟩ = some (.float .f64 n) := (xq.cell (g) 0 (by first | (simp; done) | (simp; omega) | omega)).trans (by go_simp)
  have cx4_0_1 : xq.val.cell? ⟨g, 1, none⟩ = some (.float .f64 18442240474082181120) := (xq.cell (g) 1 (by first | (simp; done) | (simp; omega) | omega)).trans (by go_simp)
  have cx4_0_2 : xq.val.cell? ⟨g, 2, none⟩ = some (.float .f64 9223372036854775808) := (xq.cell (g) 2 (by first | (simp; done) | (simp; omega) | omega)).trans (by go_simp)
  have cx4_0_3 : xq.val.cell? ⟨g, 3, none⟩ = some (.float .f64 0) := (xq.cell (g) 3 (by first | (simp; done) | (simp; omega) | omega)).trans (by go_simp)
  have cx4_0_4 : xq.val.cell? ⟨g, 4, none⟩ = some (.float .f64 9218868437227405312) := (xq.cell (g) 4 (by first | (simp; done) | (simp; omega) | omega)).trans (by go_simp)
  have sx4_1 : w1.heap.size < xq.val.heap.size := Nat.lt_of_lt_of_le (by first | (simp; done) | (simp; omega) | omega) xq.below.size
  have cx4_1_0 : xq.val.cell? ⟨w1.heap.size, 0, none⟩ = some (.int .i64 0) := (xq.cell (w1.heap.size) 0 (by first | (simp; done) | (simp; omega) | omega)).trans (by go_simp)
  have cx4_1_1 : xq.val.cell? ⟨w1.heap.size, 1, none⟩ = some (.int .i64 1) := (xq.cell (w1.heap.size) 1 (by first | (simp; done) | (simp; omega) | omega)).trans (by go_simp)
  have cx4_1_2 : xq.val.cell? ⟨w1.heap.size, 2, none⟩ = some (.int .i64 3) := (xq.cell (w1.heap.size) 2 (by first | (simp; done) | (simp; omega) | omega)).trans (by go_simp)
  have cx4_1_3 : xq.val.cell? ⟨w1.heap.size, 3, none⟩ = some (.int .i64 4) := (xq.cell (w1.heap.size) 3 (by first | (simp; done) | (simp; omega) | omega)).trans (by go_simp)
  have cx4_1_4 : xq.val.cell? ⟨w1.heap.size, 4, none⟩ = some (.int .i64 6) := (xq.cell (w1.heap.size) 4 (by first | (simp; done) | (simp; omega) | omega)).trans (by go_simp)
  clear Bx3 cx3_0_0 cx3_0_1 cx3_0_2 cx3_0_3 cx3_0_4 cx3_1_0 cx3_1_1 cx3_1_2 cx3_1_3 cx3_1_4
  generalize xq.val = x4 at *
  go_wp2_with fail
  rw [rounds_succ]
  go_wp2_with fail
  have Bx5 : Below w.heap.size w x4 := by (focus (repeat' (first | assumption | exact Below.refl _ _ | refine Below.alloc ?_ ?_ _ | refine Below.setCell ?_ ?_ _ | refine Below.drew ?_ | refine below_drewN ?_ _ | refine Below.trans ?_ (Below.mono (by assumption) ?_) | refine Below.trans ?_ (Below.mono (BW.below _) ?_) | (simp; done) | (simp; omega) | omega)))
  have nx5 : w.heap.size ≤ x4.heap.size := Bx5.size
  have sx5_0 : g < x4.heap.size := (by first | (simp; done) | (simp; omega) | omega)
  have cx5_0_0 : x4.cell? ⟨g, 0, none⟩ = some (.float .f64 n) := by go_simp
  have cx5_0_1 : x4.cell? ⟨g, 1, none⟩ = some (.float .f64 18442240474082181120) := by go_simp
  have cx5_0_2 : x4.cell? ⟨g, 2, none⟩ = some (.float .f64 9223372036854775808) := by go_simp
  have cx5_0_3 : x4.cell? ⟨g, 3, none⟩ = some (.float .f64 0) := by go_simp
  have cx5_0_4 : x4.cell? ⟨g, 4, none⟩ = some (.float .f64 9218868437227405312) := by go_simp
  have sx5_1 : w1.heap.size < x4.heap.size := (by first | (simp; done) | (simp; omega) | omega)
  have cx5_1_0 : x4.cell? ⟨w1.heap.size, 0, none⟩ = some (.int .i64 0) := by go_simp
  have cx5_1_1 : x4.cell? ⟨w1.heap.size, 1, none⟩ = some (.int .i64 1) := by go_simp
  have cx5_1_2 : x4.cell? ⟨w1.heap.size, 2, none⟩ = some (.int .i64 3) := by go_simp
  have cx5_1_3 : x4.cell? ⟨w1.heap.size, 3, none⟩ = some (.int .i64 4) := by go_simp
  have cx5_1_4 : x4.cell? ⟨w1.heap.size, 4, none⟩ = some (.int .i64 6) := by go_simp
  clear Bx4 cx4_0_0 cx4_0_1 cx4_0_2 cx4_0_3 cx4_0_4 cx4_1_0 cx4_1_1 cx4_1_2 cx4_1_3 cx4_1_4
  generalize x4 = x5 at *
  try dsimp only [List.append]
  refine wp_region_bw (by kernel_rfl) (by kernel_rfl) ?_; (repeat (go_big_quiet_step ((go_at_call 26; exact bw_same (kind_is 9223372036854775808 (k := 3) (by decide) (by kernel_rfl) _))))); refine wpQuiet_nil ?_; intro _ hw'; obtain ⟨xq, hw''⟩ := hw'; subst hw''
  have Bx6 : Below w.heap.size w xq.val := Bx5.trans (xq.below.mono nx5)
  have nx6 : w.heap.size ≤ xq.val.heap.size := Bx6.size
  have sx6_0 : g < xq.val.heap.size := Nat.lt_of_lt_of_le (by first | (simp; done) | (simp; omega) | omega) xq.below.size
  have cx6_0_0 : xq.val.cell? ⟨g, 0, none⟩ = some (.float .f64 n) := (xq.cell (g) 0 (by first | (simp; done) | (simp; omega) | omega)).trans (by go_simp)
  have cx6_0_1 : xq.val.cell? ⟨g, 1, none⟩ = some (.float .f64 18442240474082181120) := (xq.cell (g) 1 (by first | (simp; done) | (simp; omega) | omega)).trans (by go_simp)
  have cx6_0_2 : xq.val.cell? ⟨g, 2, none⟩ = some (.float .f64 9223372036854775808) := (xq.cell (g) 2 (by first | (simp; done) | (simp; omega) | omega)).trans (by go_simp)
  have cx6_0_3 : xq.val.cell? ⟨g, 3, none⟩ = some (.float .f64 0) := (xq.cell (g) 3 (by first | (simp; done) | (simp; omega) | omega)).trans (by go_simp)
  have cx6_0_4 : xq.val.cell? ⟨g, 4, none⟩ = some (.float .f64 9218868437227405312) := (xq.cell (g) 4 (by first | (simp; done) | (simp; omega) | omega)).trans (by go_simp)
  have sx6_1 : w1.heap.size < xq.val.heap.size := Nat.lt_of_lt_of_le (by first | (simp; done) | (simp; omega) | omega) xq.below.size
  have cx6_1_0 : xq.val.cell? ⟨w1.heap.size, 0, none⟩ = some (.int .i64 0) := (xq.cell (w1.heap.size) 0 (by first | (simp; done) | (simp; omega) | omega)).trans (by go_simp)
  have cx6_1_1 : xq.val.cell? ⟨w1.heap.size, 1, none⟩ = some (.int .i64 1) := (xq.cell (w1.heap.size) 1 (by first | (simp; done) | (simp; omega) | omega)).trans (by go_simp)
  have cx6_1_2 : xq.val.cell? ⟨w1.heap.size, 2, none⟩ = some (.int .i64 3) := (xq.cell (w1.heap.size) 2 (by first | (simp; done) | (simp; omega) | omega)).trans (by go_simp)
  have cx6_1_3 : xq.val.cell? ⟨w1.heap.size, 3, none⟩ = some (.int .i64 4) := (xq.cell (w1.heap.size) 3 (by first | (simp; done) | (simp; omega) | omega)).trans (by go_simp)
  have cx6_1_4 : xq.val.cell? ⟨w1.heap.size, 4, none⟩ = some (.int .i64 6) := (xq.cell (w1.heap.size) 4 (by first | (simp; done) | (simp; omega) | omega)).trans (by go_simp)
  clear Bx5 cx5_0_0 cx5_0_1 cx5_0_2 cx5_0_3 cx5_0_4 cx5_1_0 cx5_1_1 cx5_1_2 cx5_1_3 cx5_1_4
  generalize xq.val = x6 at *
  go_wp2_with fail
  rw [rounds_succ]
  go_wp2_with fail
  have Bx7 : Below w.heap.size w x6 := by (focus (repeat' (first | assumption | exact Below.refl _ _ | refine Below.alloc ?_ ?_ _ | refine Below.setCell ?_ ?_ _ | refine Below.drew ?_ | refine below_drewN ?_ _ | refine Below.trans ?_ (Below.mono (by assumption) ?_) | refine Below.trans ?_ (Below.mono (BW.below _) ?_) | (simp; done) | (simp; omega) | omega)))
  have nx7 : w.heap.size ≤ x6.heap.size := Bx7.size
  have sx7_0 : g < x6.heap.size := (by first | (simp; done) | (simp; omega) | omega)
  have cx7_0_0 : x6.cell? ⟨g, 0, none⟩ = some (.float .f64 n) := by go_simp
  have cx7_0_1 : x6.cell? ⟨g, 1, none⟩ = some (.float .f64 18442240474082181120) := by go_simp
  have cx7_0_2 : x6.cell? ⟨g, 2, none⟩ = some (.float .f64 9223372036854775808) := by go_simp
  have cx7_0_3 : x6.cell? ⟨g, 3, none⟩ = some (.float .f64 0) := by go_simp
  have cx7_0_4 : x6.cell? ⟨g, 4, none⟩ = some (.float .f64 9218868437227405312) := by go_simp
  have sx7_1 : w1.heap.size < x6.heap.size := (by first | (simp; done) | (simp; omega) | omega)
  have cx7_1_0 : x6.cell? ⟨w1.heap.size, 0, none⟩ = some (.int .i64 0) := by go_simp
  have cx7_1_1 : x6.cell? ⟨w1.heap.size, 1, none⟩ = some (.int .i64 1) := by go_simp
  have cx7_1_2 : x6.cell? ⟨w1.heap.size, 2, none⟩ = some (.int .i64 3) := by go_simp
  have cx7_1_3 : x6.cell? ⟨w1.heap.size, 3, none⟩ = some (.int .i64 4) := by go_simp
  have cx7_1_4 : x6.cell? ⟨w1.heap.size, 4, none⟩ = some (.int .i64 6) := by go_simp
  clear Bx6 cx6_0_0 cx6_0_1 cx6_0_2 cx6_0_3 cx6_0_4 cx6_1_0 cx6_1_1 cx6_1_2 cx6_1_3 cx6_1_4
  generalize x6 = x7 at *
  try dsimp only [List.append]
  refine wp_region_bw (by kernel_rfl) (by kernel_rfl) ?_; (repeat (go_big_quiet_step ((go_at_call 26; exact bw_same (kind_is 0 (k := 4) (by decide) (by kernel_rfl) _))))); refine wpQuiet_nil ?_; intro _ hw'; obtain ⟨xq, hw''⟩ := hw'; subst hw''
  have Bx8 : Below w.heap.size w xq.val := Bx7.trans (xq.below.mono nx7)
  have nx8 : w.heap.size ≤ xq.val.heap.size := Bx8.size
  have sx8_0 : g < xq.val.heap.size := Nat.lt_of_lt_of_le (by first | (simp; done) | (simp; omega) | omega) xq.below.size
  have cx8_0_0 : xq.val.cell? ⟨g, 0, none⟩ = some (.float .f64 n) := (xq.cell (g) 0 (by first | (simp; done) | (simp; omega) | omega)).trans (by go_simp)
  have cx8_0_1 : xq.val.cell? ⟨g, 1, none⟩ = some (.float .f64 18442240474082181120) := (xq.cell (g) 1 (by first | (simp; done) | (simp; omega) | omega)).trans (by go_simp)
  have cx8_0_2 : xq.val.cell? ⟨g, 2, none⟩ = some (.float .f64 9223372036854775808) := (xq.cell (g) 2 (by first | (simp; done) | (simp; omega) | omega)).trans (by go_simp)
  have cx8_0_3 : xq.val.cell? ⟨g, 3, none⟩ = some (.float .f64 0) := (xq.cell (g) 3 (by first | (simp; done) | (simp; omega) | omega)).trans (by go_simp)
  have cx8_0_4 : xq.val.cell? ⟨g, 4, none⟩ = some (.float .f64 9218868437227405312) := (xq.cell (g) 4 (by first | (simp; done) | (simp; omega) | omega)).trans (by go_simp)
  have sx8_1 : w1.heap.size < xq.val.heap.size := Nat.lt_of_lt_of_le (by first | (simp; done) | (simp; omega) | omega) xq.below.size
  have cx8_1_0 : xq.val.cell? ⟨w1.heap.size, 0, none⟩ = some (.int .i64 0) := (xq.cell (w1.heap.size) 0 (by first | (simp; done) | (simp; omega) | omega)).trans (by go_simp)
  have cx8_1_1 : xq.val.cell? ⟨w1.heap.size, 1, none⟩ = some (.int .i64 1) := (xq.cell (w1.heap.size) 1 (by first | (simp; done) | (simp; omega) | omega)).trans (by go_simp)
  have cx8_1_2 : xq.val.cell? ⟨w1.heap.size, 2, none⟩ = some (.int .i64 3) := (xq.cell (w1.heap.size) 2 (by first | (simp; done) | (simp; omega) | omega)).trans (by go_simp)
  have cx8_1_3 : xq.val.cell? ⟨w1.heap.size, 3, none⟩ = some (.int .i64 4) := (xq.cell (w1.heap.size) 3 (by first | (simp; done) | (simp; omega) | omega)).trans (by go_simp)
  have cx8_1_4 : xq.val.cell? ⟨w1.heap.size, 4, none⟩ = some (.int .i64 6) := (xq.cell (w1.heap.size) 4 (by first | (simp; done) | (simp; omega) | omega)).trans (by go_simp)
  clear Bx7 cx7_0_0 cx7_0_1 cx7_0_2 cx7_0_3 cx7_0_4 cx7_1_0 cx7_1_1 cx7_1_2 cx7_1_3 cx7_1_4
  generalize xq.val = x8 at *
  go_wp2_with fail
  rw [rounds_succ]
  go_wp2_with fail
  have Bx9 : Below w.heap.size w x8 := by (focus (repeat' (first | assumption | exact Below.refl _ _ | refine Below.alloc ?_ ?_ _ | refine Below.setCell ?_ ?_ _ | refine Below.drew ?_ | refine below_drewN ?_ _ | refine Below.trans ?_ (Below.mono (by assumption) ?_) | refine Below.trans ?_ (Below.mono (BW.below _) ?_) | (simp; done) | (simp; omega) | omega)))
  have nx9 : w.heap.size ≤ x8.heap.size := Bx9.size
  have sx9_0 : g < x8.heap.size := (by first | (simp; done) | (simp; omega) | omega)
  have cx9_0_0 : x8.cell? ⟨g, 0, none⟩ = some (.float .f64 n) := by go_simp
  have cx9_0_1 : x8.cell? ⟨g, 1, none⟩ = some (.float .f64 18442240474082181120) := by go_simp
  have cx9_0_2 : x8.cell? ⟨g, 2, none⟩ = some (.float .f64 9223372036854775808) := by go_simp
  have cx9_0_3 : x8.cell? ⟨g, 3, none⟩ = some (.float .f64 0) := by go_simp
  have cx9_0_4 : x8.cell? ⟨g, 4, none⟩ = some (.float .f64 9218868437227405312) := by go_simp
  have sx9_1 : w1.heap.size < x8.heap.size := (by first | (simp; done) | (simp; omega) | omega)
  have cx9_1_0 : x8.cell? ⟨w1.heap.size, 0, none⟩ = some (.int .i64 0) := by go_simp
  have cx9_1_1 : x8.cell? ⟨w1.heap.size, 1, none⟩ = some (.int .i64 1) := by go_simp
  have cx9_1_2 : x8.cell? ⟨w1.heap.size, 2, none⟩ = some (.int .i64 3) := by go_simp
  have cx9_1_3 : x8.cell? ⟨w1.heap.size, 3, none⟩ = some (.int .i64 4) := by go_simp
  have cx9_1_4 : x8.cell? ⟨w1.heap.size, 4, none⟩ = some (.int .i64 6) := by go_simp
  clear Bx8 cx8_0_0 cx8_0_1 cx8_0_2 cx8_0_3 cx8_0_4 cx8_1_0 cx8_1_1 cx8_1_2 cx8_1_3 cx8_1_4
  generalize x8 = x9 at *
  try dsimp only [List.append]
  refine wp_region_bw (by kernel_rfl) (by kernel_rfl) ?_; (repeat (go_big_quiet_step ((go_at_call 26; exact bw_same (kind_is 9218868437227405312 (k := 6) (by decide) (by kernel_rfl) _))))); refine wpQuiet_nil ?_; intro _ hw'; obtain ⟨xq, hw''⟩ := hw'; subst hw''
  have Bx10 : Below w.heap.size w xq.val := Bx9.trans (xq.below.mono nx9)
  have nx10 : w.heap.size ≤ xq.val.heap.size := Bx10.size
  have sx10_0 : g < xq.val.heap.size := Nat.lt_of_lt_of_le (by first | (simp; done) | (simp; omega) | omega) xq.below.size
  have cx10_0_0 : xq.val.cell? ⟨g, 0, none⟩ = some (.float .f64 n) := (xq.cell (g) 0 (by first | (simp; done) | (simp; omega) | omega)).trans (by go_simp)
  have cx10_0_1 : xq.val.cell? ⟨g, 1, none⟩ = some (.float .f64 18442240474082181120) := (xq.cell (g) 1 (by first | (simp; done) | (simp; omega) | omega)).trans (by go_simp)
  have cx10_0_2 : xq.val.cell? ⟨g, 2, none⟩ = some (.float .f64 9223372036854775808) := (xq.cell (g) 2 (by first | (simp; done) | (simp; omega) | omega)).trans (by go_simp)
  have cx10_0_3 : xq.val.cell? ⟨g, 3, none⟩ = some (.float .f64 0) := (xq.cell (g) 3 (by first | (simp; done) | (simp; omega) | omega)).trans (by go_simp)
  have cx10_0_4 : xq.val.cell? ⟨g, 4, none⟩ = some (.float .f64 9218868437227405312) := (xq.cell (g) 4 (by first | (simp; done) | (simp; omega) | omega)).trans (by go_simp)
  clear Bx9 cx9_0_0 cx9_0_1 cx9_0_2 cx9_0_3 cx9_0_4 cx9_1_0 cx9_1_1 cx9_1_2 cx9_1_3 cx9_1_4
  generalize xq.val = x10 at *
  go_wp2_with fail
  rw [rounds_succ]
  go_wp2_with fail
  refine (gfe_is (real_Round 13826050856027422720 2 (by decide) _) (show rdV 13826050856027422720 2 = some 9223372036854775808 by kernel_rfl) (show rdE 2 = 0 by decide)).mono ?_
  rintro e w2 ⟨rfl, hb2⟩
  have B2 : Below w.heap.size w w2 := by (focus (repeat' (first | assumption | exact Below.refl _ _ | refine Below.alloc ?_ ?_ _ | refine Below.setCell ?_ ?_ _ | refine Below.drew ?_ | refine below_drewN ?_ _ | refine Below.trans ?_ (Below.mono (by assumption) ?_) | refine Below.trans ?_ (Below.mono (BW.below _) ?_) | (simp; done) | (simp; omega) | omega)))
  have n2 : w.heap.size ≤ w2.heap.size := B2.size
  have s2_0 : g < w2.heap.size := Nat.lt_of_lt_of_le (by first | (simp; done) | (simp; omega) | omega) hb2.size
  have c2_0_0 : w2.cell? ⟨g, 0, none⟩ = some (.float .f64 n) := (hb2.cell (p := ⟨g, 0, none⟩) (by first | (simp; done) | (simp; omega) | omega)).trans (by go_simp)
  have c2_0_1 : w2.cell? ⟨g, 1, none⟩ = some (.float .f64 18442240474082181120) := (hb2.cell (p := ⟨g, 1, none⟩) (by first | (simp; done) | (simp; omega) | omega)).trans (by go_simp)
  have c2_0_2 : w2.cell? ⟨g, 2, none⟩ = some (.float .f64 9223372036854775808) := (hb2.cell (p := ⟨g, 2, none⟩) (by first | (simp; done) | (simp; omega) | omega)).trans (by go_simp)
  have c2_0_3 : w2.cell? ⟨g, 3, none⟩ = some (.float .f64 0) := (hb2.cell (p := ⟨g, 3, none⟩) (by first | (simp; done) | (simp; omega) | omega)).trans (by go_simp)
  have c2_0_4 : w2.cell? ⟨g, 4, none⟩ = some (.float .f64 9218868437227405312) := (hb2.cell (p := ⟨g, 4, none⟩) (by first | (simp; done) | (simp; omega) | omega)).trans (by go_simp)
  clear hb2 Bx10 cx10_0_0 cx10_0_1 cx10_0_2 cx10_0_3 cx10_0_4
  go_wp2_with fail
  refine (gfe_is (real_Round 4612811918334230528 4 (by decide) _) (show rdV 4612811918334230528 4 = some 4611686018427387904 by kernel_rfl) (show rdE 4 = 0 by decide)).mono ?_
  rintro e w3 ⟨rfl, hb3⟩
  have B3 : Below w.heap.size w w3 := by (focus (repeat' (first | assumption | exact Below.refl _ _ | refine Below.alloc ?_ ?_ _ | refine Below.setCell ?_ ?_ _ | refine Below.drew ?_ | refine below_drewN ?_ _ | refine Below.trans ?_ (Below.mono (by assumption) ?_) | refine Below.trans ?_ (Below.mono (BW.below _) ?_) | (simp; done) | (simp; omega) | omega)))
  have n3 : w.heap.size ≤ w3.heap.size := B3.size
  have s3_0 : g < w3.heap.size := Nat.lt_of_lt_of_le (by first | (simp; done) | (simp; omega) | omega) hb3.size
  have c3_0_0 : w3.cell? ⟨g, 0, none⟩ = some (.float .f64 n) := (hb3.cell (p := ⟨g, 0, none⟩) (by first | (simp; done) | (simp; omega) | omega)).trans (by go_simp)
  have c3_0_1 : w3.cell? ⟨g, 1, none⟩ = some (.float .f64 18442240474082181120) := (hb3.cell (p := ⟨g, 1, none⟩) (by first | (simp; done) | (simp; omega) | omega)).trans (by go_simp)
  have c3_0_2 : w3.cell? ⟨g, 2, none⟩ = some (.float .f64 9223372036854775808) := (hb3.cell (p := ⟨g, 2, none⟩) (by first | (simp; done) | (simp; omega) | omega)).trans (by go_simp)
  have c3_0_3 : w3.cell? ⟨g, 3, none⟩ = some (.float .f64 0) := (hb3.cell (p := ⟨g, 3, none⟩) (by first | (simp; done) | (simp; omega) | omega)).trans (by go_simp)
  have c3_0_4 : w3.cell? ⟨g, 4, none⟩ = some (.float .f64 9218868437227405312) := (hb3.cell (p := ⟨g, 4, none⟩) (by first | (simp; done) | (simp; omega) | omega)).trans (by go_simp)
  clear hb3 B2 c2_0_0 c2_0_1 c2_0_2 c2_0_3 c2_0_4
  go_wp2_with fail
  refine (gfe_is (real_Round 13836183955189006336 1 (by decide) _) (show rdV 13836183955189006336 1 = some 13837309855095848960 by kernel_rfl) (show rdE 1 = 0 by decide)).mono ?_
  rintro e w4 ⟨rfl, hb4⟩
  have B4 : Below w.heap.size w w4 := by (focus (repeat' (first | assumption | exact Below.refl _ _ | refine Below.alloc ?_ ?_ _ | refine Below.setCell ?_ ?_ _ | refine Below.drew ?_ | refine below_drewN ?_ _ | refine Below.trans ?_ (Below.mono (by assumption) ?_) | refine Below.trans ?_ (Below.mono (BW.below _) ?_) | (simp; done) | (simp; omega) | omega)))
  have n4 : w.heap.size ≤ w4.heap.size := B4.size
  have s4_0 : g < w4.heap.size := Nat.lt_of_lt_of_le (by first | (simp; done) | (simp; omega) | omega) hb4.size
  have c4_0_0 : w4.cell? ⟨g, 0, none⟩ = some (.float .f64 n) := (hb4.cell (p := ⟨g, 0, none⟩) (by first | (simp; done) | (simp; omega) | omega)).trans (by go_simp)
  have c4_0_1 : w4.cell? ⟨g, 1, none⟩ = some (.float .f64 18442240474082181120) := (hb4.cell (p := ⟨g, 1, none⟩) (by first | (simp; done) | (simp; omega) | omega)).trans (by go_simp)
  have c4_0_2 : w4.cell? ⟨g, 2, none⟩ = some (.float .f64 9223372036854775808) := (hb4.cell (p := ⟨g, 2, none⟩) (by first | (simp; done) | (simp; omega) | omega)).trans (by go_simp)
  have c4_0_3 : w4.cell? ⟨g, 3, none⟩ = some (.float .f64 0) := (hb4.cell (p := ⟨g, 3, none⟩) (by first | (simp; done) | (simp; omega) | omega)).trans (by go_simp)
  have c4_0_4 : w4.cell? ⟨g, 4, none⟩ = some (.float .f64 9218868437227405312) := (hb4.cell (p := ⟨g, 4, none⟩) (by first | (simp; done) | (simp; omega) | omega)).trans (by go_simp)
  clear hb4 B3 c3_0_0 c3_0_1 c3_0_2 c3_0_3 c3_0_4
  go_wp2_with fail
  refine (gfe_is (real_Round 4607182418800017408 0 (by decide) _) (show rdV 4607182418800017408 0 = some 0 by kernel_rfl) (show rdE 0 = 4 by decide)).mono ?_
  rintro e w5 ⟨rfl, hb5⟩
  have B5 : Below w.heap.size w w5 := by (focus (repeat' (first | assumption | exact Below.refl _ _ | refine Below.alloc ?_ ?_ _ | refine Below.setCell ?_ ?_ _ | refine Below.drew ?_ | refine below_drewN ?_ _ | refine Below.trans ?_ (Below.mono (by assumption) ?_) | refine Below.trans ?_ (Below.mono (BW.below _) ?_) | (simp; done) | (simp; omega) | omega)))
  have n5 : w.heap.size ≤ w5.heap.size := B5.size
  have s5_0 : g < w5.heap.size := Nat.lt_of_lt_of_le (by first | (simp; done) | (simp; omega) | omega) hb5.size
  have c5_0_0 : w5.cell? ⟨g, 0, none⟩ = some (.float .f64 n) := (hb5.cell (p := ⟨g, 0, none⟩) (by first | (simp; done) | (simp; omega) | omega)).trans (by go_simp)
  have c5_0_1 : w5.cell? ⟨g, 1, none⟩ = some (.float .f64 18442240474082181120) := (hb5.cell (p := ⟨g, 1, none⟩) (by first | (simp; done) | (simp; omega) | omega)).trans (by go_simp)
  have c5_0_2 : w5.cell? ⟨g, 2, none⟩ = some (.float .f64 9223372036854775808) := (hb5.cell (p := ⟨g, 2, none⟩) (by first | (simp; done) | (simp; omega) | omega)).trans (by go_simp)
  have c5_0_3 : w5.cell? ⟨g, 3, none⟩ = some (.float .f64 0) := (hb5.cell (p := ⟨g, 3, none⟩) (by first | (simp; done) | (simp; omega) | omega)).trans (by go_simp)
  have c5_0_4 : w5.cell? ⟨g, 4, none⟩ = some (.float .f64 9218868437227405312) := (hb5.cell (p := ⟨g, 4, none⟩) (by first | (simp; done) | (simp; omega) | omega)).trans (by go_simp)
  clear hb5 B4 c4_0_0 c4_0_1 c4_0_2 c4_0_3 c4_0_4
  go_wp2_with fail
  refine (whole_is 14114281232179134464 (m := 1) (V := -9223372036854775808) (E := 0) (by decide) (by kernel_rfl) (by kernel_rfl) _).mono ?_
  rintro e w6 ⟨rfl, hb6⟩
  have B6 : Below w.heap.size w w6 := by (focus (repeat' (first | assumption | exact Below.refl _ _ | refine Below.alloc ?_ ?_ _ | refine Below.setCell ?_ ?_ _ | refine Below.drew ?_ | refine below_drewN ?_ _ | refine Below.trans ?_ (Below.mono (by assumption) ?_) | refine Below.trans ?_ (Below.mono (BW.below _) ?_) | (simp; done) | (simp; omega) | omega)))
  have n6 : w.heap.size ≤ w6.heap.size := B6.size
  have s6_0 : g < w6.heap.size := Nat.lt_of_lt_of_le (by first | (simp; done) | (simp; omega) | omega) hb6.size
  have c6_0_0 : w6.cell? ⟨g, 0, none⟩ = some (.float .f64 n) := (hb6.cell (p := ⟨g, 0, none⟩) (by first | (simp; done) | (simp; omega) | omega)).trans (by go_simp)
  have c6_0_1 : w6.cell? ⟨g, 1, none⟩ = some (.float .f64 18442240474082181120) := (hb6.cell (p := ⟨g, 1, none⟩) (by first | (simp; done) | (simp; omega) | omega)).trans (by go_simp)
  have c6_0_2 : w6.cell? ⟨g, 2, none⟩ = some (.float .f64 9223372036854775808) := (hb6.cell (p := ⟨g, 2, none⟩) (by first | (simp; done) | (simp; omega) | omega)).trans (by go_simp)
  have c6_0_3 : w6.cell? ⟨g, 3, none⟩ = some (.float .f64 0) := (hb6.cell (p := ⟨g, 3, none⟩) (by first | (simp; done) | (simp; omega) | omega)).trans (by go_simp)
  have c6_0_4 : w6.cell? ⟨g, 4, none⟩ = some (.float .f64 9218868437227405312) := (hb6.cell (p := ⟨g, 4, none⟩) (by first | (simp; done) | (simp; omega) | omega)).trans (by go_simp)
  clear hb6 B5 c5_0_0 c5_0_1 c5_0_2 c5_0_3 c5_0_4
  go_wp2_with fail
  refine (whole_is 4890909195324358656 (m := 1) (V := 0) (E := 1) (by decide) (by kernel_rfl) (by kernel_rfl) _).mono ?_
  rintro e w7 ⟨rfl, hb7⟩
  have B7 : Below w.heap.size w w7 := by (focus (repeat' (first | assumption | exact Below.refl _ _ | refine Below.alloc ?_ ?_ _ | refine Below.setCell ?_ ?_ _ | refine Below.drew ?_ | refine below_drewN ?_ _ | refine Below.trans ?_ (Below.mono (by assumption) ?_) | refine Below.trans ?_ (Below.mono (BW.below _) ?_) | (simp; done) | (simp; omega) | omega)))
  have n7 : w.heap.size ≤ w7.heap.size := B7.size
  have s7_0 : g < w7.heap.size := Nat.lt_of_lt_of_le (by first | (simp; done) | (simp; omega) | omega) hb7.size
  have c7_0_0 : w7.cell? ⟨g, 0, none⟩ = some (.float .f64 n) := (hb7.cell (p := ⟨g, 0, none⟩) (by first | (simp; done) | (simp; omega) | omega)).trans (by go_simp)
  have c7_0_1 : w7.cell? ⟨g, 1, none⟩ = some (.float .f64 18442240474082181120) := (hb7.cell (p := ⟨g, 1, none⟩) (by first | (simp; done) | (simp; omega) | omega)).trans (by go_simp)
  have c7_0_2 : w7.cell? ⟨g, 2, none⟩ = some (.float .f64 9223372036854775808) := (hb7.cell (p := ⟨g, 2, none⟩) (by first | (simp; done) | (simp; omega) | omega)).trans (by go_simp)
  have c7_0_3 : w7.cell? ⟨g, 3, none⟩ = some (.float .f64 0) := (hb7.cell (p := ⟨g, 3, none⟩) (by first | (simp; done) | (simp; omega) | omega)).trans (by go_simp)
  have c7_0_4 : w7.cell? ⟨g, 4, none⟩ = some (.float .f64 9218868437227405312) := (hb7.cell (p := ⟨g, 4, none⟩) (by first | (simp; done) | (simp; omega) | omega)).trans (by go_simp)
  clear hb7 B6 c6_0_0 c6_0_1 c6_0_2 c6_0_3 c6_0_4
  go_wp2_with fail
  refine (whole_is n (m := 2) (V := 0) (E := 18) HN.out.2 (whole_nan HN.out.1).1 (whole_nan HN.out.1).2 _).mono ?_
  rintro e w8 ⟨rfl, hb8⟩
  have B8 : Below w.heap.size w w8 := by (focus (repeat' (first | assumption | exact Below.refl _ _ | refine Below.alloc ?_ ?_ _ | refine Below.setCell ?_ ?_ _ | refine Below.drew ?_ | refine below_drewN ?_ _ | refine Below.trans ?_ (Below.mono (by assumption) ?_) | refine Below.trans ?_ (Below.mono (BW.below _) ?_) | (simp; done) | (simp; omega) | omega)))
  have n8 : w.heap.size ≤ w8.heap.size := B8.size
  have s8_0 : g < w8.heap.size := Nat.lt_of_lt_of_le (by first | (simp; done) | (simp; omega) | omega) hb8.size
  have c8_0_0 : w8.cell? ⟨g, 0, none⟩ = some (.float .f64 n) := (hb8.cell (p := ⟨g, 0, none⟩) (by first | (simp; done) | (simp; omega) | omega)).trans (by go_simp)
  have c8_0_1 : w8.cell? ⟨g, 1, none⟩ = some (.float .f64 18442240474082181120) := (hb8.cell (p := ⟨g, 1, none⟩) (by first | (simp; done) | (simp; omega) | omega)).trans (by go_simp)
  have c8_0_2 : w8.cell? ⟨g, 2, none⟩ = some (.float .f64 9223372036854775808) := (hb8.cell (p := ⟨g, 2, none⟩) (by first | (simp; done) | (simp; omega) | omega)).trans (by go_simp)
  have c8_0_3 : w8.cell? ⟨g, 3, none⟩ = some (.float .f64 0) := (hb8.cell (p := ⟨g, 3, none⟩) (by first | (simp; done) | (simp; omega) | omega)).trans (by go_simp)
  have c8_0_4 : w8.cell? ⟨g, 4, none⟩ = some (.float .f64 9218868437227405312) := (hb8.cell (p := ⟨g, 4, none⟩) (by first | (simp; done) | (simp; omega) | omega)).trans (by go_simp)
  clear hb8 B7 c7_0_0 c7_0_1 c7_0_2 c7_0_3 c7_0_4
  go_wp2_with fail
  refine (whole_is 18442240474082181120 (m := 2) (V := 0) (E := 1) (by decide) (by kernel_rfl) (by kernel_rfl) _).mono ?_
  rintro e w9 ⟨rfl, hb9⟩
  have B9 : Below w.heap.size w w9 := by (focus (repeat' (first | assumption | exact Below.refl _ _ | refine Below.alloc ?_ ?_ _ | refine Below.setCell ?_ ?_ _ | refine Below.drew ?_ | refine below_drewN ?_ _ | refine Below.trans ?_ (Below.mono (by assumption) ?_) | refine Below.trans ?_ (Below.mono (BW.below _) ?_) | (simp; done) | (simp; omega) | omega)))
  have n9 : w.heap.size ≤ w9.heap.size := B9.size
  have s9_0 : g < w9.heap.size := Nat.lt_of_lt_of_le (by first | (simp; done) | (simp; omega) | omega) hb9.size
  have c9_0_0 : w9.cell? ⟨g, 0, none⟩ = some (.float .f64 n) := (hb9.cell (p := ⟨g, 0, none⟩) (by first | (simp; done) | (simp; omega) | omega)).trans (by go_simp)
  have c9_0_1 : w9.cell? ⟨g, 1, none⟩ = some (.float .f64 18442240474082181120) := (hb9.cell (p := ⟨g, 1, none⟩) (by first | (simp; done) | (simp; omega) | omega)).trans (by go_simp)
  have c9_0_2 : w9.cell? ⟨g, 2, none⟩ = some (.float .f64 9223372036854775808) := (hb9.cell (p := ⟨g, 2, none⟩) (by first | (simp; done) | (simp; omega) | omega)).trans (by go_simp)
  have c9_0_3 : w9.cell? ⟨g, 3, none⟩ = some (.float .f64 0) := (hb9.cell (p := ⟨g, 3, none⟩) (by first | (simp; done) | (simp; omega) | omega)).trans (by go_simp)
  have c9_0_4 : w9.cell? ⟨g, 4, none⟩ = some (.float .f64 9218868437227405312) := (hb9.cell (p := ⟨g, 4, none⟩) (by first | (simp; done) | (simp; omega) | omega)).trans (by go_simp)
  clear hb9 B8 c8_0_0 c8_0_1 c8_0_2 c8_0_3 c8_0_4
  go_wp2_with fail
  refine (whole_is 9223372036854775808 (m := 2) (V := 0) (E := 0) (by decide) (by kernel_rfl) (by kernel_rfl) _).mono ?_
  rintro e w10 ⟨rfl, hb10⟩
  have B10 : Below w.heap.size w w10 := by (focus (repeat' (first | assumption | exact Below.refl _ _ | refine Below.alloc ?_ ?_ _ | refine Below.setCell ?_ ?_ _ | refine Below.drew ?_ | refine below_drewN ?_ _ | refine Below.trans ?_ (Below.mono (by assumption) ?_) | refine Below.trans ?_ (Below.mono (BW.below _) ?_) | (simp; done) | (simp; omega) | omega)))
  have n10 : w.heap.size ≤ w10.heap.size := B10.size
  have s10_0 : g < w10.heap.size := Nat.lt_of_lt_of_le (by first | (simp; done) | (simp; omega) | omega) hb10.size
  have c10_0_0 : w10.cell? ⟨g, 0, none⟩ = some (.float .f64 n) := (hb10.cell (p := ⟨g, 0, none⟩) (by first | (simp; done) | (simp; omega) | omega)).trans (by go_simp)
  have c10_0_1 : w10.cell? ⟨g, 1, none⟩ = some (.float .f64 18442240474082181120) := (hb10.cell (p := ⟨g, 1, none⟩) (by first | (simp; done) | (simp; omega) | omega)).trans (by go_simp)
  have c10_0_2 : w10.cell? ⟨g, 2, none⟩ = some (.float .f64 9223372036854775808) := (hb10.cell (p := ⟨g, 2, none⟩) (by first | (simp; done) | (simp; omega) | omega)).trans (by go_simp)
  have c10_0_3 : w10.cell? ⟨g, 3, none⟩ = some (.float .f64 0) := (hb10.cell (p := ⟨g, 3, none⟩) (by first | (simp; done) | (simp; omega) | omega)).trans (by go_simp)
  have c10_0_4 : w10.cell? ⟨g, 4, none⟩ = some (.float .f64 9218868437227405312) := (hb10.cell (p := ⟨g, 4, none⟩) (by first | (simp; done) | (simp; omega) | omega)).trans (by go_simp)
  clear hb10 B9 c9_0_0 c9_0_1 c9_0_2 c9_0_3 c9_0_4
  go_wp2_with fail
  refine (whole_is n (m := 9) (V := 0) (E := 4) HN.out.2 (whole_nan HN.out.1).1 (whole_nan HN.out.1).2 _).mono ?_
  rintro e w11 ⟨rfl, hb11⟩
  have B11 : Below w.heap.size w w11 := by (focus (repeat' (first | assumption | exact Below.refl _ _ | refine Below.alloc ?_ ?_ _ | refine Below.setCell ?_ ?_ _ | refine Below.drew ?_ | refine below_drewN ?_ _ | refine Below.trans ?_ (Below.mono (by assumption) ?_) | refine Below.trans ?_ (Below.mono (BW.below _) ?_) | (simp; done) | (simp; omega) | omega)))
  have n11 : w.heap.size ≤ w11.heap.size := B11.size
  have s11_0 : g < w11.heap.size := Nat.lt_of_lt_of_le (by first | (simp; done) | (simp; omega) | omega) hb11.size
  have c11_0_0 : w11.cell? ⟨g, 0, none⟩ = some (.float .f64 n) := (hb11.cell (p := ⟨g, 0, none⟩) (by first | (simp; done) | (simp; omega) | omega)).trans (by go_simp)
  have c11_0_1 : w11.cell? ⟨g, 1, none⟩ = some (.float .f64 18442240474082181120) := (hb11.cell (p := ⟨g, 1, none⟩) (by first | (simp; done) | (simp; omega) | omega)).trans (by go_simp)
  have c11_0_2 : w11.cell? ⟨g, 2, none⟩ = some (.float .f64 9223372036854775808) := (hb11.cell (p := ⟨g, 2, none⟩) (by first | (simp; done) | (simp; omega) | omega)).trans (by go_simp)
  have c11_0_3 : w11.cell? ⟨g, 3, none⟩ = some (.float .f64 0) := (hb11.cell (p := ⟨g, 3, none⟩) (by first | (simp; done) | (simp; omega) | omega)).trans (by go_simp)
  have c11_0_4 : w11.cell? ⟨g, 4, none⟩ = some (.float .f64 9218868437227405312) := (hb11.cell (p := ⟨g, 4, none⟩) (by first | (simp; done) | (simp; omega) | omega)).trans (by go_simp)
  clear hb11 B10 c10_0_0 c10_0_1 c10_0_2 c10_0_3 c10_0_4
  as_aux_lemma =>
    go_wp2_with fail
    have Bx11 : Below w.heap.size w w11 := by (focus (repeat' (first | assumption | exact Below.refl _ _ | refine Below.alloc ?_ ?_ _ | refine Below.setCell ?_ ?_ _ | refine Below.drew ?_ | refine below_drewN ?_ _ | refine Below.trans ?_ (Below.mono (by assumption) ?_) | refine Below.trans ?_ (Below.mono (BW.below _) ?_) | (simp; done) | (simp; omega) | omega)))
    have nx11 : w.heap.size ≤ w11.heap.size := Bx11.size
    have sx11_0 : g < w11.heap.size := (by first | (simp; done) | (simp; omega) | omega)
    have cx11_0_0 : w11.cell? ⟨g, 0, none⟩ = some (.float .f64 n) := by go_simp
    have cx11_0_1 : w11.cell? ⟨g, 1, none⟩ = some (.float .f64 18442240474082181120) := by go_simp
    have cx11_0_2 : w11.cell? ⟨g, 2, none⟩ = some (.float .f64 9223372036854775808) := by go_simp
    have cx11_0_3 : w11.cell? ⟨g, 3, none⟩ = some (.float .f64 0) := by go_simp
    have cx11_0_4 : w11.cell? ⟨g, 4, none⟩ = some (.float .f64 9218868437227405312) := by go_simp
    clear B11 c11_0_0 c11_0_1 c11_0_2 c11_0_3 c11_0_4
    generalize w11 = x11 at *
    try dsimp only [List.append]
    go_region_held3 (fun w' => (∀ b o, b < x11.heap.size → w'.cell? ⟨b, o, none⟩ = x11.cell? ⟨b, o, none⟩) ∧ Below x11.heap.size x11 w') (first | exact held_drew _ | exact held_call (by assumption) (by assumption) | exact held_alloc (by assumption) _)
      ((go_at_call 10; refine (least_drew _ 4613937818241073152 0 9223372036854775808 (r := 9223372036854775808) (by decide) (by decide) (by decide) (by kernel_rfl)).mono ?_; rintro e wr ⟨rfl, hbr⟩; have zr := hbr.size))
    obtain ⟨xq, rfl⟩ : ∃ q : BW x11, wr = q.val := ⟨⟨wr, held_right (by assumption)⟩, rfl⟩
    have Bx12 : Below w.heap.size w xq.val := Bx11.trans (xq.below.mono nx11)
    have nx12 : w.heap.size ≤ xq.val.heap.size := Bx12.size
    have sx12_0 : g < xq.val.heap.size := Nat.lt_of_lt_of_le (by first | (simp; done) | (simp; omega) | omega) xq.below.size
    have cx12_0_0 : xq.val.cell? ⟨g, 0, none⟩ = some (.float .f64 n) := (xq.cell (g) 0 (by first | (simp; done) | (simp; omega) | omega)).trans (by go_simp)
    have cx12_0_1 : xq.val.cell? ⟨g, 1, none⟩ = some (.float .f64 18442240474082181120) := (xq.cell (g) 1 (by first | (simp; done) | (simp; omega) | omega)).trans (by go_simp)
    have cx12_0_2 : xq.val.cell? ⟨g, 2, none⟩ = some (.float .f64 9223372036854775808) := (xq.cell (g) 2 (by first | (simp; done) | (simp; omega) | omega)).trans (by go_simp)
    have cx12_0_3 : xq.val.cell? ⟨g, 3, none⟩ = some (.float .f64 0) := (xq.cell (g) 3 (by first | (simp; done) | (simp; omega) | omega)).trans (by go_simp)
    have cx12_0_4 : xq.val.cell? ⟨g, 4, none⟩ = some (.float .f64 9218868437227405312) := (xq.cell (g) 4 (by first | (simp; done) | (simp; omega) | omega)).trans (by go_simp)
    generalize xq.val = x12 at *
    go_wp2_with fail
    refine (real_Least_nil none 0 _).mono ?_
    rintro e w' ⟨rfl, rfl⟩
    go_wp2_with fail
    have Bx13 : Below w.heap.size w x12 := by (focus (repeat' (first | assumption | exact Below.refl _ _ | refine Below.alloc ?_ ?_ _ | refine Below.setCell ?_ ?_ _ | refine Below.drew ?_ | refine below_drewN ?_ _ | refine Below.trans ?_ (Below.mono (by assumption) ?_) | refine Below.trans ?_ (Below.mono (BW.below _) ?_) | (simp; done) | (simp; omega) | omega)))
    have nx13 : w.heap.size ≤ x12.heap.size := Bx13.size
    have sx13_0 : g < x12.heap.size := (by first | (simp; done) | (simp; omega) | omega)
    have cx13_0_0 : x12.cell? ⟨g, 0, none⟩ = some (.float .f64 n) := by go_simp
    have cx13_0_1 : x12.cell? ⟨g, 1, none⟩ = some (.float .f64 18442240474082181120) := by go_simp
    have cx13_0_2 : x12.cell? ⟨g, 2, none⟩ = some (.float .f64 9223372036854775808) := by go_simp
    have cx13_0_3 : x12.cell? ⟨g, 3, none⟩ = some (.float .f64 0) := by go_simp
    have cx13_0_4 : x12.cell? ⟨g, 4, none⟩ = some (.float .f64 9218868437227405312) := by go_simp
    clear Bx12 cx12_0_0 cx12_0_1 cx12_0_2 cx12_0_3 cx12_0_4
    generalize x12 = x13 at *
    try dsimp only [List.append]
    refine wp_region_bw_tail 133 (by kernel_rfl) (fast_tail (by kernel_rfl)) ?_
    as_aux_lemma =>
      simp only [List.take_succ_cons, List.take_zero, List.drop_succ_cons, List.drop_zero]; (repeat (go_big_quiet_step ((first | (go_at_call 26; (with_reducible first | exact bw_same (kind_is 9223372036854775808 (k := 3) (by decide) (by kernel_rfl) _) | exact bw_same (kind_is 0 (k := 4) (by decide) (by kernel_rfl) _) | exact bw_same (kind_is 13835058055282163712 (k := 2) (by decide) (by kernel_rfl) _) | exact bw_same (kind_is 4602678819172646912 (k := 5) (by decide) (by kernel_rfl) _))) | (go_at_call 9; (with_reducible first | exact bw_same (same_is n n (v := true) HN.out.2 HN.out.2 (by simp) _) | exact bw_same (same_is 9223372036854775808 0 (v := false) (by decide) (by decide) (by kernel_rfl) _))) | (go_at_call 8; (with_reducible first | exact bw_same (less_is 9223372036854775808 0 (v := true) (by decide) (by decide) (by kernel_rfl) _) | exact bw_same (less_is n 18442240474082181120 (v := true) HN.out.2 (by decide) (by rw [plc_nan HN.out.1]; kernel_rfl) _) | exact bw_same (less_is 0 0 (v := false) (by decide) (by decide) (by kernel_rfl) _))) | (go_at_call 27; exact bw_same (hOf _)) | (go_at_call 28; exact bw_call (gf_is (real_Sum_nil none 0 _) (rfl : _ = some 0))))))); refine wpQuiet_nil ?_; intro _ hw'; obtain ⟨xq, hw''⟩ := hw'; subst hw''
      have Bx14 : Below w.heap.size w xq.val := Bx13.trans (xq.below.mono nx13)
      have nx14 : w.heap.size ≤ xq.val.heap.size := Bx14.size
      have sx14_0 : g < xq.val.heap.size := Nat.lt_of_lt_of_le (by first | (simp; done) | (simp; omega) | omega) xq.below.size
      have cx14_0_0 : xq.val.cell? ⟨g, 0, none⟩ = some (.float .f64 n) := (xq.cell (g) 0 (by first | (simp; done) | (simp; omega) | omega)).trans (by go_simp)
      have cx14_0_1 : xq.val.cell? ⟨g, 1, none⟩ = some (.float .f64 18442240474082181120) := (xq.cell (g) 1 (by first | (simp; done) | (simp; omega) | omega)).trans (by go_simp)
      have cx14_0_2 : xq.val.cell? ⟨g, 2, none⟩ = some (.float .f64 9223372036854775808) := (xq.cell (g) 2 (by first | (simp; done) | (simp; omega) | omega)).trans (by go_simp)
      have cx14_0_3 : xq.val.cell? ⟨g, 3, none⟩ = some (.float .f64 0) := (xq.cell (g) 3 (by first | (simp; done) | (simp; omega) | omega)).trans (by go_simp)
      have cx14_0_4 : xq.val.cell? ⟨g, 4, none⟩ = some (.float .f64 9218868437227405312) := (xq.cell (g) 4 (by first | (simp; done) | (simp; omega) | omega)).trans (by go_simp)
      clear Bx13 cx13_0_0 cx13_0_1 cx13_0_2 cx13_0_3 cx13_0_4
      generalize xq.val = x14 at *
      go_wp2_with fail
      refine (sum_one _ 9223372036854775808 (r := 9223372036854775808) (by decide) (by kernel_rfl)).mono ?_
      rintro e w13 ⟨rfl, hb13⟩
      have B13 : Below w.heap.size w w13 := by (focus (repeat' (first | assumption | exact Below.refl _ _ | refine Below.alloc ?_ ?_ _ | refine Below.setCell ?_ ?_ _ | refine Below.drew ?_ | refine below_drewN ?_ _ | refine Below.trans ?_ (Below.mono (by assumption) ?_) | refine Below.trans ?_ (Below.mono (BW.below _) ?_) | (simp; done) | (simp; omega) | omega)))
      have n13 : w.heap.size ≤ w13.heap.size := B13.size
      clear hb13 Bx14 cx14_0_0 cx14_0_1 cx14_0_2 cx14_0_3 cx14_0_4
      go_wp2_with fail
      refine (kind_is 9223372036854775808 (k := 3) (by decide) (by kernel_rfl) _).mono ?_
      rintro e w' ⟨rfl, rfl⟩
      go_wp2_with fail
      refine (sum_three _ 4607182418800017408 4611686018427387904 4602678819172646912 (r := 4615063718147915776) (by decide) (by decide) (by decide) (by kernel_rfl)).mono ?_
      rintro e w15 ⟨rfl, hb15⟩
      have B15 : Below w.heap.size w w15 := by (focus (repeat' (first | assumption | exact Below.refl _ _ | refine Below.alloc ?_ ?_ _ | refine Below.setCell ?_ ?_ _ | refine Below.drew ?_ | refine below_drewN ?_ _ | refine Below.trans ?_ (Below.mono (by assumption) ?_) | refine Below.trans ?_ (Below.mono (BW.below _) ?_) | (simp; done) | (simp; omega) | omega)))
      have n15 : w.heap.size ≤ w15.heap.size := B15.size
      clear hb15 B13
      go_wp2_with fail
      refine (kind_is 13835058055282163712 (k := 2) (by decide) (by kernel_rfl) _).mono ?_
      rintro e w' ⟨rfl, rfl⟩
      go_wp2_with fail
      refine (kind_is 4602678819172646912 (k := 5) (by decide) (by kernel_rfl) _).mono ?_
      rintro e w' ⟨rfl, rfl⟩
      go_wp2_with fail
      go_ret
      exact ⟨rfl, by (focus (repeat' (first | assumption | exact Below.refl _ _ | refine Below.alloc ?_ ?_ _ | refine Below.setCell ?_ ?_ _ | refine Below.drew ?_ | refine below_drewN ?_ _ | refine Below.trans ?_ (Below.mono (by assumption) ?_) | refine Below.trans ?_ (Below.mono (BW.below _) ?_) | (simp; done) | (simp; omega) | omega)))⟩
end Go.Proofs.Ytblmlglkjmilkac
