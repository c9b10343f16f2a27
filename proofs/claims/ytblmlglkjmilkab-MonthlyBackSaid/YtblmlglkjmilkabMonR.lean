/-
  Contracts of the reference's dates moved by months.
-/
import Derived.Test.YtblmlglkjmilkabMonA
namespace Go.Proofs.Ytblmlglkjmilkab
open Go.RowKit Cal
attribute [local go_sem] BW.cell BW.frozen

/-- What the reference's clamp gives. -/
def clB (q : Int) : Bool := decide (-40000 ≤ q ∧ q ≤ 40000)
def clY (q : Int) : Int := if clB q = true then q else 0
def clM (q m : Int) : Int := if clB q = true then m else 0
def clD (q m d : Int) : Int := if clB q = true then minI d (mlen q m) else 0
def clE (q : Int) : Int := if clB q = true then 0 else 1
theorem cl_y {q : Int} (m d : Int) (h : clB q = true) : clY q = q ∧ clM q m = m ∧ clD q m d = minI d (mlen q m) ∧ clE q = 0 := by simp [clY, clM, clD, clE, h]
theorem cl_n {q : Int} (m d : Int) (h : clB q = false) : clY q = 0 ∧ clM q m = 0 ∧ clD q m d = 0 ∧ clE q = 1 := by simp [clY, clM, clD, clE, h]

theorem ref06_clamp (q m d : Int) (kq : I64 q) (w : World) : Calls Try.prog 75 #[.int .i64 q, .int .i64 m, .int .i64 d] w fun e w' => e = .returned (.tuple #[dat (clY q) (clM q m) (clD q m d), .int .i64 (clE q)]) ∧ Below w.heap.size w w' := by
  have hL := fun w => ref03_Len q m kq w
  by_cases h1 : -40000 ≤ q
  · by_cases h2 : q ≤ 40000
    · obtain ⟨e1, e2, e3, e4⟩ := cl_y m d (q := q) (by simp [clB, h1, h2])
      rw [e1, e2, e3, e4]
      clear e1 e2 e3 e4
      have em := minI_cases d (mlen q m)
      generalize mlen q m = L at *
      rcases em with ⟨hc1, em⟩ | ⟨hc1, em⟩
      all_goals
        rw [em]
        clear em
        go_enter Try.func75, Try.ntmps75
        go_wp2_with (go_at_call 106; refine (hL _).mono ?_; rintro e w1 ⟨rfl, hb⟩; obtain ⟨hc, hf⟩ := bcell hb; have z := hb.size; (try simp at z); have z0 : w.heap.size < w1.heap.size := (by omega); have d0 : w1.cell? ⟨w.heap.size, 0, none⟩ = some (.int .i64 0) := (hb.cell (p := ⟨w.heap.size, 0, none⟩) (by first | (simp; done) | (simp; omega) | omega)).trans (by go_simp); have g0 : w1.frozen? ⟨w.heap.size, 0, none⟩ = false := (hb.frozen (p := ⟨w.heap.size, 0, none⟩) (by first | (simp; done) | (simp; omega) | omega)).trans (by go_simp); have d1 : w1.cell? ⟨w.heap.size, 1, none⟩ = some (.int .i64 0) := (hb.cell (p := ⟨w.heap.size, 1, none⟩) (by first | (simp; done) | (simp; omega) | omega)).trans (by go_simp); have g1 : w1.frozen? ⟨w.heap.size, 1, none⟩ = false := (hb.frozen (p := ⟨w.heap.size, 1, none⟩) (by first | (simp; done) | (simp; omega) | omega)).trans (by go_simp); have d2 : w1.cell? ⟨w.heap.size, 2, none⟩ = some (.int .i64 0) := (hb.cell (p := ⟨w.heap.size, 2, none⟩) (by first | (simp; done) | (simp; omega) | omega)).trans (by go_simp); have g2 : w1.frozen? ⟨w.heap.size, 2, none⟩ = false := (hb.frozen (p := ⟨w.heap.size, 2, none⟩) (by first | (simp; done) | (simp; omega) | omega)).trans (by go_simp))
        refine bodyPost_ret (v := .tuple #[dat _ _ _, .int .i64 _]) (by simp [results, Try.results75, go_sem, *]) rfl ⟨rfl, ?_⟩
        (focus (repeat' (first | exact Below.refl _ _ | refine Below.alloc ?_ ?_ _ | refine Below.setCell ?_ ?_ _ | refine Below.drew ?_ | refine below_drewN ?_ _ | refine Below.trans ?_ (Below.mono (by assumption) ?_) | refine Below.trans ?_ (Below.mono (BW.below _) ?_) | (simp; done) | (simp; omega) | omega)))
    · obtain ⟨e1, e2, e3, e4⟩ := cl_n m d (q := q) (by simp [clB]; omega)
      rw [e1, e2, e3, e4]
      clear e1 e2 e3 e4
      have h2' : 40000 < q := by omega
      go_enter Try.func75, Try.ntmps75
      go_wp2
      refine bodyPost_ret (v := .tuple #[dat _ _ _, .int .i64 _]) (by simp [results, Try.results75, go_sem, *]) rfl ⟨rfl, ?_⟩
      (focus (repeat' (first | exact Below.refl _ _ | refine Below.alloc ?_ ?_ _ | refine Below.setCell ?_ ?_ _ | refine Below.drew ?_ | refine below_drewN ?_ _ | refine Below.trans ?_ (Below.mono (by assumption) ?_) | refine Below.trans ?_ (Below.mono (BW.below _) ?_) | (simp; done) | (simp; omega) | omega)))
  · obtain ⟨e1, e2, e3, e4⟩ := cl_n m d (q := q) (by simp [clB]; omega)
    rw [e1, e2, e3, e4]
    clear e1 e2 e3 e4
    have h1' : q < -40000 := by omega
    go_enter Try.func75, Try.ntmps75
    go_wp2
    refine bodyPost_ret (v := .tuple #[dat _ _ _, .int .i64 _]) (by simp [results, Try.results75, go_sem, *]) rfl ⟨rfl, ?_⟩
    (focus (repeat' (first | exact Below.refl _ _ | refine Below.alloc ?_ ?_ _ | refine Below.setCell ?_ ?_ _ | refine Below.drew ?_ | refine below_drewN ?_ _ | refine Below.trans ?_ (Below.mono (by assumption) ?_) | refine Below.trans ?_ (Below.mono (BW.below _) ?_) | (simp; done) | (simp; omega) | omega)))

theorem ref06_Add_n (y m d n : Int) (ky : I64 y) (hc : (rightB y m d = false) ∨ (rightB y m d = true ∧ 1000000 < n) ∨ (rightB y m d = true ∧ n < -1000000)) (w : World) : Calls Try.prog 21 #[dat y m d, .int .i64 n] w fun e w' => e = .returned (.tuple #[dat (addY y m d n) (addM y m d n) (addD y m d n), .int .i64 (addE y m d n)]) ∧ Below w.heap.size w w' := by
  have hR := fun w => ref03_Right y m d ky w
  have hb : addB y m d n = false := by
    cases hc' : addB y m d n
    · rfl
    · have h1 := (addB_iff y m d n).1 hc'
      have h2 := (right_iff y m d).1 h1.1
      unfold moN at h1
      rcases hc with h | ⟨_, h⟩ | ⟨_, h⟩
      · rw [h1.1] at h; exact Bool.noConfusion h
      · omega
      · omega
  obtain ⟨e1, e2, e3, e4⟩ := add_n hb
  rw [e1, e2, e3, e4]
  clear e1 e2 e3 e4 hb
  rcases hc with h | ⟨h, g⟩ | ⟨h, g⟩
  all_goals
    rw [h] at hR
    clear h
    go_enter Try.func21, Try.ntmps21
    go_wp2_with (go_at_call 74; refine (hR _).mono ?_; rintro e w1 ⟨rfl, hb⟩; obtain ⟨hc, hf⟩ := bcell hb; have z := hb.size; (try simp at z); have z0 : w.heap.size < w1.heap.size := (by omega); have z1 : w.heap.size + 1 < w1.heap.size := (by omega); have d0 : w1.cell? ⟨w.heap.size + 1, 0, none⟩ = some (.int .i64 0) := (hb.cell (p := ⟨w.heap.size + 1, 0, none⟩) (by first | (simp; done) | (simp; omega) | omega)).trans (by go_simp); have g0 : w1.frozen? ⟨w.heap.size + 1, 0, none⟩ = false := (hb.frozen (p := ⟨w.heap.size + 1, 0, none⟩) (by first | (simp; done) | (simp; omega) | omega)).trans (by go_simp); have d1 : w1.cell? ⟨w.heap.size + 1, 1, none⟩ = some (.int .i64 0) := (hb.cell (p := ⟨w.heap.size + 1, 1, none⟩) (by first | (simp; done) | (simp; omega) | omega)).trans (by go_simp); have g1 : w1.frozen? ⟨w.heap.size + 1, 1, none⟩ = false := (hb.frozen (p := ⟨w.heap.size + 1, 1, none⟩) (by first | (simp; done) | (simp; omega) | omega)).trans (by go_simp); have d2 : w1.cell? ⟨w.heap.size + 1, 2, none⟩ = some (.int .i64 0) := (hb.cell (p := ⟨w.heap.size + 1, 2, none⟩) (by first | (simp; done) | (simp; omega) | omega)).trans (by go_simp); have g2 : w1.frozen? ⟨w.heap.size + 1, 2, none⟩ = false := (hb.frozen (p := ⟨w.heap.size + 1, 2, none⟩) (by first | (simp; done) | (simp; omega) | omega)).trans (by go_simp))
    refine bodyPost_ret (v := .tuple #[dat _ _ _, .int .i64 _]) (by simp [results, Try.results21, go_sem, *]) rfl ⟨rfl, ?_⟩
    (focus (repeat' (first | exact Below.refl _ _ | refine Below.alloc ?_ ?_ _ | refine Below.setCell ?_ ?_ _ | refine Below.drew ?_ | refine below_drewN ?_ _ | refine Below.trans ?_ (Below.mono (by assumption) ?_) | refine Below.trans ?_ (Below.mono (BW.below _) ?_) | (simp; done) | (simp; omega) | omega)))
set_option maxHeartbeats 2000000 in
theorem ref06_Add_y (y m d n : Int) (ky : I64 y) (h : rightB y m d = true) (n0 : -1000000 ≤ n) (n1 : n ≤ 1000000) (w : World) : Calls Try.prog 21 #[dat y m d, .int .i64 n] w fun e w' => e = .returned (.tuple #[dat (addY y m d n) (addM y m d n) (addD y m d n), .int .i64 (addE y m d n)]) ∧ Below w.heap.size w w' := by
  have hR := fun w => ref03_Right y m d ky w
  rw [h] at hR
  obtain ⟨y0, y1, m0, m1, d0, d1⟩ := (right_iff y m d).1 h
  have ks : I64 (y * 12 + m - 1 + n) := I64.sm (by omega)
  have kq : I64 ((y * 12 + m - 1 + n) / 12) := I64.sm (by omega)
  have hF := fun w => ref01_Floor (y * 12 + m - 1 + n) 12 ks (by omega) (by omega) w
  have hS := fun w => ref01_Rest (y * 12 + m - 1 + n) 12 ks (by omega) (by omega) w
  have hC := fun w => ref06_clamp ((y * 12 + m - 1 + n) / 12) ((y * 12 + m - 1 + n) % 12 + 1) d kq w
  have ev : addY y m d n = clY ((y * 12 + m - 1 + n) / 12) ∧ addM y m d n = clM ((y * 12 + m - 1 + n) / 12) ((y * 12 + m - 1 + n) % 12 + 1) ∧ addD y m d n = clD ((y * 12 + m - 1 + n) / 12) ((y * 12 + m - 1 + n) % 12 + 1) d ∧ addE y m d n = clE ((y * 12 + m - 1 + n) / 12) := by
    have hb : addB y m d n = clB ((y * 12 + m - 1 + n) / 12) := by unfold addB clB moN; rw [h, Bool.true_and]
    simp [addY, addM, addD, addE, clY, clM, clD, clE, hb, moN]
  obtain ⟨e1, e2, e3, e4⟩ := ev
  rw [e1, e2, e3, e4]
  clear e1 e2 e3 e4 h d1
  have r0 : 0 ≤ (y * 12 + m - 1 + n) % 12 := by omega
  have r1 : (y * 12 + m - 1 + n) % 12 ≤ 11 := by omega
  generalize (y * 12 + m - 1 + n) / 12 = q at *
  generalize (y * 12 + m - 1 + n) % 12 = r at *
  generalize clY q = Y at *
  generalize clM q (r + 1) = M at *
  generalize clD q (r + 1) d = D at *
  generalize clE q = E at *
  go_enter Try.func21, Try.ntmps21
  go_wp2_with (go_at_call 74; refine (hR _).mono ?_; rintro e w1 ⟨rfl, hb⟩; obtain ⟨hc, hf⟩ := bcell hb; have z := hb.size; (try simp at z); have z0 : w.heap.size < w1.heap.size := (by omega); have z1 : w.heap.size + 1 < w1.heap.size := (by omega); have d0 : w1.cell? ⟨w.heap.size + 1, 0, none⟩ = some (.int .i64 0) := (hb.cell (p := ⟨w.heap.size + 1, 0, none⟩) (by first | (simp; done) | (simp; omega) | omega)).trans (by go_simp); have g0 : w1.frozen? ⟨w.heap.size + 1, 0, none⟩ = false := (hb.frozen (p := ⟨w.heap.size + 1, 0, none⟩) (by first | (simp; done) | (simp; omega) | omega)).trans (by go_simp); have d1 : w1.cell? ⟨w.heap.size + 1, 1, none⟩ = some (.int .i64 0) := (hb.cell (p := ⟨w.heap.size + 1, 1, none⟩) (by first | (simp; done) | (simp; omega) | omega)).trans (by go_simp); have g1 : w1.frozen? ⟨w.heap.size + 1, 1, none⟩ = false := (hb.frozen (p := ⟨w.heap.size + 1, 1, none⟩) (by first | (simp; done) | (simp; omega) | omega)).trans (by go_simp); have d2 : w1.cell? ⟨w.heap.size + 1, 2, none⟩ = some (.int .i64 0) := (hb.cell (p := ⟨w.heap.size + 1, 2, none⟩) (by first | (simp; done) | (simp; omega) | omega)).trans (by go_simp); have g2 : w1.frozen? ⟨w.heap.size + 1, 2, none⟩ = false := (hb.frozen (p := ⟨w.heap.size + 1, 2, none⟩) (by first | (simp; done) | (simp; omega) | omega)).trans (by go_simp))
  try dsimp only [List.append]
  refine wp_region_bw_tail 10 (by kernel_rfl) (by kernel_rfl) ?_; simp only [List.take_succ_cons, List.take_zero, List.drop_succ_cons, List.drop_zero]; (repeat (go_big_quiet_step ((first | (go_at_call 76; exact bw_same (hF _)) | (go_at_call 77; exact bw_same (hS _)) | (go_at_call 75; exact bw_call (hC _)))))); refine wpQuiet_nil ?_; intro _ hw'; obtain ⟨xq, hw''⟩ := hw'; subst hw''
  have s1 : w.heap.size + 1 < xq.val.heap.size := Nat.lt_of_lt_of_le (by omega) xq.below.size
  go_wp2
  refine bodyPost_ret (v := .tuple #[dat _ _ _, .int .i64 _]) (by simp [results, Try.results21, go_sem, *]) rfl ⟨rfl, ?_⟩
  (focus (repeat' (first | exact Below.refl _ _ | refine Below.alloc ?_ ?_ _ | refine Below.setCell ?_ ?_ _ | refine Below.drew ?_ | refine below_drewN ?_ _ | refine Below.trans ?_ (Below.mono (by assumption) ?_) | refine Below.trans ?_ (Below.mono (BW.below _) ?_) | (simp; done) | (simp; omega) | omega)))
theorem ref06_Add (y m d n : Int) (ky : I64 y) (w : World) : Calls Try.prog 21 #[dat y m d, .int .i64 n] w fun e w' => e = .returned (.tuple #[dat (addY y m d n) (addM y m d n) (addD y m d n), .int .i64 (addE y m d n)]) ∧ Below w.heap.size w w' := by
  cases h : rightB y m d
  · exact ref06_Add_n y m d n ky (.inl h) w
  · by_cases n0 : -1000000 ≤ n
    · by_cases n1 : n ≤ 1000000
      · exact ref06_Add_y y m d n ky h n0 n1 w
      · exact ref06_Add_n y m d n ky (.inr (.inl ⟨h, by omega⟩)) w
    · exact ref06_Add_n y m d n ky (.inr (.inr ⟨h, by omega⟩)) w
end Go.Proofs.Ytblmlglkjmilkab
