/-
  noontidelaw03.CivilSteps: the walk.
-/
import Derived.Test.YtblmlglkjmilkaaCivU
namespace Go.Proofs.Ytblmlglkjmilkaa
open Go.RowKit Cal
attribute [local go_sem] BW.cell BW.frozen

/-- What was stored last is read, where it was stored twice. -/
theorem cell_set2 (w : World) (a : Addr) (u v : Value) (h : (w.cell? a).isSome = true) : ((w.setCell a u).setCell a v).cell? a = some v := by
  have h1 : ((w.setCell a u).cell? a).isSome = true := by rw [World.cell?_setCell_same' w a u h]; rfl
  exact World.cell?_setCell_same' _ a v h1
attribute [local go_sem] cell_set2

/-- Dates that may be are in the order of their numbers. -/
theorem cmp_numb {y m d y' m' d' : Int} (h : rightB y m d = true) (h' : rightB y' m' d' = true) :
    (numb y m d < numb y' m' d' ∧ cmp3 y m d y' m' d' = -1 ∧ cmp3 y' m' d' y m d = 1) ∨ ((y = y' ∧ m = m' ∧ d = d') ∧ cmp3 y m d y' m' d' = 0) ∨ (numb y' m' d' < numb y m d ∧ cmp3 y m d y' m' d' = 1 ∧ cmp3 y' m' d' y m d = -1) := by
  have r := (right_iff y m d).1 h
  have r' := (right_iff y' m' d').1 h'
  have l1 := numb_lt (y := y) (y' := y') ⟨r.2.2.1, r.2.2.2.1⟩ ⟨r.2.2.2.2.1, r.2.2.2.2.2⟩ ⟨r'.2.2.1, r'.2.2.2.1⟩ ⟨r'.2.2.2.2.1, r'.2.2.2.2.2⟩
  have l2 := numb_lt (y := y') (y' := y) ⟨r'.2.2.1, r'.2.2.2.1⟩ ⟨r'.2.2.2.2.1, r'.2.2.2.2.2⟩ ⟨r.2.2.1, r.2.2.2.1⟩ ⟨r.2.2.2.2.1, r.2.2.2.2.2⟩
  rcases cmpI_cases y y' with ⟨a, e⟩ | ⟨a, e⟩ | ⟨a, e⟩
  · have e' : cmpI y' y = 1 := by rcases cmpI_cases y' y with ⟨b, f⟩ | ⟨b, f⟩ | ⟨b, f⟩ <;> omega
    exact .inl ⟨l1.2 (.inl a), by simp [cmp3, or3, e], by simp [cmp3, or3, e']⟩
  · have e' : cmpI y' y = -1 := by rcases cmpI_cases y' y with ⟨b, f⟩ | ⟨b, f⟩ | ⟨b, f⟩ <;> omega
    exact .inr (.inr ⟨l2.2 (.inl a), by simp [cmp3, or3, e], by simp [cmp3, or3, e']⟩)
  · subst a
    rcases cmpI_cases m m' with ⟨a, f⟩ | ⟨a, f⟩ | ⟨a, f⟩
    · have f' : cmpI m' m = 1 := by rcases cmpI_cases m' m with ⟨b, f⟩ | ⟨b, f⟩ | ⟨b, f⟩ <;> omega
      exact .inl ⟨l1.2 (.inr ⟨rfl, .inl a⟩), by simp [cmp3, or3, e, f], by simp [cmp3, or3, e, f']⟩
    · have f' : cmpI m' m = -1 := by rcases cmpI_cases m' m with ⟨b, f⟩ | ⟨b, f⟩ | ⟨b, f⟩ <;> omega
      exact .inr (.inr ⟨l2.2 (.inr ⟨rfl, .inl a⟩), by simp [cmp3, or3, e, f], by simp [cmp3, or3, e, f']⟩)
    · subst a
      rcases cmpI_cases d d' with ⟨a, g⟩ | ⟨a, g⟩ | ⟨a, g⟩
      · have g' : cmpI d' d = 1 := by rcases cmpI_cases d' d with ⟨b, f⟩ | ⟨b, f⟩ | ⟨b, f⟩ <;> omega
        exact .inl ⟨l1.2 (.inr ⟨rfl, .inr ⟨rfl, a⟩⟩), by simp [cmp3, or3, e, f, g], by simp [cmp3, or3, e, f, g']⟩
      · have g' : cmpI d' d = -1 := by rcases cmpI_cases d' d with ⟨b, f⟩ | ⟨b, f⟩ | ⟨b, f⟩ <;> omega
        exact .inr (.inr ⟨l2.2 (.inr ⟨rfl, .inr ⟨rfl, a⟩⟩), by simp [cmp3, or3, e, f, g], by simp [cmp3, or3, e, f, g']⟩)
      · subst a
        exact .inr (.inl ⟨⟨rfl, rfl, rfl⟩, by simp [cmp3, or3, e, f, g]⟩)
theorem wday_succ (n : Int) : wday (n + 1) = (wday n + 1) % 7 := by unfold wday; omega
theorem days_y {y m d : Int} (h : rightB y m d = true) : dayV y m d = numb y m d ∧ dayE y m d = 0 ∧ ydV y m d = cum y m + d := by simp [dayV, dayE, ydV, h]
theorem days_n {y m d : Int} (h : rightB y m d = false) : dayV y m d = 0 ∧ dayE y m d = 1 ∧ ydV y m d = 0 := by simp [dayV, dayE, ydV, h]

theorem CivilSteps_n1 (y m d y' m' d' : Int) (ky : I64 y) (ky' : I64 y') (h : rightB y m d = false) (w : World) : Calls Try.prog 9 #[dat y m d, dat y' m' d'] w fun e w' => e = .returned (.bool true) ∧ Below w.heap.size w w' := by
  have hD := fun w => civil_Days y m d ky w
  rw [(days_n h).1, (days_n h).2.1] at hD
  clear h
  have hE := fun w => civil_Days y' m' d' ky' w
  generalize dayV y' m' d' = v at *
  generalize dayE y' m' d' = u at *
  go_enter Try.func9, Try.ntmps9
  go_wp2_with fail
  refine (civ_lives _).mono ?_
  rintro e w1 ⟨rfl, hb1⟩
  have B1 : Below w.heap.size w w1 := by (focus (repeat' (first | assumption | exact Below.refl _ _ | refine Below.alloc ?_ ?_ _ | refine Below.setCell ?_ ?_ _ | refine Below.drew ?_ | refine below_drewN ?_ _ | refine Below.trans ?_ (Below.mono (by assumption) ?_) | refine Below.trans ?_ (Below.mono (BW.below _) ?_) | (simp; done) | (simp; omega) | omega)))
  have n1 : w.heap.size ≤ w1.heap.size := B1.size
  have s1_0 : w.heap.size < w1.heap.size := Nat.lt_of_lt_of_le (by first | (simp; done) | (simp; omega) | omega) hb1.size
  have c1_0_0 : w1.cell? ⟨w.heap.size, 0, none⟩ = some (.int .i64 (y)) := (hb1.cell (p := ⟨w.heap.size, 0, none⟩) (by first | (simp; done) | (simp; omega) | omega)).trans (by go_simp)
  have c1_0_1 : w1.cell? ⟨w.heap.size, 1, none⟩ = some (.int .i64 (m)) := (hb1.cell (p := ⟨w.heap.size, 1, none⟩) (by first | (simp; done) | (simp; omega) | omega)).trans (by go_simp)
  have c1_0_2 : w1.cell? ⟨w.heap.size, 2, none⟩ = some (.int .i64 (d)) := (hb1.cell (p := ⟨w.heap.size, 2, none⟩) (by first | (simp; done) | (simp; omega) | omega)).trans (by go_simp)
  have s1_1 : w.heap.size + 1 < w1.heap.size := Nat.lt_of_lt_of_le (by first | (simp; done) | (simp; omega) | omega) hb1.size
  have c1_1_0 : w1.cell? ⟨w.heap.size + 1, 0, none⟩ = some (.int .i64 (y')) := (hb1.cell (p := ⟨w.heap.size + 1, 0, none⟩) (by first | (simp; done) | (simp; omega) | omega)).trans (by go_simp)
  have c1_1_1 : w1.cell? ⟨w.heap.size + 1, 1, none⟩ = some (.int .i64 (m')) := (hb1.cell (p := ⟨w.heap.size + 1, 1, none⟩) (by first | (simp; done) | (simp; omega) | omega)).trans (by go_simp)
  have c1_1_2 : w1.cell? ⟨w.heap.size + 1, 2, none⟩ = some (.int .i64 (d')) := (hb1.cell (p := ⟨w.heap.size + 1, 2, none⟩) (by first | (simp; done) | (simp; omega) | omega)).trans (by go_simp)
  clear hb1
  go_wp2_with fail
  refine (hD _).mono ?_
  rintro e w2 ⟨rfl, hb2⟩
  have B2 : Below w.heap.size w w2 := by (focus (repeat' (first | assumption | exact Below.refl _ _ | refine Below.alloc ?_ ?_ _ | refine Below.setCell ?_ ?_ _ | refine Below.drew ?_ | refine below_drewN ?_ _ | refine Below.trans ?_ (Below.mono (by assumption) ?_) | refine Below.trans ?_ (Below.mono (BW.below _) ?_) | (simp; done) | (simp; omega) | omega)))
  have n2 : w.heap.size ≤ w2.heap.size := B2.size
  have s2_0 : w.heap.size + 1 < w2.heap.size := Nat.lt_of_lt_of_le (by first | (simp; done) | (simp; omega) | omega) hb2.size
  have c2_0_0 : w2.cell? ⟨w.heap.size + 1, 0, none⟩ = some (.int .i64 (y')) := (hb2.cell (p := ⟨w.heap.size + 1, 0, none⟩) (by first | (simp; done) | (simp; omega) | omega)).trans (by go_simp)
  have c2_0_1 : w2.cell? ⟨w.heap.size + 1, 1, none⟩ = some (.int .i64 (m')) := (hb2.cell (p := ⟨w.heap.size + 1, 1, none⟩) (by first | (simp; done) | (simp; omega) | omega)).trans (by go_simp)
  have c2_0_2 : w2.cell? ⟨w.heap.size + 1, 2, none⟩ = some (.int .i64 (d')) := (hb2.cell (p := ⟨w.heap.size + 1, 2, none⟩) (by first | (simp; done) | (simp; omega) | omega)).trans (by go_simp)
  clear hb2 B1 n1 s1_0 c1_0_0 c1_0_1 c1_0_2 s1_1 c1_1_0 c1_1_1 c1_1_2
  go_wp2_with fail
  refine (hE _).mono ?_
  rintro e w3 ⟨rfl, hb3⟩
  have B3 : Below w.heap.size w w3 := by (focus (repeat' (first | assumption | exact Below.refl _ _ | refine Below.alloc ?_ ?_ _ | refine Below.setCell ?_ ?_ _ | refine Below.drew ?_ | refine below_drewN ?_ _ | refine Below.trans ?_ (Below.mono (by assumption) ?_) | refine Below.trans ?_ (Below.mono (BW.below _) ?_) | (simp; done) | (simp; omega) | omega)))
  have n3 : w.heap.size ≤ w3.heap.size := B3.size
  clear hb3 B2 n2 s2_0 c2_0_0 c2_0_1 c2_0_2
  go_wp2_with fail
  go_ret
  exact ⟨rfl, by (focus (repeat' (first | assumption | exact Below.refl _ _ | refine Below.alloc ?_ ?_ _ | refine Below.setCell ?_ ?_ _ | refine Below.drew ?_ | refine below_drewN ?_ _ | refine Below.trans ?_ (Below.mono (by assumption) ?_) | refine Below.trans ?_ (Below.mono (BW.below _) ?_) | (simp; done) | (simp; omega) | omega)))⟩
theorem CivilSteps_n2 (y m d y' m' d' : Int) (ky : I64 y) (ky' : I64 y') (h : rightB y m d = true) (h' : rightB y' m' d' = false) (w : World) : Calls Try.prog 9 #[dat y m d, dat y' m' d'] w fun e w' => e = .returned (.bool true) ∧ Below w.heap.size w w' := by
  have hD := fun w => civil_Days y m d ky w
  rw [(days_y h).1, (days_y h).2.1] at hD
  have hE := fun w => civil_Days y' m' d' ky' w
  rw [(days_n h').1, (days_n h').2.1] at hE
  clear h h'
  generalize numb y m d = N at *
  go_enter Try.func9, Try.ntmps9
  go_wp2_with fail
  refine (civ_lives _).mono ?_
  rintro e w1 ⟨rfl, hb1⟩
  have B1 : Below w.heap.size w w1 := by (focus (repeat' (first | assumption | exact Below.refl _ _ | refine Below.alloc ?_ ?_ _ | refine Below.setCell ?_ ?_ _ | refine Below.drew ?_ | refine below_drewN ?_ _ | refine Below.trans ?_ (Below.mono (by assumption) ?_) | refine Below.trans ?_ (Below.mono (BW.below _) ?_) | (simp; done) | (simp; omega) | omega)))
  have n1 : w.heap.size ≤ w1.heap.size := B1.size
  have s1_0 : w.heap.size < w1.heap.size := Nat.lt_of_lt_of_le (by first | (simp; done) | (simp; omega) | omega) hb1.size
  have c1_0_0 : w1.cell? ⟨w.heap.size, 0, none⟩ = some (.int .i64 (y)) := (hb1.cell (p := ⟨w.heap.size, 0, none⟩) (by first | (simp; done) | (simp; omega) | omega)).trans (by go_simp)
  have c1_0_1 : w1.cell? ⟨w.heap.size, 1, none⟩ = some (.int .i64 (m)) := (hb1.cell (p := ⟨w.heap.size, 1, none⟩) (by first | (simp; done) | (simp; omega) | omega)).trans (by go_simp)
  have c1_0_2 : w1.cell? ⟨w.heap.size, 2, none⟩ = some (.int .i64 (d)) := (hb1.cell (p := ⟨w.heap.size, 2, none⟩) (by first | (simp; done) | (simp; omega) | omega)).trans (by go_simp)
  have s1_1 : w.heap.size + 1 < w1.heap.size := Nat.lt_of_lt_of_le (by first | (simp; done) | (simp; omega) | omega) hb1.size
  have c1_1_0 : w1.cell? ⟨w.heap.size + 1, 0, none⟩ = some (.int .i64 (y')) := (hb1.cell (p := ⟨w.heap.size + 1, 0, none⟩) (by first | (simp; done) | (simp; omega) | omega)).trans (by go_simp)
  have c1_1_1 : w1.cell? ⟨w.heap.size + 1, 1, none⟩ = some (.int .i64 (m')) := (hb1.cell (p := ⟨w.heap.size + 1, 1, none⟩) (by first | (simp; done) | (simp; omega) | omega)).trans (by go_simp)
  have c1_1_2 : w1.cell? ⟨w.heap.size + 1, 2, none⟩ = some (.int .i64 (d')) := (hb1.cell (p := ⟨w.heap.size + 1, 2, none⟩) (by first | (simp; done) | (simp; omega) | omega)).trans (by go_simp)
  clear hb1
  go_wp2_with fail
  refine (hD _).mono ?_
  rintro e w2 ⟨rfl, hb2⟩
  have B2 : Below w.heap.size w w2 := by (focus (repeat' (first | assumption | exact Below.refl _ _ | refine Below.alloc ?_ ?_ _ | refine Below.setCell ?_ ?_ _ | refine Below.drew ?_ | refine below_drewN ?_ _ | refine Below.trans ?_ (Below.mono (by assumption) ?_) | refine Below.trans ?_ (Below.mono (BW.below _) ?_) | (simp; done) | (simp; omega) | omega)))
  have n2 : w.heap.size ≤ w2.heap.size := B2.size
  have s2_0 : w.heap.size + 1 < w2.heap.size := Nat.lt_of_lt_of_le (by first | (simp; done) | (simp; omega) | omega) hb2.size
  have c2_0_0 : w2.cell? ⟨w.heap.size + 1, 0, none⟩ = some (.int .i64 (y')) := (hb2.cell (p := ⟨w.heap.size + 1, 0, none⟩) (by first | (simp; done) | (simp; omega) | omega)).trans (by go_simp)
  have c2_0_1 : w2.cell? ⟨w.heap.size + 1, 1, none⟩ = some (.int .i64 (m')) := (hb2.cell (p := ⟨w.heap.size + 1, 1, none⟩) (by first | (simp; done) | (simp; omega) | omega)).trans (by go_simp)
  have c2_0_2 : w2.cell? ⟨w.heap.size + 1, 2, none⟩ = some (.int .i64 (d')) := (hb2.cell (p := ⟨w.heap.size + 1, 2, none⟩) (by first | (simp; done) | (simp; omega) | omega)).trans (by go_simp)
  clear hb2 B1 n1 s1_0 c1_0_0 c1_0_1 c1_0_2 s1_1 c1_1_0 c1_1_1 c1_1_2
  go_wp2_with fail
  refine (hE _).mono ?_
  rintro e w3 ⟨rfl, hb3⟩
  have B3 : Below w.heap.size w w3 := by (focus (repeat' (first | assumption | exact Below.refl _ _ | refine Below.alloc ?_ ?_ _ | refine Below.setCell ?_ ?_ _ | refine Below.drew ?_ | refine below_drewN ?_ _ | refine Below.trans ?_ (Below.mono (by assumption) ?_) | refine Below.trans ?_ (Below.mono (BW.below _) ?_) | (simp; done) | (simp; omega) | omega)))
  have n3 : w.heap.size ≤ w3.heap.size := B3.size
  clear hb3 B2 n2 s2_0 c2_0_0 c2_0_1 c2_0_2
  go_wp2_with fail
  go_ret
  exact ⟨rfl, by (focus (repeat' (first | assumption | exact Below.refl _ _ | refine Below.alloc ?_ ?_ _ | refine Below.setCell ?_ ?_ _ | refine Below.drew ?_ | refine below_drewN ?_ _ | refine Below.trans ?_ (Below.mono (by assumption) ?_) | refine Below.trans ?_ (Below.mono (BW.below _) ?_) | (simp; done) | (simp; omega) | omega)))⟩
set_option maxRecDepth 100000 in
set_option maxHeartbeats 8000000 in
theorem CivilSteps_lta (y m d y' m' d' : Int) (ky : I64 y) (ky' : I64 y') (h : rightB y m d = true) (h' : rightB y' m' d' = true) (hc : numb y m d < numb y' m' d' ∧ cmp3 y m d y' m' d' = -1 ∧ cmp3 y' m' d' y m d = 1) (hs : d + 1 ≤ mlen y m) (w : World) : Calls Try.prog 9 #[dat y m d, dat y' m' d'] w fun e w' => e = .returned (.bool true) ∧ Below w.heap.size w w' := by
  have hD := fun w => civil_Days y m d ky w
  rw [(days_y h).1, (days_y h).2.1] at hD
  have hE := fun w => civil_Days y' m' d' ky' w
  rw [(days_y h').1, (days_y h').2.1] at hE
  have hC1 := fun w => civil_Compare y m d y' m' d' w
  rw [hc.2.1] at hC1
  have hC2 := fun w => civil_Compare y' m' d' y m d w
  rw [hc.2.2] at hC2
  have hcN := hc.1
  have r := (right_iff y m d).1 h
  obtain ⟨ry0, ry1, rm0, rm1, rd0, rd1⟩ := r
  have ml := mlen_bd y m
  have ll := lp_01 y
  have hn : rightB (y) (m) (d + 1) = true := (right_iff _ _ _).2 (by omega)
  have kn : I64 (y) := I64.sm (by omega)
  have hN := fun w => civil_Days (y) (m) (d + 1) kn w
  rw [(days_y hn).1, (days_y hn).2.1] at hN
  have hP := fun w => civil_YearDay y m d ky w
  rw [(days_y h).2.2, (days_y h).2.1] at hP
  have hQ := fun w => civil_YearDay (y) (m) (d + 1) kn w
  rw [(days_y hn).2.2, (days_y hn).2.1] at hQ
  rw [show numb y m (d + 1) = numb y m d + 1 from by unfold numb; omega] at hN
  rw [show cum y m + (d + 1) = cum y m + d + 1 from by omega] at hQ
  have cb := cum_bd y m rm0 rm1
  obtain ⟨nb0, nb1⟩ := numb_bd y m d (by omega)
  generalize cum y m = cu at *
  obtain ⟨cb0, cb1, cb2⟩ := cb
  generalize numb y m d = N at *
  generalize numb y' m' d' = N' at *
  have hcA : decide (N < N') = true := by simp; omega
  have hcB : (N == N') = false := by simp; omega
  have kN : I64 N := I64.sm (by omega)
  have kN1 : I64 (N + 1) := I64.sm (by omega)
  have hW := fun w => civil_Weekday N kN w
  have hW1 := fun w => civil_Weekday (N + 1) kN1 w
  rw [wday_succ] at hW1
  obtain ⟨wb0, wb1⟩ := wday_bd N
  generalize wday N = wd at *
  have hL := fun w => civil_Len y m ky w
  generalize mlen y m = L at *
  clear h h' hc
  clear hn ml
  go_enter Try.func9, Try.ntmps9
  go_wp2_with fail
  refine (civ_lives _).mono ?_
  rintro e w1 ⟨rfl, hb1⟩
  have B1 : Below w.heap.size w w1 := by (focus (repeat' (first | assumption | exact Below.refl _ _ | refine Below.alloc ?_ ?_ _ | refine Below.setCell ?_ ?_ _ | refine Below.drew ?_ | refine below_drewN ?_ _ | refine Below.trans ?_ (Below.mono (by assumption) ?_) | refine Below.trans ?_ (Below.mono (BW.below _) ?_) | (simp; done) | (simp; omega) | omega)))
  have n1 : w.heap.size ≤ w1.heap.size := B1.size
  have s1_0 : w.heap.size < w1.heap.size := Nat.lt_of_lt_of_le (by first | (simp; done) | (simp; omega) | omega) hb1.size
  have c1_0_0 : w1.cell? ⟨w.heap.size, 0, none⟩ = some (.int .i64 (y)) := (hb1.cell (p := ⟨w.heap.size, 0, none⟩) (by first | (simp; done) | (simp; omega) | omega)).trans (by go_simp)
  have c1_0_1 : w1.cell? ⟨w.heap.size, 1, none⟩ = some (.int .i64 (m)) := (hb1.cell (p := ⟨w.heap.size, 1, none⟩) (by first | (simp; done) | (simp; omega) | omega)).trans (by go_simp)
  have c1_0_2 : w1.cell? ⟨w.heap.size, 2, none⟩ = some (.int .i64 (d)) := (hb1.cell (p := ⟨w.heap.size, 2, none⟩) (by first | (simp; done) | (simp; omega) | omega)).trans (by go_simp)
  have s1_1 : w.heap.size + 1 < w1.heap.size := Nat.lt_of_lt_of_le (by first | (simp; done) | (simp; omega) | omega) hb1.size
  have c1_1_0 : w1.cell? ⟨w.heap.size + 1, 0, none⟩ = some (.int .i64 (y')) := (hb1.cell (p := ⟨w.heap.size + 1, 0, none⟩) (by first | (simp; done) | (simp; omega) | omega)).trans (by go_simp)
  have c1_1_1 : w1.cell? ⟨w.heap.size + 1, 1, none⟩ = some (.int .i64 (m')) := (hb1.cell (p := ⟨w.heap.size + 1, 1, none⟩) (by first | (simp; done) | (simp; omega) | omega)).trans (by go_simp)
  have c1_1_2 : w1.cell? ⟨w.heap.size + 1, 2, none⟩ = some (.int .i64 (d')) := (hb1.cell (p := ⟨w.heap.size + 1, 2, none⟩) (by first | (simp; done) | (simp; omega) | omega)).trans (by go_simp)
  clear hb1
  go_wp2_with fail
  refine (hD _).mono ?_
  rintro e w2 ⟨rfl, hb2⟩
  have B2 : Below w.heap.size w w2 := by (focus (repeat' (first | assumption | exact Below.refl _ _ | refine Below.alloc ?_ ?_ _ | refine Below.setCell ?_ ?_ _ | refine Below.drew ?_ | refine below_drewN ?_ _ | refine Below.trans ?_ (Below.mono (by assumption) ?_) | refine Below.trans ?_ (Below.mono (BW.below _) ?_) | (simp; done) | (simp; omega) | omega)))
  have n2 : w.heap.size ≤ w2.heap.size := B2.size
  have s2_0 : w.heap.size < w2.heap.size := Nat.lt_of_lt_of_le (by first | (simp; done) | (simp; omega) | omega) hb2.size
  have c2_0_0 : w2.cell? ⟨w.heap.size, 0, none⟩ = some (.int .i64 (y)) := (hb2.cell (p := ⟨w.heap.size, 0, none⟩) (by first | (simp; done) | (simp; omega) | omega)).trans (by go_simp)
  have c2_0_1 : w2.cell? ⟨w.heap.size, 1, none⟩ = some (.int .i64 (m)) := (hb2.cell (p := ⟨w.heap.size, 1, none⟩) (by first | (simp; done) | (simp; omega) | omega)).trans (by go_simp)
  have c2_0_2 : w2.cell? ⟨w.heap.size, 2, none⟩ = some (.int .i64 (d)) := (hb2.cell (p := ⟨w.heap.size, 2, none⟩) (by first | (simp; done) | (simp; omega) | omega)).trans (by go_simp)
  have s2_1 : w.heap.size + 1 < w2.heap.size := Nat.lt_of_lt_of_le (by first | (simp; done) | (simp; omega) | omega) hb2.size
  have c2_1_0 : w2.cell? ⟨w.heap.size + 1, 0, none⟩ = some (.int .i64 (y')) := (hb2.cell (p := ⟨w.heap.size + 1, 0, none⟩) (by first | (simp; done) | (simp; omega) | omega)).trans (by go_simp)
  have c2_1_1 : w2.cell? ⟨w.heap.size + 1, 1, none⟩ = some (.int .i64 (m')) := (hb2.cell (p := ⟨w.heap.size + 1, 1, none⟩) (by first | (simp; done) | (simp; omega) | omega)).trans (by go_simp)
  have c2_1_2 : w2.cell? ⟨w.heap.size + 1, 2, none⟩ = some (.int .i64 (d')) := (hb2.cell (p := ⟨w.heap.size + 1, 2, none⟩) (by first | (simp; done) | (simp; omega) | omega)).trans (by go_simp)
  clear hb2 B1 c1_0_0 c1_0_1 c1_0_2 c1_1_0 c1_1_1 c1_1_2
  go_wp2_with fail
  refine (hE _).mono ?_
  rintro e w3 ⟨rfl, hb3⟩
  have B3 : Below w.heap.size w w3 := by (focus (repeat' (first | assumption | exact Below.refl _ _ | refine Below.alloc ?_ ?_ _ | refine Below.setCell ?_ ?_ _ | refine Below.drew ?_ | refine below_drewN ?_ _ | refine Below.trans ?_ (Below.mono (by assumption) ?_) | refine Below.trans ?_ (Below.mono (BW.below _) ?_) | (simp; done) | (simp; omega) | omega)))
  have n3 : w.heap.size ≤ w3.heap.size := B3.size
  have s3_0 : w.heap.size < w3.heap.size := Nat.lt_of_lt_of_le (by first | (simp; done) | (simp; omega) | omega) hb3.size
  have c3_0_0 : w3.cell? ⟨w.heap.size, 0, none⟩ = some (.int .i64 (y)) := (hb3.cell (p := ⟨w.heap.size, 0, none⟩) (by first | (simp; done) | (simp; omega) | omega)).trans (by go_simp)
  have c3_0_1 : w3.cell? ⟨w.heap.size, 1, none⟩ = some (.int .i64 (m)) := (hb3.cell (p := ⟨w.heap.size, 1, none⟩) (by first | (simp; done) | (simp; omega) | omega)).trans (by go_simp)
  have c3_0_2 : w3.cell? ⟨w.heap.size, 2, none⟩ = some (.int .i64 (d)) := (hb3.cell (p := ⟨w.heap.size, 2, none⟩) (by first | (simp; done) | (simp; omega) | omega)).trans (by go_simp)
  have s3_1 : w.heap.size + 1 < w3.heap.size := Nat.lt_of_lt_of_le (by first | (simp; done) | (simp; omega) | omega) hb3.size
  have c3_1_0 : w3.cell? ⟨w.heap.size + 1, 0, none⟩ = some (.int .i64 (y')) := (hb3.cell (p := ⟨w.heap.size + 1, 0, none⟩) (by first | (simp; done) | (simp; omega) | omega)).trans (by go_simp)
  have c3_1_1 : w3.cell? ⟨w.heap.size + 1, 1, none⟩ = some (.int .i64 (m')) := (hb3.cell (p := ⟨w.heap.size + 1, 1, none⟩) (by first | (simp; done) | (simp; omega) | omega)).trans (by go_simp)
  have c3_1_2 : w3.cell? ⟨w.heap.size + 1, 2, none⟩ = some (.int .i64 (d')) := (hb3.cell (p := ⟨w.heap.size + 1, 2, none⟩) (by first | (simp; done) | (simp; omega) | omega)).trans (by go_simp)
  clear hb3 B2 c2_0_0 c2_0_1 c2_0_2 c2_1_0 c2_1_1 c2_1_2
  go_wp2_with fail
  have Bx1 : Below w.heap.size w w3 := by (focus (repeat' (first | assumption | exact Below.refl _ _ | refine Below.alloc ?_ ?_ _ | refine Below.setCell ?_ ?_ _ | refine Below.drew ?_ | refine below_drewN ?_ _ | refine Below.trans ?_ (Below.mono (by assumption) ?_) | refine Below.trans ?_ (Below.mono (BW.below _) ?_) | (simp; done) | (simp; omega) | omega)))
  have nx1 : w.heap.size ≤ w3.heap.size := Bx1.size
  have sx1_0 : w.heap.size < w3.heap.size := (by first | (simp; done) | (simp; omega) | omega)
  have cx1_0_0 : w3.cell? ⟨w.heap.size, 0, none⟩ = some (.int .i64 (y)) := by go_simp
  have cx1_0_1 : w3.cell? ⟨w.heap.size, 1, none⟩ = some (.int .i64 (m)) := by go_simp
  have cx1_0_2 : w3.cell? ⟨w.heap.size, 2, none⟩ = some (.int .i64 (d)) := by go_simp
  have sx1_1 : w.heap.size + 1 < w3.heap.size := (by first | (simp; done) | (simp; omega) | omega)
  have cx1_1_0 : w3.cell? ⟨w.heap.size + 1, 0, none⟩ = some (.int .i64 (y')) := by go_simp
  have cx1_1_1 : w3.cell? ⟨w.heap.size + 1, 1, none⟩ = some (.int .i64 (m')) := by go_simp
  have cx1_1_2 : w3.cell? ⟨w.heap.size + 1, 2, none⟩ = some (.int .i64 (d')) := by go_simp
  clear B3 c3_0_0 c3_0_1 c3_0_2 c3_1_0 c3_1_1 c3_1_2
  generalize w3 = x1 at *
  try dsimp only [List.append]
  refine wp_region_bw (by kernel_rfl) (by kernel_rfl) ?_; (repeat (go_big_quiet_step ((go_at_call 58; first | with_reducible exact bw_call (hC1 _) | with_reducible exact bw_call (hC2 _))))); refine wpQuiet_nil ?_; intro _ hw'; obtain ⟨xq, hw''⟩ := hw'; subst hw''
  have Bx2 : Below w.heap.size w xq.val := Bx1.trans (xq.below.mono nx1)
  have nx2 : w.heap.size ≤ xq.val.heap.size := Bx2.size
  have sx2_0 : w.heap.size < xq.val.heap.size := Nat.lt_of_lt_of_le (by first | (simp; done) | (simp; omega) | omega) xq.below.size
  have cx2_0_0 : xq.val.cell? ⟨w.heap.size, 0, none⟩ = some (.int .i64 (y)) := (xq.cell (w.heap.size) 0 (by first | (simp; done) | (simp; omega) | omega)).trans (by go_simp)
  have cx2_0_1 : xq.val.cell? ⟨w.heap.size, 1, none⟩ = some (.int .i64 (m)) := (xq.cell (w.heap.size) 1 (by first | (simp; done) | (simp; omega) | omega)).trans (by go_simp)
  have cx2_0_2 : xq.val.cell? ⟨w.heap.size, 2, none⟩ = some (.int .i64 (d)) := (xq.cell (w.heap.size) 2 (by first | (simp; done) | (simp; omega) | omega)).trans (by go_simp)
  clear Bx1 cx1_0_0 cx1_0_1 cx1_0_2 cx1_1_0 cx1_1_1 cx1_1_2
  generalize xq.val = x2 at *
  go_wp2_with fail
  have Bx3 : Below w.heap.size w (x2.alloc (.cells #[.int .i64 (y), .int .i64 (m), .int .i64 (d + 1)] 48)) := by (focus (repeat' (first | assumption | exact Below.refl _ _ | refine Below.alloc ?_ ?_ _ | refine Below.setCell ?_ ?_ _ | refine Below.drew ?_ | refine below_drewN ?_ _ | refine Below.trans ?_ (Below.mono (by assumption) ?_) | refine Below.trans ?_ (Below.mono (BW.below _) ?_) | (simp; done) | (simp; omega) | omega)))
  have nx3 : w.heap.size ≤ (x2.alloc (.cells #[.int .i64 (y), .int .i64 (m), .int .i64 (d + 1)] 48)).heap.size := Bx3.size
  have sx3_0 : w.heap.size < (x2.alloc (.cells #[.int .i64 (y), .int .i64 (m), .int .i64 (d + 1)] 48)).heap.size := (by first | (simp; done) | (simp; omega) | omega)
  have cx3_0_0 : (x2.alloc (.cells #[.int .i64 (y), .int .i64 (m), .int .i64 (d + 1)] 48)).cell? ⟨w.heap.size, 0, none⟩ = some (.int .i64 (y)) := by go_simp
  have cx3_0_1 : (x2.alloc (.cells #[.int .i64 (y), .int .i64 (m), .int .i64 (d + 1)] 48)).cell? ⟨w.heap.size, 1, none⟩ = some (.int .i64 (m)) := by go_simp
  have cx3_0_2 : (x2.alloc (.cells #[.int .i64 (y), .int .i64 (m), .int .i64 (d + 1)] 48)).cell? ⟨w.heap.size, 2, none⟩ = some (.int .i64 (d)) := by go_simp
  have sx3_1 : x2.heap.size < (x2.alloc (.cells #[.int .i64 (y), .int .i64 (m), .int .i64 (d + 1)] 48)).heap.size := (by first | (simp; done) | (simp; omega) | omega)
  have cx3_1_0 : (x2.alloc (.cells #[.int .i64 (y), .int .i64 (m), .int .i64 (d + 1)] 48)).cell? ⟨x2.heap.size, 0, none⟩ = some (.int .i64 (y)) := by go_simp
  have cx3_1_1 : (x2.alloc (.cells #[.int .i64 (y), .int .i64 (m), .int .i64 (d + 1)] 48)).cell? ⟨x2.heap.size, 1, none⟩ = some (.int .i64 (m)) := by go_simp
  have cx3_1_2 : (x2.alloc (.cells #[.int .i64 (y), .int .i64 (m), .int .i64 (d + 1)] 48)).cell? ⟨x2.heap.size, 2, none⟩ = some (.int .i64 (d + 1)) := by go_simp
  have fx3_1_0 : (x2.alloc (.cells #[.int .i64 (y), .int .i64 (m), .int .i64 (d + 1)] 48)).frozen? ⟨x2.heap.size, 0, none⟩ = false := by go_simp
  have fx3_1_1 : (x2.alloc (.cells #[.int .i64 (y), .int .i64 (m), .int .i64 (d + 1)] 48)).frozen? ⟨x2.heap.size, 1, none⟩ = false := by go_simp
  have fx3_1_2 : (x2.alloc (.cells #[.int .i64 (y), .int .i64 (m), .int .i64 (d + 1)] 48)).frozen? ⟨x2.heap.size, 2, none⟩ = false := by go_simp
  clear Bx2 cx2_0_0 cx2_0_1 cx2_0_2
  generalize (x2.alloc (.cells #[.int .i64 (y), .int .i64 (m), .int .i64 (d + 1)] 48)) = x3 at *
  try dsimp only [List.append]
  refine wp_region_bw (by kernel_rfl) (by kernel_rfl) ?_; (repeat (go_big_quiet_step ((go_at_call 52; with_reducible exact bw_same (hL _))))); refine wpQuiet_nil ?_; intro _ hw'; obtain ⟨xq, hw''⟩ := hw'; subst hw''
  have Bx4 : Below w.heap.size w xq.val := Bx3.trans (xq.below.mono nx3)
  have nx4 : w.heap.size ≤ xq.val.heap.size := Bx4.size
  have sx4_0 : w.heap.size < xq.val.heap.size := Nat.lt_of_lt_of_le (by first | (simp; done) | (simp; omega) | omega) xq.below.size
  have cx4_0_0 : xq.val.cell? ⟨w.heap.size, 0, none⟩ = some (.int .i64 (y)) := (xq.cell (w.heap.size) 0 (by first | (simp; done) | (simp; omega) | omega)).trans (by go_simp)
  have cx4_0_1 : xq.val.cell? ⟨w.heap.size, 1, none⟩ = some (.int .i64 (m)) := (xq.cell (w.heap.size) 1 (by first | (simp; done) | (simp; omega) | omega)).trans (by go_simp)
  have cx4_0_2 : xq.val.cell? ⟨w.heap.size, 2, none⟩ = some (.int .i64 (d)) := (xq.cell (w.heap.size) 2 (by first | (simp; done) | (simp; omega) | omega)).trans (by go_simp)
  have sx4_1 : x2.heap.size < xq.val.heap.size := Nat.lt_of_lt_of_le (by first | (simp; done) | (simp; omega) | omega) xq.below.size
  have cx4_1_0 : xq.val.cell? ⟨x2.heap.size, 0, none⟩ = some (.int .i64 (y)) := (xq.cell (x2.heap.size) 0 (by first | (simp; done) | (simp; omega) | omega)).trans (by go_simp)
  have fx4_1_0 : xq.val.frozen? ⟨x2.heap.size, 0, none⟩ = false := (xq.frozen (x2.heap.size) 0 (by first | (simp; done) | (simp; omega) | omega)).trans (by go_simp)
  have cx4_1_1 : xq.val.cell? ⟨x2.heap.size, 1, none⟩ = some (.int .i64 (m)) := (xq.cell (x2.heap.size) 1 (by first | (simp; done) | (simp; omega) | omega)).trans (by go_simp)
  have fx4_1_1 : xq.val.frozen? ⟨x2.heap.size, 1, none⟩ = false := (xq.frozen (x2.heap.size) 1 (by first | (simp; done) | (simp; omega) | omega)).trans (by go_simp)
  have cx4_1_2 : xq.val.cell? ⟨x2.heap.size, 2, none⟩ = some (.int .i64 (d + 1)) := (xq.cell (x2.heap.size) 2 (by first | (simp; done) | (simp; omega) | omega)).trans (by go_simp)
  have fx4_1_2 : xq.val.frozen? ⟨x2.heap.size, 2, none⟩ = false := (xq.frozen (x2.heap.size) 2 (by first | (simp; done) | (simp; omega) | omega)).trans (by go_simp)
  clear Bx3 cx3_0_0 cx3_0_1 cx3_0_2 cx3_1_0 cx3_1_1 cx3_1_2 fx3_1_0 fx3_1_1 fx3_1_2
  generalize xq.val = x4 at *
  go_wp2_with fail
  refine (hN _).mono ?_
  rintro e w4 ⟨rfl, hb4⟩
  have B4 : Below w.heap.size w w4 := by (focus (repeat' (first | assumption | exact Below.refl _ _ | refine Below.alloc ?_ ?_ _ | refine Below.setCell ?_ ?_ _ | refine Below.drew ?_ | refine below_drewN ?_ _ | refine Below.trans ?_ (Below.mono (by assumption) ?_) | refine Below.trans ?_ (Below.mono (BW.below _) ?_) | (simp; done) | (simp; omega) | omega)))
  have n4 : w.heap.size ≤ w4.heap.size := B4.size
  have s4_0 : w.heap.size < w4.heap.size := Nat.lt_of_lt_of_le (by first | (simp; done) | (simp; omega) | omega) hb4.size
  have c4_0_0 : w4.cell? ⟨w.heap.size, 0, none⟩ = some (.int .i64 (y)) := (hb4.cell (p := ⟨w.heap.size, 0, none⟩) (by first | (simp; done) | (simp; omega) | omega)).trans (by go_simp)
  have c4_0_1 : w4.cell? ⟨w.heap.size, 1, none⟩ = some (.int .i64 (m)) := (hb4.cell (p := ⟨w.heap.size, 1, none⟩) (by first | (simp; done) | (simp; omega) | omega)).trans (by go_simp)
  have c4_0_2 : w4.cell? ⟨w.heap.size, 2, none⟩ = some (.int .i64 (d)) := (hb4.cell (p := ⟨w.heap.size, 2, none⟩) (by first | (simp; done) | (simp; omega) | omega)).trans (by go_simp)
  have s4_1 : x2.heap.size < w4.heap.size := Nat.lt_of_lt_of_le (by first | (simp; done) | (simp; omega) | omega) hb4.size
  have c4_1_0 : w4.cell? ⟨x2.heap.size, 0, none⟩ = some (.int .i64 (y)) := (hb4.cell (p := ⟨x2.heap.size, 0, none⟩) (by first | (simp; done) | (simp; omega) | omega)).trans (by go_simp)
  have c4_1_1 : w4.cell? ⟨x2.heap.size, 1, none⟩ = some (.int .i64 (m)) := (hb4.cell (p := ⟨x2.heap.size, 1, none⟩) (by first | (simp; done) | (simp; omega) | omega)).trans (by go_simp)
  have c4_1_2 : w4.cell? ⟨x2.heap.size, 2, none⟩ = some (.int .i64 (d + 1)) := (hb4.cell (p := ⟨x2.heap.size, 2, none⟩) (by first | (simp; done) | (simp; omega) | omega)).trans (by go_simp)
  have f4_1_0 : w4.frozen? ⟨x2.heap.size, 0, none⟩ = false := (hb4.frozen (p := ⟨x2.heap.size, 0, none⟩) (by first | (simp; done) | (simp; omega) | omega)).trans (by go_simp)
  have f4_1_1 : w4.frozen? ⟨x2.heap.size, 1, none⟩ = false := (hb4.frozen (p := ⟨x2.heap.size, 1, none⟩) (by first | (simp; done) | (simp; omega) | omega)).trans (by go_simp)
  have f4_1_2 : w4.frozen? ⟨x2.heap.size, 2, none⟩ = false := (hb4.frozen (p := ⟨x2.heap.size, 2, none⟩) (by first | (simp; done) | (simp; omega) | omega)).trans (by go_simp)
  clear hb4 Bx4 cx4_0_0 cx4_0_1 cx4_0_2 cx4_1_0 fx4_1_0 cx4_1_1 fx4_1_1 cx4_1_2 fx4_1_2
  go_wp2_with fail
  refine (hP _).mono ?_
  rintro e w5 ⟨rfl, hb5⟩
  have B5 : Below w.heap.size w w5 := by (focus (repeat' (first | assumption | exact Below.refl _ _ | refine Below.alloc ?_ ?_ _ | refine Below.setCell ?_ ?_ _ | refine Below.drew ?_ | refine below_drewN ?_ _ | refine Below.trans ?_ (Below.mono (by assumption) ?_) | refine Below.trans ?_ (Below.mono (BW.below _) ?_) | (simp; done) | (simp; omega) | omega)))
  have n5 : w.heap.size ≤ w5.heap.size := B5.size
  have s5_0 : w.heap.size < w5.heap.size := Nat.lt_of_lt_of_le (by first | (simp; done) | (simp; omega) | omega) hb5.size
  have c5_0_0 : w5.cell? ⟨w.heap.size, 0, none⟩ = some (.int .i64 (y)) := (hb5.cell (p := ⟨w.heap.size, 0, none⟩) (by first | (simp; done) | (simp; omega) | omega)).trans (by go_simp)
  have c5_0_1 : w5.cell? ⟨w.heap.size, 1, none⟩ = some (.int .i64 (m)) := (hb5.cell (p := ⟨w.heap.size, 1, none⟩) (by first | (simp; done) | (simp; omega) | omega)).trans (by go_simp)
  have c5_0_2 : w5.cell? ⟨w.heap.size, 2, none⟩ = some (.int .i64 (d)) := (hb5.cell (p := ⟨w.heap.size, 2, none⟩) (by first | (simp; done) | (simp; omega) | omega)).trans (by go_simp)
  have s5_1 : x2.heap.size < w5.heap.size := Nat.lt_of_lt_of_le (by first | (simp; done) | (simp; omega) | omega) hb5.size
  have c5_1_0 : w5.cell? ⟨x2.heap.size, 0, none⟩ = some (.int .i64 (y)) := (hb5.cell (p := ⟨x2.heap.size, 0, none⟩) (by first | (simp; done) | (simp; omega) | omega)).trans (by go_simp)
  have c5_1_1 : w5.cell? ⟨x2.heap.size, 1, none⟩ = some (.int .i64 (m)) := (hb5.cell (p := ⟨x2.heap.size, 1, none⟩) (by first | (simp; done) | (simp; omega) | omega)).trans (by go_simp)
  have c5_1_2 : w5.cell? ⟨x2.heap.size, 2, none⟩ = some (.int .i64 (d + 1)) := (hb5.cell (p := ⟨x2.heap.size, 2, none⟩) (by first | (simp; done) | (simp; omega) | omega)).trans (by go_simp)
  have f5_1_0 : w5.frozen? ⟨x2.heap.size, 0, none⟩ = false := (hb5.frozen (p := ⟨x2.heap.size, 0, none⟩) (by first | (simp; done) | (simp; omega) | omega)).trans (by go_simp)
  have f5_1_1 : w5.frozen? ⟨x2.heap.size, 1, none⟩ = false := (hb5.frozen (p := ⟨x2.heap.size, 1, none⟩) (by first | (simp; done) | (simp; omega) | omega)).trans (by go_simp)
  have f5_1_2 : w5.frozen? ⟨x2.heap.size, 2, none⟩ = false := (hb5.frozen (p := ⟨x2.heap.size, 2, none⟩) (by first | (simp; done) | (simp; omega) | omega)).trans (by go_simp)
  clear hb5 B4 c4_0_0 c4_0_1 c4_0_2 c4_1_0 c4_1_1 c4_1_2 f4_1_0 f4_1_1 f4_1_2
  go_wp2_with fail
  refine (hQ _).mono ?_
  rintro e w6 ⟨rfl, hb6⟩
  have B6 : Below w.heap.size w w6 := by (focus (repeat' (first | assumption | exact Below.refl _ _ | refine Below.alloc ?_ ?_ _ | refine Below.setCell ?_ ?_ _ | refine Below.drew ?_ | refine below_drewN ?_ _ | refine Below.trans ?_ (Below.mono (by assumption) ?_) | refine Below.trans ?_ (Below.mono (BW.below _) ?_) | (simp; done) | (simp; omega) | omega)))
  have n6 : w.heap.size ≤ w6.heap.size := B6.size
  have s6_0 : w.heap.size < w6.heap.size := Nat.lt_of_lt_of_le (by first | (simp; done) | (simp; omega) | omega) hb6.size
  have c6_0_0 : w6.cell? ⟨w.heap.size, 0, none⟩ = some (.int .i64 (y)) := (hb6.cell (p := ⟨w.heap.size, 0, none⟩) (by first | (simp; done) | (simp; omega) | omega)).trans (by go_simp)
  have c6_0_1 : w6.cell? ⟨w.heap.size, 1, none⟩ = some (.int .i64 (m)) := (hb6.cell (p := ⟨w.heap.size, 1, none⟩) (by first | (simp; done) | (simp; omega) | omega)).trans (by go_simp)
  have c6_0_2 : w6.cell? ⟨w.heap.size, 2, none⟩ = some (.int .i64 (d)) := (hb6.cell (p := ⟨w.heap.size, 2, none⟩) (by first | (simp; done) | (simp; omega) | omega)).trans (by go_simp)
  have s6_1 : x2.heap.size < w6.heap.size := Nat.lt_of_lt_of_le (by first | (simp; done) | (simp; omega) | omega) hb6.size
  have c6_1_0 : w6.cell? ⟨x2.heap.size, 0, none⟩ = some (.int .i64 (y)) := (hb6.cell (p := ⟨x2.heap.size, 0, none⟩) (by first | (simp; done) | (simp; omega) | omega)).trans (by go_simp)
  have c6_1_1 : w6.cell? ⟨x2.heap.size, 1, none⟩ = some (.int .i64 (m)) := (hb6.cell (p := ⟨x2.heap.size, 1, none⟩) (by first | (simp; done) | (simp; omega) | omega)).trans (by go_simp)
  have c6_1_2 : w6.cell? ⟨x2.heap.size, 2, none⟩ = some (.int .i64 (d + 1)) := (hb6.cell (p := ⟨x2.heap.size, 2, none⟩) (by first | (simp; done) | (simp; omega) | omega)).trans (by go_simp)
  have f6_1_0 : w6.frozen? ⟨x2.heap.size, 0, none⟩ = false := (hb6.frozen (p := ⟨x2.heap.size, 0, none⟩) (by first | (simp; done) | (simp; omega) | omega)).trans (by go_simp)
  have f6_1_1 : w6.frozen? ⟨x2.heap.size, 1, none⟩ = false := (hb6.frozen (p := ⟨x2.heap.size, 1, none⟩) (by first | (simp; done) | (simp; omega) | omega)).trans (by go_simp)
  have f6_1_2 : w6.frozen? ⟨x2.heap.size, 2, none⟩ = false := (hb6.frozen (p := ⟨x2.heap.size, 2, none⟩) (by first | (simp; done) | (simp; omega) | omega)).trans (by go_simp)
  clear hb6 B5 c5_0_0 c5_0_1 c5_0_2 c5_1_0 c5_1_1 c5_1_2 f5_1_0 f5_1_1 f5_1_2
  go_wp2_with fail
  refine (hW1 _).mono ?_
  rintro e w7 ⟨rfl, hb7⟩
  have B7 : Below w.heap.size w w7 := by (focus (repeat' (first | assumption | exact Below.refl _ _ | refine Below.alloc ?_ ?_ _ | refine Below.setCell ?_ ?_ _ | refine Below.drew ?_ | refine below_drewN ?_ _ | refine Below.trans ?_ (Below.mono (by assumption) ?_) | refine Below.trans ?_ (Below.mono (BW.below _) ?_) | (simp; done) | (simp; omega) | omega)))
  have n7 : w.heap.size ≤ w7.heap.size := B7.size
  have s7_0 : w.heap.size < w7.heap.size := Nat.lt_of_lt_of_le (by first | (simp; done) | (simp; omega) | omega) hb7.size
  have c7_0_0 : w7.cell? ⟨w.heap.size, 0, none⟩ = some (.int .i64 (y)) := (hb7.cell (p := ⟨w.heap.size, 0, none⟩) (by first | (simp; done) | (simp; omega) | omega)).trans (by go_simp)
  have c7_0_1 : w7.cell? ⟨w.heap.size, 1, none⟩ = some (.int .i64 (m)) := (hb7.cell (p := ⟨w.heap.size, 1, none⟩) (by first | (simp; done) | (simp; omega) | omega)).trans (by go_simp)
  have c7_0_2 : w7.cell? ⟨w.heap.size, 2, none⟩ = some (.int .i64 (d)) := (hb7.cell (p := ⟨w.heap.size, 2, none⟩) (by first | (simp; done) | (simp; omega) | omega)).trans (by go_simp)
  have s7_1 : x2.heap.size < w7.heap.size := Nat.lt_of_lt_of_le (by first | (simp; done) | (simp; omega) | omega) hb7.size
  have c7_1_0 : w7.cell? ⟨x2.heap.size, 0, none⟩ = some (.int .i64 (y)) := (hb7.cell (p := ⟨x2.heap.size, 0, none⟩) (by first | (simp; done) | (simp; omega) | omega)).trans (by go_simp)
  have c7_1_1 : w7.cell? ⟨x2.heap.size, 1, none⟩ = some (.int .i64 (m)) := (hb7.cell (p := ⟨x2.heap.size, 1, none⟩) (by first | (simp; done) | (simp; omega) | omega)).trans (by go_simp)
  have c7_1_2 : w7.cell? ⟨x2.heap.size, 2, none⟩ = some (.int .i64 (d + 1)) := (hb7.cell (p := ⟨x2.heap.size, 2, none⟩) (by first | (simp; done) | (simp; omega) | omega)).trans (by go_simp)
  have f7_1_0 : w7.frozen? ⟨x2.heap.size, 0, none⟩ = false := (hb7.frozen (p := ⟨x2.heap.size, 0, none⟩) (by first | (simp; done) | (simp; omega) | omega)).trans (by go_simp)
  have f7_1_1 : w7.frozen? ⟨x2.heap.size, 1, none⟩ = false := (hb7.frozen (p := ⟨x2.heap.size, 1, none⟩) (by first | (simp; done) | (simp; omega) | omega)).trans (by go_simp)
  have f7_1_2 : w7.frozen? ⟨x2.heap.size, 2, none⟩ = false := (hb7.frozen (p := ⟨x2.heap.size, 2, none⟩) (by first | (simp; done) | (simp; omega) | omega)).trans (by go_simp)
  clear hb7 B6 c6_0_0 c6_0_1 c6_0_2 c6_1_0 c6_1_1 c6_1_2 f6_1_0 f6_1_1 f6_1_2
  go_wp2_with fail
  refine (hW _).mono ?_
  rintro e w8 ⟨rfl, hb8⟩
  have B8 : Below w.heap.size w w8 := by (focus (repeat' (first | assumption | exact Below.refl _ _ | refine Below.alloc ?_ ?_ _ | refine Below.setCell ?_ ?_ _ | refine Below.drew ?_ | refine below_drewN ?_ _ | refine Below.trans ?_ (Below.mono (by assumption) ?_) | refine Below.trans ?_ (Below.mono (BW.below _) ?_) | (simp; done) | (simp; omega) | omega)))
  have n8 : w.heap.size ≤ w8.heap.size := B8.size
  have s8_0 : w.heap.size < w8.heap.size := Nat.lt_of_lt_of_le (by first | (simp; done) | (simp; omega) | omega) hb8.size
  have c8_0_0 : w8.cell? ⟨w.heap.size, 0, none⟩ = some (.int .i64 (y)) := (hb8.cell (p := ⟨w.heap.size, 0, none⟩) (by first | (simp; done) | (simp; omega) | omega)).trans (by go_simp)
  have c8_0_1 : w8.cell? ⟨w.heap.size, 1, none⟩ = some (.int .i64 (m)) := (hb8.cell (p := ⟨w.heap.size, 1, none⟩) (by first | (simp; done) | (simp; omega) | omega)).trans (by go_simp)
  have c8_0_2 : w8.cell? ⟨w.heap.size, 2, none⟩ = some (.int .i64 (d)) := (hb8.cell (p := ⟨w.heap.size, 2, none⟩) (by first | (simp; done) | (simp; omega) | omega)).trans (by go_simp)
  have s8_1 : x2.heap.size < w8.heap.size := Nat.lt_of_lt_of_le (by first | (simp; done) | (simp; omega) | omega) hb8.size
  have c8_1_0 : w8.cell? ⟨x2.heap.size, 0, none⟩ = some (.int .i64 (y)) := (hb8.cell (p := ⟨x2.heap.size, 0, none⟩) (by first | (simp; done) | (simp; omega) | omega)).trans (by go_simp)
  have c8_1_1 : w8.cell? ⟨x2.heap.size, 1, none⟩ = some (.int .i64 (m)) := (hb8.cell (p := ⟨x2.heap.size, 1, none⟩) (by first | (simp; done) | (simp; omega) | omega)).trans (by go_simp)
  have c8_1_2 : w8.cell? ⟨x2.heap.size, 2, none⟩ = some (.int .i64 (d + 1)) := (hb8.cell (p := ⟨x2.heap.size, 2, none⟩) (by first | (simp; done) | (simp; omega) | omega)).trans (by go_simp)
  have f8_1_0 : w8.frozen? ⟨x2.heap.size, 0, none⟩ = false := (hb8.frozen (p := ⟨x2.heap.size, 0, none⟩) (by first | (simp; done) | (simp; omega) | omega)).trans (by go_simp)
  have f8_1_1 : w8.frozen? ⟨x2.heap.size, 1, none⟩ = false := (hb8.frozen (p := ⟨x2.heap.size, 1, none⟩) (by first | (simp; done) | (simp; omega) | omega)).trans (by go_simp)
  have f8_1_2 : w8.frozen? ⟨x2.heap.size, 2, none⟩ = false := (hb8.frozen (p := ⟨x2.heap.size, 2, none⟩) (by first | (simp; done) | (simp; omega) | omega)).trans (by go_simp)
  clear hb8 B7 c7_0_0 c7_0_1 c7_0_2 c7_1_0 c7_1_1 c7_1_2 f7_1_0 f7_1_1 f7_1_2
  go_wp2_with fail
  go_ret
  exact ⟨rfl, by (focus (repeat' (first | assumption | exact Below.refl _ _ | refine Below.alloc ?_ ?_ _ | refine Below.setCell ?_ ?_ _ | refine Below.drew ?_ | refine below_drewN ?_ _ | refine Below.trans ?_ (Below.mono (by assumption) ?_) | refine Below.trans ?_ (Below.mono (BW.below _) ?_) | (simp; done) | (simp; omega) | omega)))⟩
set_option maxRecDepth 100000 in
set_option maxHeartbeats 8000000 in
theorem CivilSteps_ltb (y m d y' m' d' : Int) (ky : I64 y) (ky' : I64 y') (h : rightB y m d = true) (h' : rightB y' m' d' = true) (hc : numb y m d < numb y' m' d' ∧ cmp3 y m d y' m' d' = -1 ∧ cmp3 y' m' d' y m d = 1) (hs : d = mlen y m) (hs2 : m < 12) (w : World) : Calls Try.prog 9 #[dat y m d, dat y' m' d'] w fun e w' => e = .returned (.bool true) ∧ Below w.heap.size w w' := by
  have hD := fun w => civil_Days y m d ky w
  rw [(days_y h).1, (days_y h).2.1] at hD
  have hE := fun w => civil_Days y' m' d' ky' w
  rw [(days_y h').1, (days_y h').2.1] at hE
  have hC1 := fun w => civil_Compare y m d y' m' d' w
  rw [hc.2.1] at hC1
  have hC2 := fun w => civil_Compare y' m' d' y m d w
  rw [hc.2.2] at hC2
  have hcN := hc.1
  have r := (right_iff y m d).1 h
  obtain ⟨ry0, ry1, rm0, rm1, rd0, rd1⟩ := r
  have ml := mlen_bd y m
  have ll := lp_01 y
  have hn : rightB (y) (m + 1) (1) = true := (right_iff _ _ _).2 (by have := mlen_bd y (m + 1); omega)
  have kn : I64 (y) := I64.sm (by omega)
  have hN := fun w => civil_Days (y) (m + 1) (1) kn w
  rw [(days_y hn).1, (days_y hn).2.1] at hN
  have hP := fun w => civil_YearDay y m d ky w
  rw [(days_y h).2.2, (days_y h).2.1] at hP
  have hQ := fun w => civil_YearDay (y) (m + 1) (1) kn w
  rw [(days_y hn).2.2, (days_y hn).2.1] at hQ
  rw [show numb y (m + 1) 1 = numb y m d + 1 from by have := cum_succ y m rm0 (by omega); unfold numb; omega] at hN
  rw [show cum y (m + 1) + 1 = cum y m + d + 1 from by have := cum_succ y m rm0 (by omega); omega] at hQ
  have cb := cum_bd y m rm0 rm1
  obtain ⟨nb0, nb1⟩ := numb_bd y m d (by omega)
  generalize cum y m = cu at *
  obtain ⟨cb0, cb1, cb2⟩ := cb
  generalize numb y m d = N at *
  generalize numb y' m' d' = N' at *
  have hcA : decide (N < N') = true := by simp; omega
  have hcB : (N == N') = false := by simp; omega
  have kN : I64 N := I64.sm (by omega)
  have kN1 : I64 (N + 1) := I64.sm (by omega)
  have hW := fun w => civil_Weekday N kN w
  have hW1 := fun w => civil_Weekday (N + 1) kN1 w
  rw [wday_succ] at hW1
  obtain ⟨wb0, wb1⟩ := wday_bd N
  generalize wday N = wd at *
  have hL := fun w => civil_Len y m ky w
  rw [← hs] at hL
  clear h h' hc
  clear hn ml
  have rd31 : d ≤ 31 := by have := (mlen_bd y m).2.1; omega
  clear rd1 hs
  go_enter Try.func9, Try.ntmps9
  go_wp2_with fail
  refine (civ_lives _).mono ?_
  rintro e w1 ⟨rfl, hb1⟩
  have B1 : Below w.heap.size w w1 := by (focus (repeat' (first | assumption | exact Below.refl _ _ | refine Below.alloc ?_ ?_ _ | refine Below.setCell ?_ ?_ _ | refine Below.drew ?_ | refine below_drewN ?_ _ | refine Below.trans ?_ (Below.mono (by assumption) ?_) | refine Below.trans ?_ (Below.mono (BW.below _) ?_) | (simp; done) | (simp; omega) | omega)))
  have n1 : w.heap.size ≤ w1.heap.size := B1.size
  have s1_0 : w.heap.size < w1.heap.size := Nat.lt_of_lt_of_le (by first | (simp; done) | (simp; omega) | omega) hb1.size
  have c1_0_0 : w1.cell? ⟨w.heap.size, 0, none⟩ = some (.int .i64 (y)) := (hb1.cell (p := ⟨w.heap.size, 0, none⟩) (by first | (simp; done) | (simp; omega) | omega)).trans (by go_simp)
  have c1_0_1 : w1.cell? ⟨w.heap.size, 1, none⟩ = some (.int .i64 (m)) := (hb1.cell (p := ⟨w.heap.size, 1, none⟩) (by first | (simp; done) | (simp; omega) | omega)).trans (by go_simp)
  have c1_0_2 : w1.cell? ⟨w.heap.size, 2, none⟩ = some (.int .i64 (d)) := (hb1.cell (p := ⟨w.heap.size, 2, none⟩) (by first | (simp; done) | (simp; omega) | omega)).trans (by go_simp)
  have s1_1 : w.heap.size + 1 < w1.heap.size := Nat.lt_of_lt_of_le (by first | (simp; done) | (simp; omega) | omega) hb1.size
  have c1_1_0 : w1.cell? ⟨w.heap.size + 1, 0, none⟩ = some (.int .i64 (y')) := (hb1.cell (p := ⟨w.heap.size + 1, 0, none⟩) (by first | (simp; done) | (simp; omega) | omega)).trans (by go_simp)
  have c1_1_1 : w1.cell? ⟨w.heap.size + 1, 1, none⟩ = some (.int .i64 (m')) := (hb1.cell (p := ⟨w.heap.size + 1, 1, none⟩) (by first | (simp; done) | (simp; omega) | omega)).trans (by go_simp)
  have c1_1_2 : w1.cell? ⟨w.heap.size + 1, 2, none⟩ = some (.int .i64 (d')) := (hb1.cell (p := ⟨w.heap.size + 1, 2, none⟩) (by first | (simp; done) | (simp; omega) | omega)).trans (by go_simp)
  clear hb1
  go_wp2_with fail
  refine (hD _).mono ?_
  rintro e w2 ⟨rfl, hb2⟩
  have B2 : Below w.heap.size w w2 := by (focus (repeat' (first | assumption | exact Below.refl _ _ | refine Below.alloc ?_ ?_ _ | refine Below.setCell ?_ ?_ _ | refine Below.drew ?_ | refine below_drewN ?_ _ | refine Below.trans ?_ (Below.mono (by assumption) ?_) | refine Below.trans ?_ (Below.mono (BW.below _) ?_) | (simp; done) | (simp; omega) | omega)))
  have n2 : w.heap.size ≤ w2.heap.size := B2.size
  have s2_0 : w.heap.size < w2.heap.size := Nat.lt_of_lt_of_le (by first | (simp; done) | (simp; omega) | omega) hb2.size
  have c2_0_0 : w2.cell? ⟨w.heap.size, 0, none⟩ = some (.int .i64 (y)) := (hb2.cell (p := ⟨w.heap.size, 0, none⟩) (by first | (simp; done) | (simp; omega) | omega)).trans (by go_simp)
  have c2_0_1 : w2.cell? ⟨w.heap.size, 1, none⟩ = some (.int .i64 (m)) := (hb2.cell (p := ⟨w.heap.size, 1, none⟩) (by first | (simp; done) | (simp; omega) | omega)).trans (by go_simp)
  have c2_0_2 : w2.cell? ⟨w.heap.size, 2, none⟩ = some (.int .i64 (d)) := (hb2.cell (p := ⟨w.heap.size, 2, none⟩) (by first | (simp; done) | (simp; omega) | omega)).trans (by go_simp)
  have s2_1 : w.heap.size + 1 < w2.heap.size := Nat.lt_of_lt_of_le (by first | (simp; done) | (simp; omega) | omega) hb2.size
  have c2_1_0 : w2.cell? ⟨w.heap.size + 1, 0, none⟩ = some (.int .i64 (y')) := (hb2.cell (p := ⟨w.heap.size + 1, 0, none⟩) (by first | (simp; done) | (simp; omega) | omega)).trans (by go_simp)
  have c2_1_1 : w2.cell? ⟨w.heap.size + 1, 1, none⟩ = some (.int .i64 (m')) := (hb2.cell (p := ⟨w.heap.size + 1, 1, none⟩) (by first | (simp; done) | (simp; omega) | omega)).trans (by go_simp)
  have c2_1_2 : w2.cell? ⟨w.heap.size + 1, 2, none⟩ = some (.int .i64 (d')) := (hb2.cell (p := ⟨w.heap.size + 1, 2, none⟩) (by first | (simp; done) | (simp; omega) | omega)).trans (by go_simp)
  clear hb2 B1 c1_0_0 c1_0_1 c1_0_2 c1_1_0 c1_1_1 c1_1_2
  go_wp2_with fail
  refine (hE _).mono ?_
  rintro e w3 ⟨rfl, hb3⟩
  have B3 : Below w.heap.size w w3 := by (focus (repeat' (first | assumption | exact Below.refl _ _ | refine Below.alloc ?_ ?_ _ | refine Below.setCell ?_ ?_ _ | refine Below.drew ?_ | refine below_drewN ?_ _ | refine Below.trans ?_ (Below.mono (by assumption) ?_) | refine Below.trans ?_ (Below.mono (BW.below _) ?_) | (simp; done) | (simp; omega) | omega)))
  have n3 : w.heap.size ≤ w3.heap.size := B3.size
  have s3_0 : w.heap.size < w3.heap.size := Nat.lt_of_lt_of_le (by first | (simp; done) | (simp; omega) | omega) hb3.size
  have c3_0_0 : w3.cell? ⟨w.heap.size, 0, none⟩ = some (.int .i64 (y)) := (hb3.cell (p := ⟨w.heap.size, 0, none⟩) (by first | (simp; done) | (simp; omega) | omega)).trans (by go_simp)
  have c3_0_1 : w3.cell? ⟨w.heap.size, 1, none⟩ = some (.int .i64 (m)) := (hb3.cell (p := ⟨w.heap.size, 1, none⟩) (by first | (simp; done) | (simp; omega) | omega)).trans (by go_simp)
  have c3_0_2 : w3.cell? ⟨w.heap.size, 2, none⟩ = some (.int .i64 (d)) := (hb3.cell (p := ⟨w.heap.size, 2, none⟩) (by first | (simp; done) | (simp; omega) | omega)).trans (by go_simp)
  have s3_1 : w.heap.size + 1 < w3.heap.size := Nat.lt_of_lt_of_le (by first | (simp; done) | (simp; omega) | omega) hb3.size
  have c3_1_0 : w3.cell? ⟨w.heap.size + 1, 0, none⟩ = some (.int .i64 (y')) := (hb3.cell (p := ⟨w.heap.size + 1, 0, none⟩) (by first | (simp; done) | (simp; omega) | omega)).trans (by go_simp)
  have c3_1_1 : w3.cell? ⟨w.heap.size + 1, 1, none⟩ = some (.int .i64 (m')) := (hb3.cell (p := ⟨w.heap.size + 1, 1, none⟩) (by first | (simp; done) | (simp; omega) | omega)).trans (by go_simp)
  have c3_1_2 : w3.cell? ⟨w.heap.size + 1, 2, none⟩ = some (.int .i64 (d')) := (hb3.cell (p := ⟨w.heap.size + 1, 2, none⟩) (by first | (simp; done) | (simp; omega) | omega)).trans (by go_simp)
  clear hb3 B2 c2_0_0 c2_0_1 c2_0_2 c2_1_0 c2_1_1 c2_1_2
  go_wp2_with fail
  have Bx1 : Below w.heap.size w w3 := by (focus (repeat' (first | assumption | exact Below.refl _ _ | refine Below.alloc ?_ ?_ _ | refine Below.setCell ?_ ?_ _ | refine Below.drew ?_ | refine below_drewN ?_ _ | refine Below.trans ?_ (Below.mono (by assumption) ?_) | refine Below.trans ?_ (Below.mono (BW.below _) ?_) | (simp; done) | (simp; omega) | omega)))
  have nx1 : w.heap.size ≤ w3.heap.size := Bx1.size
  have sx1_0 : w.heap.size < w3.heap.size := (by first | (simp; done) | (simp; omega) | omega)
  have cx1_0_0 : w3.cell? ⟨w.heap.size, 0, none⟩ = some (.int .i64 (y)) := by go_simp
  have cx1_0_1 : w3.cell? ⟨w.heap.size, 1, none⟩ = some (.int .i64 (m)) := by go_simp
  have cx1_0_2 : w3.cell? ⟨w.heap.size, 2, none⟩ = some (.int .i64 (d)) := by go_simp
  have sx1_1 : w.heap.size + 1 < w3.heap.size := (by first | (simp; done) | (simp; omega) | omega)
  have cx1_1_0 : w3.cell? ⟨w.heap.size + 1, 0, none⟩ = some (.int .i64 (y')) := by go_simp
  have cx1_1_1 : w3.cell? ⟨w.heap.size + 1, 1, none⟩ = some (.int .i64 (m')) := by go_simp
  have cx1_1_2 : w3.cell? ⟨w.heap.size + 1, 2, none⟩ = some (.int .i64 (d')) := by go_simp
  clear B3 c3_0_0 c3_0_1 c3_0_2 c3_1_0 c3_1_1 c3_1_2
  generalize w3 = x1 at *
  try dsimp only [List.append]
  refine wp_region_bw (by kernel_rfl) (by kernel_rfl) ?_; (repeat (go_big_quiet_step ((go_at_call 58; first | with_reducible exact bw_call (hC1 _) | with_reducible exact bw_call (hC2 _))))); refine wpQuiet_nil ?_; intro _ hw'; obtain ⟨xq, hw''⟩ := hw'; subst hw''
  have Bx2 : Below w.heap.size w xq.val := Bx1.trans (xq.below.mono nx1)
  have nx2 : w.heap.size ≤ xq.val.heap.size := Bx2.size
  have sx2_0 : w.heap.size < xq.val.heap.size := Nat.lt_of_lt_of_le (by first | (simp; done) | (simp; omega) | omega) xq.below.size
  have cx2_0_0 : xq.val.cell? ⟨w.heap.size, 0, none⟩ = some (.int .i64 (y)) := (xq.cell (w.heap.size) 0 (by first | (simp; done) | (simp; omega) | omega)).trans (by go_simp)
  have cx2_0_1 : xq.val.cell? ⟨w.heap.size, 1, none⟩ = some (.int .i64 (m)) := (xq.cell (w.heap.size) 1 (by first | (simp; done) | (simp; omega) | omega)).trans (by go_simp)
  have cx2_0_2 : xq.val.cell? ⟨w.heap.size, 2, none⟩ = some (.int .i64 (d)) := (xq.cell (w.heap.size) 2 (by first | (simp; done) | (simp; omega) | omega)).trans (by go_simp)
  clear Bx1 cx1_0_0 cx1_0_1 cx1_0_2 cx1_1_0 cx1_1_1 cx1_1_2
  generalize xq.val = x2 at *
  go_wp2_with fail
  have Bx3 : Below w.heap.size w (x2.alloc (.cells #[.int .i64 (y), .int .i64 (m), .int .i64 (d + 1)] 48)) := by (focus (repeat' (first | assumption | exact Below.refl _ _ | refine Below.alloc ?_ ?_ _ | refine Below.setCell ?_ ?_ _ | refine Below.drew ?_ | refine below_drewN ?_ _ | refine Below.trans ?_ (Below.mono (by assumption) ?_) | refine Below.trans ?_ (Below.mono (BW.below _) ?_) | (simp; done) | (simp; omega) | omega)))
  have nx3 : w.heap.size ≤ (x2.alloc (.cells #[.int .i64 (y), .int .i64 (m), .int .i64 (d + 1)] 48)).heap.size := Bx3.size
  have sx3_0 : w.heap.size < (x2.alloc (.cells #[.int .i64 (y), .int .i64 (m), .int .i64 (d + 1)] 48)).heap.size := (by first | (simp; done) | (simp; omega) | omega)
  have cx3_0_0 : (x2.alloc (.cells #[.int .i64 (y), .int .i64 (m), .int .i64 (d + 1)] 48)).cell? ⟨w.heap.size, 0, none⟩ = some (.int .i64 (y)) := by go_simp
  have cx3_0_1 : (x2.alloc (.cells #[.int .i64 (y), .int .i64 (m), .int .i64 (d + 1)] 48)).cell? ⟨w.heap.size, 1, none⟩ = some (.int .i64 (m)) := by go_simp
  have cx3_0_2 : (x2.alloc (.cells #[.int .i64 (y), .int .i64 (m), .int .i64 (d + 1)] 48)).cell? ⟨w.heap.size, 2, none⟩ = some (.int .i64 (d)) := by go_simp
  have sx3_1 : x2.heap.size < (x2.alloc (.cells #[.int .i64 (y), .int .i64 (m), .int .i64 (d + 1)] 48)).heap.size := (by first | (simp; done) | (simp; omega) | omega)
  have cx3_1_0 : (x2.alloc (.cells #[.int .i64 (y), .int .i64 (m), .int .i64 (d + 1)] 48)).cell? ⟨x2.heap.size, 0, none⟩ = some (.int .i64 (y)) := by go_simp
  have cx3_1_1 : (x2.alloc (.cells #[.int .i64 (y), .int .i64 (m), .int .i64 (d + 1)] 48)).cell? ⟨x2.heap.size, 1, none⟩ = some (.int .i64 (m)) := by go_simp
  have cx3_1_2 : (x2.alloc (.cells #[.int .i64 (y), .int .i64 (m), .int .i64 (d + 1)] 48)).cell? ⟨x2.heap.size, 2, none⟩ = some (.int .i64 (d + 1)) := by go_simp
  have fx3_1_0 : (x2.alloc (.cells #[.int .i64 (y), .int .i64 (m), .int .i64 (d + 1)] 48)).frozen? ⟨x2.heap.size, 0, none⟩ = false := by go_simp
  have fx3_1_1 : (x2.alloc (.cells #[.int .i64 (y), .int .i64 (m), .int .i64 (d + 1)] 48)).frozen? ⟨x2.heap.size, 1, none⟩ = false := by go_simp
  have fx3_1_2 : (x2.alloc (.cells #[.int .i64 (y), .int .i64 (m), .int .i64 (d + 1)] 48)).frozen? ⟨x2.heap.size, 2, none⟩ = false := by go_simp
  clear Bx2 cx2_0_0 cx2_0_1 cx2_0_2
  generalize (x2.alloc (.cells #[.int .i64 (y), .int .i64 (m), .int .i64 (d + 1)] 48)) = x3 at *
  try dsimp only [List.append]
  refine wp_region_bw (by kernel_rfl) (by kernel_rfl) ?_; (repeat (go_big_quiet_step ((go_at_call 52; with_reducible exact bw_same (hL _))))); refine wpQuiet_nil ?_; intro _ hw'; obtain ⟨xq, hw''⟩ := hw'; subst hw''
  have Bx4 : Below w.heap.size w xq.val := Bx3.trans (xq.below.mono nx3)
  have nx4 : w.heap.size ≤ xq.val.heap.size := Bx4.size
  have sx4_0 : w.heap.size < xq.val.heap.size := Nat.lt_of_lt_of_le (by first | (simp; done) | (simp; omega) | omega) xq.below.size
  have cx4_0_0 : xq.val.cell? ⟨w.heap.size, 0, none⟩ = some (.int .i64 (y)) := (xq.cell (w.heap.size) 0 (by first | (simp; done) | (simp; omega) | omega)).trans (by go_simp)
  have cx4_0_1 : xq.val.cell? ⟨w.heap.size, 1, none⟩ = some (.int .i64 (m)) := (xq.cell (w.heap.size) 1 (by first | (simp; done) | (simp; omega) | omega)).trans (by go_simp)
  have cx4_0_2 : xq.val.cell? ⟨w.heap.size, 2, none⟩ = some (.int .i64 (d)) := (xq.cell (w.heap.size) 2 (by first | (simp; done) | (simp; omega) | omega)).trans (by go_simp)
  have sx4_1 : x2.heap.size < xq.val.heap.size := Nat.lt_of_lt_of_le (by first | (simp; done) | (simp; omega) | omega) xq.below.size
  have cx4_1_0 : xq.val.cell? ⟨x2.heap.size, 0, none⟩ = some (.int .i64 (y)) := (xq.cell (x2.heap.size) 0 (by first | (simp; done) | (simp; omega) | omega)).trans (by go_simp)
  have fx4_1_0 : xq.val.frozen? ⟨x2.heap.size, 0, none⟩ = false := (xq.frozen (x2.heap.size) 0 (by first | (simp; done) | (simp; omega) | omega)).trans (by go_simp)
  have cx4_1_1 : xq.val.cell? ⟨x2.heap.size, 1, none⟩ = some (.int .i64 (m)) := (xq.cell (x2.heap.size) 1 (by first | (simp; done) | (simp; omega) | omega)).trans (by go_simp)
  have fx4_1_1 : xq.val.frozen? ⟨x2.heap.size, 1, none⟩ = false := (xq.frozen (x2.heap.size) 1 (by first | (simp; done) | (simp; omega) | omega)).trans (by go_simp)
  have cx4_1_2 : xq.val.cell? ⟨x2.heap.size, 2, none⟩ = some (.int .i64 (d + 1)) := (xq.cell (x2.heap.size) 2 (by first | (simp; done) | (simp; omega) | omega)).trans (by go_simp)
  have fx4_1_2 : xq.val.frozen? ⟨x2.heap.size, 2, none⟩ = false := (xq.frozen (x2.heap.size) 2 (by first | (simp; done) | (simp; omega) | omega)).trans (by go_simp)
  clear Bx3 cx3_0_0 cx3_0_1 cx3_0_2 cx3_1_0 cx3_1_1 cx3_1_2 fx3_1_0 fx3_1_1 fx3_1_2
  generalize xq.val = x4 at *
  go_wp2_with fail
  refine (hN _).mono ?_
  rintro e w4 ⟨rfl, hb4⟩
  have B4 : Below w.heap.size w w4 := by (focus (repeat' (first | assumption | exact Below.refl _ _ | refine Below.alloc ?_ ?_ _ | refine Below.setCell ?_ ?_ _ | refine Below.drew ?_ | refine below_drewN ?_ _ | refine Below.trans ?_ (Below.mono (by assumption) ?_) | refine Below.trans ?_ (Below.mono (BW.below _) ?_) | (simp; done) | (simp; omega) | omega)))
  have n4 : w.heap.size ≤ w4.heap.size := B4.size
  have s4_0 : w.heap.size < w4.heap.size := Nat.lt_of_lt_of_le (by first | (simp; done) | (simp; omega) | omega) hb4.size
  have c4_0_0 : w4.cell? ⟨w.heap.size, 0, none⟩ = some (.int .i64 (y)) := (hb4.cell (p := ⟨w.heap.size, 0, none⟩) (by first | (simp; done) | (simp; omega) | omega)).trans (by go_simp)
  have c4_0_1 : w4.cell? ⟨w.heap.size, 1, none⟩ = some (.int .i64 (m)) := (hb4.cell (p := ⟨w.heap.size, 1, none⟩) (by first | (simp; done) | (simp; omega) | omega)).trans (by go_simp)
  have c4_0_2 : w4.cell? ⟨w.heap.size, 2, none⟩ = some (.int .i64 (d)) := (hb4.cell (p := ⟨w.heap.size, 2, none⟩) (by first | (simp; done) | (simp; omega) | omega)).trans (by go_simp)
  have s4_1 : x2.heap.size < w4.heap.size := Nat.lt_of_lt_of_le (by first | (simp; done) | (simp; omega) | omega) hb4.size
  have c4_1_0 : w4.cell? ⟨x2.heap.size, 0, none⟩ = some (.int .i64 (y)) := (hb4.cell (p := ⟨x2.heap.size, 0, none⟩) (by first | (simp; done) | (simp; omega) | omega)).trans (by go_simp)
  have c4_1_1 : w4.cell? ⟨x2.heap.size, 1, none⟩ = some (.int .i64 (m + 1)) := (hb4.cell (p := ⟨x2.heap.size, 1, none⟩) (by first | (simp; done) | (simp; omega) | omega)).trans (by go_simp)
  have c4_1_2 : w4.cell? ⟨x2.heap.size, 2, none⟩ = some (.int .i64 1) := (hb4.cell (p := ⟨x2.heap.size, 2, none⟩) (by first | (simp; done) | (simp; omega) | omega)).trans (by go_simp)
  have f4_1_0 : w4.frozen? ⟨x2.heap.size, 0, none⟩ = false := (hb4.frozen (p := ⟨x2.heap.size, 0, none⟩) (by first | (simp; done) | (simp; omega) | omega)).trans (by go_simp)
  have f4_1_1 : w4.frozen? ⟨x2.heap.size, 1, none⟩ = false := (hb4.frozen (p := ⟨x2.heap.size, 1, none⟩) (by first | (simp; done) | (simp; omega) | omega)).trans (by go_simp)
  have f4_1_2 : w4.frozen? ⟨x2.heap.size, 2, none⟩ = false := (hb4.frozen (p := ⟨x2.heap.size, 2, none⟩) (by first | (simp; done) | (simp; omega) | omega)).trans (by go_simp)
  clear hb4 Bx4 cx4_0_0 cx4_0_1 cx4_0_2 cx4_1_0 fx4_1_0 cx4_1_1 fx4_1_1 cx4_1_2 fx4_1_2
  go_wp2_with fail
  refine (hP _).mono ?_
  rintro e w5 ⟨rfl, hb5⟩
  have B5 : Below w.heap.size w w5 := by (focus (repeat' (first | assumption | exact Below.refl _ _ | refine Below.alloc ?_ ?_ _ | refine Below.setCell ?_ ?_ _ | refine Below.drew ?_ | refine below_drewN ?_ _ | refine Below.trans ?_ (Below.mono (by assumption) ?_) | refine Below.trans ?_ (Below.mono (BW.below _) ?_) | (simp; done) | (simp; omega) | omega)))
  have n5 : w.heap.size ≤ w5.heap.size := B5.size
  have s5_0 : w.heap.size < w5.heap.size := Nat.lt_of_lt_of_le (by first | (simp; done) | (simp; omega) | omega) hb5.size
  have c5_0_0 : w5.cell? ⟨w.heap.size, 0, none⟩ = some (.int .i64 (y)) := (hb5.cell (p := ⟨w.heap.size, 0, none⟩) (by first | (simp; done) | (simp; omega) | omega)).trans (by go_simp)
  have c5_0_1 : w5.cell? ⟨w.heap.size, 1, none⟩ = some (.int .i64 (m)) := (hb5.cell (p := ⟨w.heap.size, 1, none⟩) (by first | (simp; done) | (simp; omega) | omega)).trans (by go_simp)
  have c5_0_2 : w5.cell? ⟨w.heap.size, 2, none⟩ = some (.int .i64 (d)) := (hb5.cell (p := ⟨w.heap.size, 2, none⟩) (by first | (simp; done) | (simp; omega) | omega)).trans (by go_simp)
  have s5_1 : x2.heap.size < w5.heap.size := Nat.lt_of_lt_of_le (by first | (simp; done) | (simp; omega) | omega) hb5.size
  have c5_1_0 : w5.cell? ⟨x2.heap.size, 0, none⟩ = some (.int .i64 (y)) := (hb5.cell (p := ⟨x2.heap.size, 0, none⟩) (by first | (simp; done) | (simp; omega) | omega)).trans (by go_simp)
  have c5_1_1 : w5.cell? ⟨x2.heap.size, 1, none⟩ = some (.int .i64 (m + 1)) := (hb5.cell (p := ⟨x2.heap.size, 1, none⟩) (by first | (simp; done) | (simp; omega) | omega)).trans (by go_simp)
  have c5_1_2 : w5.cell? ⟨x2.heap.size, 2, none⟩ = some (.int .i64 1) := (hb5.cell (p := ⟨x2.heap.size, 2, none⟩) (by first | (simp; done) | (simp; omega) | omega)).trans (by go_simp)
  have f5_1_0 : w5.frozen? ⟨x2.heap.size, 0, none⟩ = false := (hb5.frozen (p := ⟨x2.heap.size, 0, none⟩) (by first | (simp; done) | (simp; omega) | omega)).trans (by go_simp)
  have f5_1_1 : w5.frozen? ⟨x2.heap.size, 1, none⟩ = false := (hb5.frozen (p := ⟨x2.heap.size, 1, none⟩) (by first | (simp; done) | (simp; omega) | omega)).trans (by go_simp)
  have f5_1_2 : w5.frozen? ⟨x2.heap.size, 2, none⟩ = false := (hb5.frozen (p := ⟨x2.heap.size, 2, none⟩) (by first | (simp; done) | (simp; omega) | omega)).trans (by go_simp)
  clear hb5 B4 c4_0_0 c4_0_1 c4_0_2 c4_1_0 c4_1_1 c4_1_2 f4_1_0 f4_1_1 f4_1_2
  go_wp2_with fail
  refine (hQ _).mono ?_
  rintro e w6 ⟨rfl, hb6⟩
  have B6 : Below w.heap.size w w6 := by (focus (repeat' (first | assumption | exact Below.refl _ _ | refine Below.alloc ?_ ?_ _ | refine Below.setCell ?_ ?_ _ | refine Below.drew ?_ | refine below_drewN ?_ _ | refine Below.trans ?_ (Below.mono (by assumption) ?_) | refine Below.trans ?_ (Below.mono (BW.below _) ?_) | (simp; done) | (simp; omega) | omega)))
  have n6 : w.heap.size ≤ w6.heap.size := B6.size
  have s6_0 : w.heap.size < w6.heap.size := Nat.lt_of_lt_of_le (by first | (simp; done) | (simp; omega) | omega) hb6.size
  have c6_0_0 : w6.cell? ⟨w.heap.size, 0, none⟩ = some (.int .i64 (y)) := (hb6.cell (p := ⟨w.heap.size, 0, none⟩) (by first | (simp; done) | (simp; omega) | omega)).trans (by go_simp)
  have c6_0_1 : w6.cell? ⟨w.heap.size, 1, none⟩ = some (.int .i64 (m)) := (hb6.cell (p := ⟨w.heap.size, 1, none⟩) (by first | (simp; done) | (simp; omega) | omega)).trans (by go_simp)
  have c6_0_2 : w6.cell? ⟨w.heap.size, 2, none⟩ = some (.int .i64 (d)) := (hb6.cell (p := ⟨w.heap.size, 2, none⟩) (by first | (simp; done) | (simp; omega) | omega)).trans (by go_simp)
  have s6_1 : x2.heap.size < w6.heap.size := Nat.lt_of_lt_of_le (by first | (simp; done) | (simp; omega) | omega) hb6.size
  have c6_1_0 : w6.cell? ⟨x2.heap.size, 0, none⟩ = some (.int .i64 (y)) := (hb6.cell (p := ⟨x2.heap.size, 0, none⟩) (by first | (simp; done) | (simp; omega) | omega)).trans (by go_simp)
  have c6_1_1 : w6.cell? ⟨x2.heap.size, 1, none⟩ = some (.int .i64 (m + 1)) := (hb6.cell (p := ⟨x2.heap.size, 1, none⟩) (by first | (simp; done) | (simp; omega) | omega)).trans (by go_simp)
  have c6_1_2 : w6.cell? ⟨x2.heap.size, 2, none⟩ = some (.int .i64 1) := (hb6.cell (p := ⟨x2.heap.size, 2, none⟩) (by first | (simp; done) | (simp; omega) | omega)).trans (by go_simp)
  have f6_1_0 : w6.frozen? ⟨x2.heap.size, 0, none⟩ = false := (hb6.frozen (p := ⟨x2.heap.size, 0, none⟩) (by first | (simp; done) | (simp; omega) | omega)).trans (by go_simp)
  have f6_1_1 : w6.frozen? ⟨x2.heap.size, 1, none⟩ = false := (hb6.frozen (p := ⟨x2.heap.size, 1, none⟩) (by first | (simp; done) | (simp; omega) | omega)).trans (by go_simp)
  have f6_1_2 : w6.frozen? ⟨x2.heap.size, 2, none⟩ = false := (hb6.frozen (p := ⟨x2.heap.size, 2, none⟩) (by first | (simp; done) | (simp; omega) | omega)).trans (by go_simp)
  clear hb6 B5 c5_0_0 c5_0_1 c5_0_2 c5_1_0 c5_1_1 c5_1_2 f5_1_0 f5_1_1 f5_1_2
  go_wp2_with fail
  refine (hW1 _).mono ?_
  rintro e w7 ⟨rfl, hb7⟩
  have B7 : Below w.heap.size w w7 := by (focus (repeat' (first | assumption | exact Below.refl _ _ | refine Below.alloc ?_ ?_ _ | refine Below.setCell ?_ ?_ _ | refine Below.drew ?_ | refine below_drewN ?_ _ | refine Below.trans ?_ (Below.mono (by assumption) ?_) | refine Below.trans ?_ (Below.mono (BW.below _) ?_) | (simp; done) | (simp; omega) | omega)))
  have n7 : w.heap.size ≤ w7.heap.size := B7.size
  have s7_0 : w.heap.size < w7.heap.size := Nat.lt_of_lt_of_le (by first | (simp; done) | (simp; omega) | omega) hb7.size
  have c7_0_0 : w7.cell? ⟨w.heap.size, 0, none⟩ = some (.int .i64 (y)) := (hb7.cell (p := ⟨w.heap.size, 0, none⟩) (by first | (simp; done) | (simp; omega) | omega)).trans (by go_simp)
  have c7_0_1 : w7.cell? ⟨w.heap.size, 1, none⟩ = some (.int .i64 (m)) := (hb7.cell (p := ⟨w.heap.size, 1, none⟩) (by first | (simp; done) | (simp; omega) | omega)).trans (by go_simp)
  have c7_0_2 : w7.cell? ⟨w.heap.size, 2, none⟩ = some (.int .i64 (d)) := (hb7.cell (p := ⟨w.heap.size, 2, none⟩) (by first | (simp; done) | (simp; omega) | omega)).trans (by go_simp)
  have s7_1 : x2.heap.size < w7.heap.size := Nat.lt_of_lt_of_le (by first | (simp; done) | (simp; omega) | omega) hb7.size
  have c7_1_0 : w7.cell? ⟨x2.heap.size, 0, none⟩ = some (.int .i64 (y)) := (hb7.cell (p := ⟨x2.heap.size, 0, none⟩) (by first | (simp; done) | (simp; omega) | omega)).trans (by go_simp)
  have c7_1_1 : w7.cell? ⟨x2.heap.size, 1, none⟩ = some (.int .i64 (m + 1)) := (hb7.cell (p := ⟨x2.heap.size, 1, none⟩) (by first | (simp; done) | (simp; omega) | omega)).trans (by go_simp)
  have c7_1_2 : w7.cell? ⟨x2.heap.size, 2, none⟩ = some (.int .i64 1) := (hb7.cell (p := ⟨x2.heap.size, 2, none⟩) (by first | (simp; done) | (simp; omega) | omega)).trans (by go_simp)
  have f7_1_0 : w7.frozen? ⟨x2.heap.size, 0, none⟩ = false := (hb7.frozen (p := ⟨x2.heap.size, 0, none⟩) (by first | (simp; done) | (simp; omega) | omega)).trans (by go_simp)
  have f7_1_1 : w7.frozen? ⟨x2.heap.size, 1, none⟩ = false := (hb7.frozen (p := ⟨x2.heap.size, 1, none⟩) (by first | (simp; done) | (simp; omega) | omega)).trans (by go_simp)
  have f7_1_2 : w7.frozen? ⟨x2.heap.size, 2, none⟩ = false := (hb7.frozen (p := ⟨x2.heap.size, 2, none⟩) (by first | (simp; done) | (simp; omega) | omega)).trans (by go_simp)
  clear hb7 B6 c6_0_0 c6_0_1 c6_0_2 c6_1_0 c6_1_1 c6_1_2 f6_1_0 f6_1_1 f6_1_2
  go_wp2_with fail
  refine (hW _).mono ?_
  rintro e w8 ⟨rfl, hb8⟩
  have B8 : Below w.heap.size w w8 := by (focus (repeat' (first | assumption | exact Below.refl _ _ | refine Below.alloc ?_ ?_ _ | refine Below.setCell ?_ ?_ _ | refine Below.drew ?_ | refine below_drewN ?_ _ | refine Below.trans ?_ (Below.mono (by assumption) ?_) | refine Below.trans ?_ (Below.mono (BW.below _) ?_) | (simp; done) | (simp; omega) | omega)))
  have n8 : w.heap.size ≤ w8.heap.size := B8.size
  have s8_0 : w.heap.size < w8.heap.size := Nat.lt_of_lt_of_le (by first | (simp; done) | (simp; omega) | omega) hb8.size
  have c8_0_0 : w8.cell? ⟨w.heap.size, 0, none⟩ = some (.int .i64 (y)) := (hb8.cell (p := ⟨w.heap.size, 0, none⟩) (by first | (simp; done) | (simp; omega) | omega)).trans (by go_simp)
  have c8_0_1 : w8.cell? ⟨w.heap.size, 1, none⟩ = some (.int .i64 (m)) := (hb8.cell (p := ⟨w.heap.size, 1, none⟩) (by first | (simp; done) | (simp; omega) | omega)).trans (by go_simp)
  have c8_0_2 : w8.cell? ⟨w.heap.size, 2, none⟩ = some (.int .i64 (d)) := (hb8.cell (p := ⟨w.heap.size, 2, none⟩) (by first | (simp; done) | (simp; omega) | omega)).trans (by go_simp)
  have s8_1 : x2.heap.size < w8.heap.size := Nat.lt_of_lt_of_le (by first | (simp; done) | (simp; omega) | omega) hb8.size
  have c8_1_0 : w8.cell? ⟨x2.heap.size, 0, none⟩ = some (.int .i64 (y)) := (hb8.cell (p := ⟨x2.heap.size, 0, none⟩) (by first | (simp; done) | (simp; omega) | omega)).trans (by go_simp)
  have c8_1_1 : w8.cell? ⟨x2.heap.size, 1, none⟩ = some (.int .i64 (m + 1)) := (hb8.cell (p := ⟨x2.heap.size, 1, none⟩) (by first | (simp; done) | (simp; omega) | omega)).trans (by go_simp)
  have c8_1_2 : w8.cell? ⟨x2.heap.size, 2, none⟩ = some (.int .i64 1) := (hb8.cell (p := ⟨x2.heap.size, 2, none⟩) (by first | (simp; done) | (simp; omega) | omega)).trans (by go_simp)
  have f8_1_0 : w8.frozen? ⟨x2.heap.size, 0, none⟩ = false := (hb8.frozen (p := ⟨x2.heap.size, 0, none⟩) (by first | (simp; done) | (simp; omega) | omega)).trans (by go_simp)
  have f8_1_1 : w8.frozen? ⟨x2.heap.size, 1, none⟩ = false := (hb8.frozen (p := ⟨x2.heap.size, 1, none⟩) (by first | (simp; done) | (simp; omega) | omega)).trans (by go_simp)
  have f8_1_2 : w8.frozen? ⟨x2.heap.size, 2, none⟩ = false := (hb8.frozen (p := ⟨x2.heap.size, 2, none⟩) (by first | (simp; done) | (simp; omega) | omega)).trans (by go_simp)
  clear hb8 B7 c7_0_0 c7_0_1 c7_0_2 c7_1_0 c7_1_1 c7_1_2 f7_1_0 f7_1_1 f7_1_2
  go_wp2_with fail
  go_ret
  exact ⟨rfl, by (focus (repeat' (first | assumption | exact Below.refl _ _ | refine Below.alloc ?_ ?_ _ | refine Below.setCell ?_ ?_ _ | refine Below.drew ?_ | refine below_drewN ?_ _ | refine Below.trans ?_ (Below.mono (by assumption) ?_) | refine Below.trans ?_ (Below.mono (BW.below _) ?_) | (simp; done) | (simp; omega) | omega)))⟩
set_option maxRecDepth 100000 in
set_option maxHeartbeats 8000000 in
theorem CivilSteps_ltc (y y' m' d' : Int) (ky : I64 y) (ky' : I64 y') (h : rightB y 12 31 = true) (h' : rightB y' m' d' = true) (hc : numb y 12 31 < numb y' m' d' ∧ cmp3 y 12 31 y' m' d' = -1 ∧ cmp3 y' m' d' y 12 31 = 1) (hs3 : y < 40000) (w : World) : Calls Try.prog 9 #[dat y 12 31, dat y' m' d'] w fun e w' => e = .returned (.bool true) ∧ Below w.heap.size w w' := by
  have hD := fun w => civil_Days y 12 31 ky w
  rw [(days_y h).1, (days_y h).2.1] at hD
  have hE := fun w => civil_Days y' m' d' ky' w
  rw [(days_y h').1, (days_y h').2.1] at hE
  have hC1 := fun w => civil_Compare y 12 31 y' m' d' w
  rw [hc.2.1] at hC1
  have hC2 := fun w => civil_Compare y' m' d' y 12 31 w
  rw [hc.2.2] at hC2
  have hcN := hc.1
  have r := (right_iff y 12 31).1 h
  obtain ⟨ry0, ry1, rm0, rm1, rd0, rd1⟩ := r
  have ml := mlen_bd y 12
  have ll := lp_01 y
  have hn : rightB (y + 1) (1) (1) = true := (right_iff _ _ _).2 (by have := mlen_bd (y + 1) 1; omega)
  have kn : I64 (y + 1) := I64.sm (by omega)
  have hN := fun w => civil_Days (y + 1) (1) (1) kn w
  rw [(days_y hn).1, (days_y hn).2.1] at hN
  have hP := fun w => civil_YearDay y 12 31 ky w
  rw [(days_y h).2.2, (days_y h).2.1] at hP
  have hQ := fun w => civil_YearDay (y + 1) (1) (1) kn w
  rw [(days_y hn).2.2, (days_y hn).2.1] at hQ
  rw [show numb (y + 1) 1 1 = numb y 12 31 + 1 from by (have := cum_12 y; have hl : mlen y 12 = 31 := (by simp [mlen]); have := ahead_succ y; have := cum_1 (y + 1); unfold numb; omega)] at hN
  rw [cum_1, show (0 : Int) + 1 = 1 from rfl] at hQ
  rw [show cum y 12 + 31 = 365 + lp y from by (have := cum_12 y; have hl : mlen y 12 = 31 := (by simp [mlen]); omega)] at hP
  obtain ⟨nb0, nb1⟩ := numb_bd y 12 31 (by omega)
  generalize numb y 12 31 = N at *
  generalize numb y' m' d' = N' at *
  have hcA : decide (N < N') = true := by simp; omega
  have hcB : (N == N') = false := by simp; omega
  have kN : I64 N := I64.sm (by omega)
  have kN1 : I64 (N + 1) := I64.sm (by omega)
  have hW := fun w => civil_Weekday N kN w
  have hW1 := fun w => civil_Weekday (N + 1) kN1 w
  rw [wday_succ] at hW1
  obtain ⟨wb0, wb1⟩ := wday_bd N
  generalize wday N = wd at *
  have hL := fun w => civil_Len y 12 ky w
  have hL2 := fun w => civil_Len2 y ky w
  rw [show mlen y 12 = 31 by simp [mlen]] at hL
  clear h h' hc
  clear hn ml
  clear rd1 rm0 rm1 rd0
  go_enter Try.func9, Try.ntmps9
  go_wp2_with fail
  refine (civ_lives _).mono ?_
  rintro e w1 ⟨rfl, hb1⟩
  have B1 : Below w.heap.size w w1 := by (focus (repeat' (first | assumption | exact Below.refl _ _ | refine Below.alloc ?_ ?_ _ | refine Below.setCell ?_ ?_ _ | refine Below.drew ?_ | refine below_drewN ?_ _ | refine Below.trans ?_ (Below.mono (by assumption) ?_) | refine Below.trans ?_ (Below.mono (BW.below _) ?_) | (simp; done) | (simp; omega) | omega)))
  have n1 : w.heap.size ≤ w1.heap.size := B1.size
  have s1_0 : w.heap.size < w1.heap.size := Nat.lt_of_lt_of_le (by first | (simp; done) | (simp; omega) | omega) hb1.size
  have c1_0_0 : w1.cell? ⟨w.heap.size, 0, none⟩ = some (.int .i64 (y)) := (hb1.cell (p := ⟨w.heap.size, 0, none⟩) (by first | (simp; done) | (simp; omega) | omega)).trans (by go_simp)
  have c1_0_1 : w1.cell? ⟨w.heap.size, 1, none⟩ = some (.int .i64 (12)) := (hb1.cell (p := ⟨w.heap.size, 1, none⟩) (by first | (simp; done) | (simp; omega) | omega)).trans (by go_simp)
  have c1_0_2 : w1.cell? ⟨w.heap.size, 2, none⟩ = some (.int .i64 (31)) := (hb1.cell (p := ⟨w.heap.size, 2, none⟩) (by first | (simp; done) | (simp; omega) | omega)).trans (by go_simp)
  have s1_1 : w.heap.size + 1 < w1.heap.size := Nat.lt_of_lt_of_le (by first | (simp; done) | (simp; omega) | omega) hb1.size
  have c1_1_0 : w1.cell? ⟨w.heap.size + 1, 0, none⟩ = some (.int .i64 (y')) := (hb1.cell (p := ⟨w.heap.size + 1, 0, none⟩) (by first | (simp; done) | (simp; omega) | omega)).trans (by go_simp)
  have c1_1_1 : w1.cell? ⟨w.heap.size + 1, 1, none⟩ = some (.int .i64 (m')) := (hb1.cell (p := ⟨w.heap.size + 1, 1, none⟩) (by first | (simp; done) | (simp; omega) | omega)).trans (by go_simp)
  have c1_1_2 : w1.cell? ⟨w.heap.size + 1, 2, none⟩ = some (.int .i64 (d')) := (hb1.cell (p := ⟨w.heap.size + 1, 2, none⟩) (by first | (simp; done) | (simp; omega) | omega)).trans (by go_simp)
  clear hb1
  go_wp2_with fail
  refine (hD _).mono ?_
  rintro e w2 ⟨rfl, hb2⟩
  have B2 : Below w.heap.size w w2 := by (focus (repeat' (first | assumption | exact Below.refl _ _ | refine Below.alloc ?_ ?_ _ | refine Below.setCell ?_ ?_ _ | refine Below.drew ?_ | refine below_drewN ?_ _ | refine Below.trans ?_ (Below.mono (by assumption) ?_) | refine Below.trans ?_ (Below.mono (BW.below _) ?_) | (simp; done) | (simp; omega) | omega)))
  have n2 : w.heap.size ≤ w2.heap.size := B2.size
  have s2_0 : w.heap.size < w2.heap.size := Nat.lt_of_lt_of_le (by first | (simp; done) | (simp; omega) | omega) hb2.size
  have c2_0_0 : w2.cell? ⟨w.heap.size, 0, none⟩ = some (.int .i64 (y)) := (hb2.cell (p := ⟨w.heap.size, 0, none⟩) (by first | (simp; done) | (simp; omega) | omega)).trans (by go_simp)
  have c2_0_1 : w2.cell? ⟨w.heap.size, 1, none⟩ = some (.int .i64 (12)) := (hb2.cell (p := ⟨w.heap.size, 1, none⟩) (by first | (simp; done) | (simp; omega) | omega)).trans (by go_simp)
  have c2_0_2 : w2.cell? ⟨w.heap.size, 2, none⟩ = some (.int .i64 (31)) := (hb2.cell (p := ⟨w.heap.size, 2, none⟩) (by first | (simp; done) | (simp; omega) | omega)).trans (by go_simp)
  have s2_1 : w.heap.size + 1 < w2.heap.size := Nat.lt_of_lt_of_le (by first | (simp; done) | (simp; omega) | omega) hb2.size
  have c2_1_0 : w2.cell? ⟨w.heap.size + 1, 0, none⟩ = some (.int .i64 (y')) := (hb2.cell (p := ⟨w.heap.size + 1, 0, none⟩) (by first | (simp; done) | (simp; omega) | omega)).trans (by go_simp)
  have c2_1_1 : w2.cell? ⟨w.heap.size + 1, 1, none⟩ = some (.int .i64 (m')) := (hb2.cell (p := ⟨w.heap.size + 1, 1, none⟩) (by first | (simp; done) | (simp; omega) | omega)).trans (by go_simp)
  have c2_1_2 : w2.cell? ⟨w.heap.size + 1, 2, none⟩ = some (.int .i64 (d')) := (hb2.cell (p := ⟨w.heap.size + 1, 2, none⟩) (by first | (simp; done) | (simp; omega) | omega)).trans (by go_simp)
  clear hb2 B1 c1_0_0 c1_0_1 c1_0_2 c1_1_0 c1_1_1 c1_1_2
  go_wp2_with fail
  refine (hE _).mono ?_
  rintro e w3 ⟨rfl, hb3⟩
  have B3 : Below w.heap.size w w3 := by (focus (repeat' (first | assumption | exact Below.refl _ _ | refine Below.alloc ?_ ?_ _ | refine Below.setCell ?_ ?_ _ | refine Below.drew ?_ | refine below_drewN ?_ _ | refine Below.trans ?_ (Below.mono (by assumption) ?_) | refine Below.trans ?_ (Below.mono (BW.below _) ?_) | (simp; done) | (simp; omega) | omega)))
  have n3 : w.heap.size ≤ w3.heap.size := B3.size
  have s3_0 : w.heap.size < w3.heap.size := Nat.lt_of_lt_of_le (by first | (simp; done) | (simp; omega) | omega) hb3.size
  have c3_0_0 : w3.cell? ⟨w.heap.size, 0, none⟩ = some (.int .i64 (y)) := (hb3.cell (p := ⟨w.heap.size, 0, none⟩) (by first | (simp; done) | (simp; omega) | omega)).trans (by go_simp)
  have c3_0_1 : w3.cell? ⟨w.heap.size, 1, none⟩ = some (.int .i64 (12)) := (hb3.cell (p := ⟨w.heap.size, 1, none⟩) (by first | (simp; done) | (simp; omega) | omega)).trans (by go_simp)
  have c3_0_2 : w3.cell? ⟨w.heap.size, 2, none⟩ = some (.int .i64 (31)) := (hb3.cell (p := ⟨w.heap.size, 2, none⟩) (by first | (simp; done) | (simp; omega) | omega)).trans (by go_simp)
  have s3_1 : w.heap.size + 1 < w3.heap.size := Nat.lt_of_lt_of_le (by first | (simp; done) | (simp; omega) | omega) hb3.size
  have c3_1_0 : w3.cell? ⟨w.heap.size + 1, 0, none⟩ = some (.int .i64 (y')) := (hb3.cell (p := ⟨w.heap.size + 1, 0, none⟩) (by first | (simp; done) | (simp; omega) | omega)).trans (by go_simp)
  have c3_1_1 : w3.cell? ⟨w.heap.size + 1, 1, none⟩ = some (.int .i64 (m')) := (hb3.cell (p := ⟨w.heap.size + 1, 1, none⟩) (by first | (simp; done) | (simp; omega) | omega)).trans (by go_simp)
  have c3_1_2 : w3.cell? ⟨w.heap.size + 1, 2, none⟩ = some (.int .i64 (d')) := (hb3.cell (p := ⟨w.heap.size + 1, 2, none⟩) (by first | (simp; done) | (simp; omega) | omega)).trans (by go_simp)
  clear hb3 B2 c2_0_0 c2_0_1 c2_0_2 c2_1_0 c2_1_1 c2_1_2
  go_wp2_with fail
  have Bx1 : Below w.heap.size w w3 := by (focus (repeat' (first | assumption | exact Below.refl _ _ | refine Below.alloc ?_ ?_ _ | refine Below.setCell ?_ ?_ _ | refine Below.drew ?_ | refine below_drewN ?_ _ | refine Below.trans ?_ (Below.mono (by assumption) ?_) | refine Below.trans ?_ (Below.mono (BW.below _) ?_) | (simp; done) | (simp; omega) | omega)))
  have nx1 : w.heap.size ≤ w3.heap.size := Bx1.size
  have sx1_0 : w.heap.size < w3.heap.size := (by first | (simp; done) | (simp; omega) | omega)
  have cx1_0_0 : w3.cell? ⟨w.heap.size, 0, none⟩ = some (.int .i64 (y)) := by go_simp
  have cx1_0_1 : w3.cell? ⟨w.heap.size, 1, none⟩ = some (.int .i64 (12)) := by go_simp
  have cx1_0_2 : w3.cell? ⟨w.heap.size, 2, none⟩ = some (.int .i64 (31)) := by go_simp
  have sx1_1 : w.heap.size + 1 < w3.heap.size := (by first | (simp; done) | (simp; omega) | omega)
  have cx1_1_0 : w3.cell? ⟨w.heap.size + 1, 0, none⟩ = some (.int .i64 (y')) := by go_simp
  have cx1_1_1 : w3.cell? ⟨w.heap.size + 1, 1, none⟩ = some (.int .i64 (m')) := by go_simp
  have cx1_1_2 : w3.cell? ⟨w.heap.size + 1, 2, none⟩ = some (.int .i64 (d')) := by go_simp
  clear B3 c3_0_0 c3_0_1 c3_0_2 c3_1_0 c3_1_1 c3_1_2
  generalize w3 = x1 at *
  try dsimp only [List.append]
  refine wp_region_bw (by kernel_rfl) (by kernel_rfl) ?_; (repeat (go_big_quiet_step ((go_at_call 58; first | with_reducible exact bw_call (hC1 _) | with_reducible exact bw_call (hC2 _))))); refine wpQuiet_nil ?_; intro _ hw'; obtain ⟨xq, hw''⟩ := hw'; subst hw''
  have Bx2 : Below w.heap.size w xq.val := Bx1.trans (xq.below.mono nx1)
  have nx2 : w.heap.size ≤ xq.val.heap.size := Bx2.size
  have sx2_0 : w.heap.size < xq.val.heap.size := Nat.lt_of_lt_of_le (by first | (simp; done) | (simp; omega) | omega) xq.below.size
  have cx2_0_0 : xq.val.cell? ⟨w.heap.size, 0, none⟩ = some (.int .i64 (y)) := (xq.cell (w.heap.size) 0 (by first | (simp; done) | (simp; omega) | omega)).trans (by go_simp)
  have cx2_0_1 : xq.val.cell? ⟨w.heap.size, 1, none⟩ = some (.int .i64 (12)) := (xq.cell (w.heap.size) 1 (by first | (simp; done) | (simp; omega) | omega)).trans (by go_simp)
  have cx2_0_2 : xq.val.cell? ⟨w.heap.size, 2, none⟩ = some (.int .i64 (31)) := (xq.cell (w.heap.size) 2 (by first | (simp; done) | (simp; omega) | omega)).trans (by go_simp)
  clear Bx1 cx1_0_0 cx1_0_1 cx1_0_2 cx1_1_0 cx1_1_1 cx1_1_2
  generalize xq.val = x2 at *
  go_wp2_with fail
  have Bx3 : Below w.heap.size w (x2.alloc (.cells #[.int .i64 (y), .int .i64 (12), .int .i64 (32)] 48)) := by (focus (repeat' (first | assumption | exact Below.refl _ _ | refine Below.alloc ?_ ?_ _ | refine Below.setCell ?_ ?_ _ | refine Below.drew ?_ | refine below_drewN ?_ _ | refine Below.trans ?_ (Below.mono (by assumption) ?_) | refine Below.trans ?_ (Below.mono (BW.below _) ?_) | (simp; done) | (simp; omega) | omega)))
  have nx3 : w.heap.size ≤ (x2.alloc (.cells #[.int .i64 (y), .int .i64 (12), .int .i64 (32)] 48)).heap.size := Bx3.size
  have sx3_0 : w.heap.size < (x2.alloc (.cells #[.int .i64 (y), .int .i64 (12), .int .i64 (32)] 48)).heap.size := (by first | (simp; done) | (simp; omega) | omega)
  have cx3_0_0 : (x2.alloc (.cells #[.int .i64 (y), .int .i64 (12), .int .i64 (32)] 48)).cell? ⟨w.heap.size, 0, none⟩ = some (.int .i64 (y)) := by go_simp
  have cx3_0_1 : (x2.alloc (.cells #[.int .i64 (y), .int .i64 (12), .int .i64 (32)] 48)).cell? ⟨w.heap.size, 1, none⟩ = some (.int .i64 (12)) := by go_simp
  have cx3_0_2 : (x2.alloc (.cells #[.int .i64 (y), .int .i64 (12), .int .i64 (32)] 48)).cell? ⟨w.heap.size, 2, none⟩ = some (.int .i64 (31)) := by go_simp
  have sx3_1 : x2.heap.size < (x2.alloc (.cells #[.int .i64 (y), .int .i64 (12), .int .i64 (32)] 48)).heap.size := (by first | (simp; done) | (simp; omega) | omega)
  have cx3_1_0 : (x2.alloc (.cells #[.int .i64 (y), .int .i64 (12), .int .i64 (32)] 48)).cell? ⟨x2.heap.size, 0, none⟩ = some (.int .i64 (y)) := by go_simp
  have cx3_1_1 : (x2.alloc (.cells #[.int .i64 (y), .int .i64 (12), .int .i64 (32)] 48)).cell? ⟨x2.heap.size, 1, none⟩ = some (.int .i64 (12)) := by go_simp
  have cx3_1_2 : (x2.alloc (.cells #[.int .i64 (y), .int .i64 (12), .int .i64 (32)] 48)).cell? ⟨x2.heap.size, 2, none⟩ = some (.int .i64 (32)) := by go_simp
  have fx3_1_0 : (x2.alloc (.cells #[.int .i64 (y), .int .i64 (12), .int .i64 (32)] 48)).frozen? ⟨x2.heap.size, 0, none⟩ = false := by go_simp
  have fx3_1_1 : (x2.alloc (.cells #[.int .i64 (y), .int .i64 (12), .int .i64 (32)] 48)).frozen? ⟨x2.heap.size, 1, none⟩ = false := by go_simp
  have fx3_1_2 : (x2.alloc (.cells #[.int .i64 (y), .int .i64 (12), .int .i64 (32)] 48)).frozen? ⟨x2.heap.size, 2, none⟩ = false := by go_simp
  clear Bx2 cx2_0_0 cx2_0_1 cx2_0_2
  generalize (x2.alloc (.cells #[.int .i64 (y), .int .i64 (12), .int .i64 (32)] 48)) = x3 at *
  try dsimp only [List.append]
  refine wp_region_bw (by kernel_rfl) (by kernel_rfl) ?_; (repeat (go_big_quiet_step ((go_at_call 52; with_reducible exact bw_same (hL _))))); refine wpQuiet_nil ?_; intro _ hw'; obtain ⟨xq, hw''⟩ := hw'; subst hw''
  have Bx4 : Below w.heap.size w xq.val := Bx3.trans (xq.below.mono nx3)
  have nx4 : w.heap.size ≤ xq.val.heap.size := Bx4.size
  have sx4_0 : w.heap.size < xq.val.heap.size := Nat.lt_of_lt_of_le (by first | (simp; done) | (simp; omega) | omega) xq.below.size
  have cx4_0_0 : xq.val.cell? ⟨w.heap.size, 0, none⟩ = some (.int .i64 (y)) := (xq.cell (w.heap.size) 0 (by first | (simp; done) | (simp; omega) | omega)).trans (by go_simp)
  have cx4_0_1 : xq.val.cell? ⟨w.heap.size, 1, none⟩ = some (.int .i64 (12)) := (xq.cell (w.heap.size) 1 (by first | (simp; done) | (simp; omega) | omega)).trans (by go_simp)
  have cx4_0_2 : xq.val.cell? ⟨w.heap.size, 2, none⟩ = some (.int .i64 (31)) := (xq.cell (w.heap.size) 2 (by first | (simp; done) | (simp; omega) | omega)).trans (by go_simp)
  have sx4_1 : x2.heap.size < xq.val.heap.size := Nat.lt_of_lt_of_le (by first | (simp; done) | (simp; omega) | omega) xq.below.size
  have cx4_1_0 : xq.val.cell? ⟨x2.heap.size, 0, none⟩ = some (.int .i64 (y)) := (xq.cell (x2.heap.size) 0 (by first | (simp; done) | (simp; omega) | omega)).trans (by go_simp)
  have fx4_1_0 : xq.val.frozen? ⟨x2.heap.size, 0, none⟩ = false := (xq.frozen (x2.heap.size) 0 (by first | (simp; done) | (simp; omega) | omega)).trans (by go_simp)
  have cx4_1_1 : xq.val.cell? ⟨x2.heap.size, 1, none⟩ = some (.int .i64 (12)) := (xq.cell (x2.heap.size) 1 (by first | (simp; done) | (simp; omega) | omega)).trans (by go_simp)
  have fx4_1_1 : xq.val.frozen? ⟨x2.heap.size, 1, none⟩ = false := (xq.frozen (x2.heap.size) 1 (by first | (simp; done) | (simp; omega) | omega)).trans (by go_simp)
  have cx4_1_2 : xq.val.cell? ⟨x2.heap.size, 2, none⟩ = some (.int .i64 (32)) := (xq.cell (x2.heap.size) 2 (by first | (simp; done) | (simp; omega) | omega)).trans (by go_simp)
  have fx4_1_2 : xq.val.frozen? ⟨x2.heap.size, 2, none⟩ = false := (xq.frozen (x2.heap.size) 2 (by first | (simp; done) | (simp; omega) | omega)).trans (by go_simp)
  clear Bx3 cx3_0_0 cx3_0_1 cx3_0_2 cx3_1_0 cx3_1_1 cx3_1_2 fx3_1_0 fx3_1_1 fx3_1_2
  generalize xq.val = x4 at *
  go_wp2_with fail
  refine (hN _).mono ?_
  rintro e w4 ⟨rfl, hb4⟩
  have B4 : Below w.heap.size w w4 := by (focus (repeat' (first | assumption | exact Below.refl _ _ | refine Below.alloc ?_ ?_ _ | refine Below.setCell ?_ ?_ _ | refine Below.drew ?_ | refine below_drewN ?_ _ | refine Below.trans ?_ (Below.mono (by assumption) ?_) | refine Below.trans ?_ (Below.mono (BW.below _) ?_) | (simp; done) | (simp; omega) | omega)))
  have n4 : w.heap.size ≤ w4.heap.size := B4.size
  have s4_0 : w.heap.size < w4.heap.size := Nat.lt_of_lt_of_le (by first | (simp; done) | (simp; omega) | omega) hb4.size
  have c4_0_0 : w4.cell? ⟨w.heap.size, 0, none⟩ = some (.int .i64 (y)) := (hb4.cell (p := ⟨w.heap.size, 0, none⟩) (by first | (simp; done) | (simp; omega) | omega)).trans (by go_simp)
  have c4_0_1 : w4.cell? ⟨w.heap.size, 1, none⟩ = some (.int .i64 (12)) := (hb4.cell (p := ⟨w.heap.size, 1, none⟩) (by first | (simp; done) | (simp; omega) | omega)).trans (by go_simp)
  have c4_0_2 : w4.cell? ⟨w.heap.size, 2, none⟩ = some (.int .i64 (31)) := (hb4.cell (p := ⟨w.heap.size, 2, none⟩) (by first | (simp; done) | (simp; omega) | omega)).trans (by go_simp)
  have s4_1 : x2.heap.size < w4.heap.size := Nat.lt_of_lt_of_le (by first | (simp; done) | (simp; omega) | omega) hb4.size
  have c4_1_0 : w4.cell? ⟨x2.heap.size, 0, none⟩ = some (.int .i64 (y + 1)) := (hb4.cell (p := ⟨x2.heap.size, 0, none⟩) (by first | (simp; done) | (simp; omega) | omega)).trans (by go_simp)
  have c4_1_1 : w4.cell? ⟨x2.heap.size, 1, none⟩ = some (.int .i64 1) := (hb4.cell (p := ⟨x2.heap.size, 1, none⟩) (by first | (simp; done) | (simp; omega) | omega)).trans (by go_simp)
  have c4_1_2 : w4.cell? ⟨x2.heap.size, 2, none⟩ = some (.int .i64 1) := (hb4.cell (p := ⟨x2.heap.size, 2, none⟩) (by first | (simp; done) | (simp; omega) | omega)).trans (by go_simp)
  have f4_1_0 : w4.frozen? ⟨x2.heap.size, 0, none⟩ = false := (hb4.frozen (p := ⟨x2.heap.size, 0, none⟩) (by first | (simp; done) | (simp; omega) | omega)).trans (by go_simp)
  have f4_1_1 : w4.frozen? ⟨x2.heap.size, 1, none⟩ = false := (hb4.frozen (p := ⟨x2.heap.size, 1, none⟩) (by first | (simp; done) | (simp; omega) | omega)).trans (by go_simp)
  have f4_1_2 : w4.frozen? ⟨x2.heap.size, 2, none⟩ = false := (hb4.frozen (p := ⟨x2.heap.size, 2, none⟩) (by first | (simp; done) | (simp; omega) | omega)).trans (by go_simp)
  clear hb4 Bx4 cx4_0_0 cx4_0_1 cx4_0_2 cx4_1_0 fx4_1_0 cx4_1_1 fx4_1_1 cx4_1_2 fx4_1_2
  go_wp2_with fail
  refine (hP _).mono ?_
  rintro e w5 ⟨rfl, hb5⟩
  have B5 : Below w.heap.size w w5 := by (focus (repeat' (first | assumption | exact Below.refl _ _ | refine Below.alloc ?_ ?_ _ | refine Below.setCell ?_ ?_ _ | refine Below.drew ?_ | refine below_drewN ?_ _ | refine Below.trans ?_ (Below.mono (by assumption) ?_) | refine Below.trans ?_ (Below.mono (BW.below _) ?_) | (simp; done) | (simp; omega) | omega)))
  have n5 : w.heap.size ≤ w5.heap.size := B5.size
  have s5_0 : w.heap.size < w5.heap.size := Nat.lt_of_lt_of_le (by first | (simp; done) | (simp; omega) | omega) hb5.size
  have c5_0_0 : w5.cell? ⟨w.heap.size, 0, none⟩ = some (.int .i64 (y)) := (hb5.cell (p := ⟨w.heap.size, 0, none⟩) (by first | (simp; done) | (simp; omega) | omega)).trans (by go_simp)
  have c5_0_1 : w5.cell? ⟨w.heap.size, 1, none⟩ = some (.int .i64 (12)) := (hb5.cell (p := ⟨w.heap.size, 1, none⟩) (by first | (simp; done) | (simp; omega) | omega)).trans (by go_simp)
  have c5_0_2 : w5.cell? ⟨w.heap.size, 2, none⟩ = some (.int .i64 (31)) := (hb5.cell (p := ⟨w.heap.size, 2, none⟩) (by first | (simp; done) | (simp; omega) | omega)).trans (by go_simp)
  have s5_1 : x2.heap.size < w5.heap.size := Nat.lt_of_lt_of_le (by first | (simp; done) | (simp; omega) | omega) hb5.size
  have c5_1_0 : w5.cell? ⟨x2.heap.size, 0, none⟩ = some (.int .i64 (y + 1)) := (hb5.cell (p := ⟨x2.heap.size, 0, none⟩) (by first | (simp; done) | (simp; omega) | omega)).trans (by go_simp)
  have c5_1_1 : w5.cell? ⟨x2.heap.size, 1, none⟩ = some (.int .i64 1) := (hb5.cell (p := ⟨x2.heap.size, 1, none⟩) (by first | (simp; done) | (simp; omega) | omega)).trans (by go_simp)
  have c5_1_2 : w5.cell? ⟨x2.heap.size, 2, none⟩ = some (.int .i64 1) := (hb5.cell (p := ⟨x2.heap.size, 2, none⟩) (by first | (simp; done) | (simp; omega) | omega)).trans (by go_simp)
  have f5_1_0 : w5.frozen? ⟨x2.heap.size, 0, none⟩ = false := (hb5.frozen (p := ⟨x2.heap.size, 0, none⟩) (by first | (simp; done) | (simp; omega) | omega)).trans (by go_simp)
  have f5_1_1 : w5.frozen? ⟨x2.heap.size, 1, none⟩ = false := (hb5.frozen (p := ⟨x2.heap.size, 1, none⟩) (by first | (simp; done) | (simp; omega) | omega)).trans (by go_simp)
  have f5_1_2 : w5.frozen? ⟨x2.heap.size, 2, none⟩ = false := (hb5.frozen (p := ⟨x2.heap.size, 2, none⟩) (by first | (simp; done) | (simp; omega) | omega)).trans (by go_simp)
  clear hb5 B4 c4_0_0 c4_0_1 c4_0_2 c4_1_0 c4_1_1 c4_1_2 f4_1_0 f4_1_1 f4_1_2
  go_wp2_with fail
  refine (hQ _).mono ?_
  rintro e w6 ⟨rfl, hb6⟩
  have B6 : Below w.heap.size w w6 := by (focus (repeat' (first | assumption | exact Below.refl _ _ | refine Below.alloc ?_ ?_ _ | refine Below.setCell ?_ ?_ _ | refine Below.drew ?_ | refine below_drewN ?_ _ | refine Below.trans ?_ (Below.mono (by assumption) ?_) | refine Below.trans ?_ (Below.mono (BW.below _) ?_) | (simp; done) | (simp; omega) | omega)))
  have n6 : w.heap.size ≤ w6.heap.size := B6.size
  have s6_0 : w.heap.size < w6.heap.size := Nat.lt_of_lt_of_le (by first | (simp; done) | (simp; omega) | omega) hb6.size
  have c6_0_0 : w6.cell? ⟨w.heap.size, 0, none⟩ = some (.int .i64 (y)) := (hb6.cell (p := ⟨w.heap.size, 0, none⟩) (by first | (simp; done) | (simp; omega) | omega)).trans (by go_simp)
  have c6_0_1 : w6.cell? ⟨w.heap.size, 1, none⟩ = some (.int .i64 (12)) := (hb6.cell (p := ⟨w.heap.size, 1, none⟩) (by first | (simp; done) | (simp; omega) | omega)).trans (by go_simp)
  have c6_0_2 : w6.cell? ⟨w.heap.size, 2, none⟩ = some (.int .i64 (31)) := (hb6.cell (p := ⟨w.heap.size, 2, none⟩) (by first | (simp; done) | (simp; omega) | omega)).trans (by go_simp)
  have s6_1 : x2.heap.size < w6.heap.size := Nat.lt_of_lt_of_le (by first | (simp; done) | (simp; omega) | omega) hb6.size
  have c6_1_0 : w6.cell? ⟨x2.heap.size, 0, none⟩ = some (.int .i64 (y + 1)) := (hb6.cell (p := ⟨x2.heap.size, 0, none⟩) (by first | (simp; done) | (simp; omega) | omega)).trans (by go_simp)
  have c6_1_1 : w6.cell? ⟨x2.heap.size, 1, none⟩ = some (.int .i64 1) := (hb6.cell (p := ⟨x2.heap.size, 1, none⟩) (by first | (simp; done) | (simp; omega) | omega)).trans (by go_simp)
  have c6_1_2 : w6.cell? ⟨x2.heap.size, 2, none⟩ = some (.int .i64 1) := (hb6.cell (p := ⟨x2.heap.size, 2, none⟩) (by first | (simp; done) | (simp; omega) | omega)).trans (by go_simp)
  have f6_1_0 : w6.frozen? ⟨x2.heap.size, 0, none⟩ = false := (hb6.frozen (p := ⟨x2.heap.size, 0, none⟩) (by first | (simp; done) | (simp; omega) | omega)).trans (by go_simp)
  have f6_1_1 : w6.frozen? ⟨x2.heap.size, 1, none⟩ = false := (hb6.frozen (p := ⟨x2.heap.size, 1, none⟩) (by first | (simp; done) | (simp; omega) | omega)).trans (by go_simp)
  have f6_1_2 : w6.frozen? ⟨x2.heap.size, 2, none⟩ = false := (hb6.frozen (p := ⟨x2.heap.size, 2, none⟩) (by first | (simp; done) | (simp; omega) | omega)).trans (by go_simp)
  clear hb6 B5 c5_0_0 c5_0_1 c5_0_2 c5_1_0 c5_1_1 c5_1_2 f5_1_0 f5_1_1 f5_1_2
  go_wp2_with fail
  refine (hW1 _).mono ?_
  rintro e w7 ⟨rfl, hb7⟩
  have B7 : Below w.heap.size w w7 := by (focus (repeat' (first | assumption | exact Below.refl _ _ | refine Below.alloc ?_ ?_ _ | refine Below.setCell ?_ ?_ _ | refine Below.drew ?_ | refine below_drewN ?_ _ | refine Below.trans ?_ (Below.mono (by assumption) ?_) | refine Below.trans ?_ (Below.mono (BW.below _) ?_) | (simp; done) | (simp; omega) | omega)))
  have n7 : w.heap.size ≤ w7.heap.size := B7.size
  have s7_0 : w.heap.size < w7.heap.size := Nat.lt_of_lt_of_le (by first | (simp; done) | (simp; omega) | omega) hb7.size
  have c7_0_0 : w7.cell? ⟨w.heap.size, 0, none⟩ = some (.int .i64 (y)) := (hb7.cell (p := ⟨w.heap.size, 0, none⟩) (by first | (simp; done) | (simp; omega) | omega)).trans (by go_simp)
  have c7_0_1 : w7.cell? ⟨w.heap.size, 1, none⟩ = some (.int .i64 (12)) := (hb7.cell (p := ⟨w.heap.size, 1, none⟩) (by first | (simp; done) | (simp; omega) | omega)).trans (by go_simp)
  have c7_0_2 : w7.cell? ⟨w.heap.size, 2, none⟩ = some (.int .i64 (31)) := (hb7.cell (p := ⟨w.heap.size, 2, none⟩) (by first | (simp; done) | (simp; omega) | omega)).trans (by go_simp)
  have s7_1 : x2.heap.size < w7.heap.size := Nat.lt_of_lt_of_le (by first | (simp; done) | (simp; omega) | omega) hb7.size
  have c7_1_0 : w7.cell? ⟨x2.heap.size, 0, none⟩ = some (.int .i64 (y + 1)) := (hb7.cell (p := ⟨x2.heap.size, 0, none⟩) (by first | (simp; done) | (simp; omega) | omega)).trans (by go_simp)
  have c7_1_1 : w7.cell? ⟨x2.heap.size, 1, none⟩ = some (.int .i64 1) := (hb7.cell (p := ⟨x2.heap.size, 1, none⟩) (by first | (simp; done) | (simp; omega) | omega)).trans (by go_simp)
  have c7_1_2 : w7.cell? ⟨x2.heap.size, 2, none⟩ = some (.int .i64 1) := (hb7.cell (p := ⟨x2.heap.size, 2, none⟩) (by first | (simp; done) | (simp; omega) | omega)).trans (by go_simp)
  have f7_1_0 : w7.frozen? ⟨x2.heap.size, 0, none⟩ = false := (hb7.frozen (p := ⟨x2.heap.size, 0, none⟩) (by first | (simp; done) | (simp; omega) | omega)).trans (by go_simp)
  have f7_1_1 : w7.frozen? ⟨x2.heap.size, 1, none⟩ = false := (hb7.frozen (p := ⟨x2.heap.size, 1, none⟩) (by first | (simp; done) | (simp; omega) | omega)).trans (by go_simp)
  have f7_1_2 : w7.frozen? ⟨x2.heap.size, 2, none⟩ = false := (hb7.frozen (p := ⟨x2.heap.size, 2, none⟩) (by first | (simp; done) | (simp; omega) | omega)).trans (by go_simp)
  clear hb7 B6 c6_0_0 c6_0_1 c6_0_2 c6_1_0 c6_1_1 c6_1_2 f6_1_0 f6_1_1 f6_1_2
  go_wp2_with fail
  refine (hW _).mono ?_
  rintro e w8 ⟨rfl, hb8⟩
  have B8 : Below w.heap.size w w8 := by (focus (repeat' (first | assumption | exact Below.refl _ _ | refine Below.alloc ?_ ?_ _ | refine Below.setCell ?_ ?_ _ | refine Below.drew ?_ | refine below_drewN ?_ _ | refine Below.trans ?_ (Below.mono (by assumption) ?_) | refine Below.trans ?_ (Below.mono (BW.below _) ?_) | (simp; done) | (simp; omega) | omega)))
  have n8 : w.heap.size ≤ w8.heap.size := B8.size
  have s8_0 : w.heap.size < w8.heap.size := Nat.lt_of_lt_of_le (by first | (simp; done) | (simp; omega) | omega) hb8.size
  have c8_0_0 : w8.cell? ⟨w.heap.size, 0, none⟩ = some (.int .i64 (y)) := (hb8.cell (p := ⟨w.heap.size, 0, none⟩) (by first | (simp; done) | (simp; omega) | omega)).trans (by go_simp)
  have c8_0_1 : w8.cell? ⟨w.heap.size, 1, none⟩ = some (.int .i64 (12)) := (hb8.cell (p := ⟨w.heap.size, 1, none⟩) (by first | (simp; done) | (simp; omega) | omega)).trans (by go_simp)
  have c8_0_2 : w8.cell? ⟨w.heap.size, 2, none⟩ = some (.int .i64 (31)) := (hb8.cell (p := ⟨w.heap.size, 2, none⟩) (by first | (simp; done) | (simp; omega) | omega)).trans (by go_simp)
  have s8_1 : x2.heap.size < w8.heap.size := Nat.lt_of_lt_of_le (by first | (simp; done) | (simp; omega) | omega) hb8.size
  have c8_1_0 : w8.cell? ⟨x2.heap.size, 0, none⟩ = some (.int .i64 (y + 1)) := (hb8.cell (p := ⟨x2.heap.size, 0, none⟩) (by first | (simp; done) | (simp; omega) | omega)).trans (by go_simp)
  have c8_1_1 : w8.cell? ⟨x2.heap.size, 1, none⟩ = some (.int .i64 1) := (hb8.cell (p := ⟨x2.heap.size, 1, none⟩) (by first | (simp; done) | (simp; omega) | omega)).trans (by go_simp)
  have c8_1_2 : w8.cell? ⟨x2.heap.size, 2, none⟩ = some (.int .i64 1) := (hb8.cell (p := ⟨x2.heap.size, 2, none⟩) (by first | (simp; done) | (simp; omega) | omega)).trans (by go_simp)
  have f8_1_0 : w8.frozen? ⟨x2.heap.size, 0, none⟩ = false := (hb8.frozen (p := ⟨x2.heap.size, 0, none⟩) (by first | (simp; done) | (simp; omega) | omega)).trans (by go_simp)
  have f8_1_1 : w8.frozen? ⟨x2.heap.size, 1, none⟩ = false := (hb8.frozen (p := ⟨x2.heap.size, 1, none⟩) (by first | (simp; done) | (simp; omega) | omega)).trans (by go_simp)
  have f8_1_2 : w8.frozen? ⟨x2.heap.size, 2, none⟩ = false := (hb8.frozen (p := ⟨x2.heap.size, 2, none⟩) (by first | (simp; done) | (simp; omega) | omega)).trans (by go_simp)
  clear hb8 B7 c7_0_0 c7_0_1 c7_0_2 c7_1_0 c7_1_1 c7_1_2 f7_1_0 f7_1_1 f7_1_2
  go_wp2_with fail
  refine (hL2 _).mono ?_
  rintro e w' ⟨rfl, rfl⟩
  go_wp2_with fail
  go_ret
  exact ⟨ret_bool (by rw [Bool.or_eq_true]; right; simp; omega), by (focus (repeat' (first | assumption | exact Below.refl _ _ | refine Below.alloc ?_ ?_ _ | refine Below.setCell ?_ ?_ _ | refine Below.drew ?_ | refine below_drewN ?_ _ | refine Below.trans ?_ (Below.mono (by assumption) ?_) | refine Below.trans ?_ (Below.mono (BW.below _) ?_) | (simp; done) | (simp; omega) | omega)))⟩
set_option maxRecDepth 100000 in
set_option maxHeartbeats 8000000 in
theorem CivilSteps_lte (y' m' d' : Int) (ky' : I64 y') (h : rightB 40000 12 31 = true) (h' : rightB y' m' d' = true) (hc : numb 40000 12 31 < numb y' m' d' ∧ cmp3 40000 12 31 y' m' d' = -1 ∧ cmp3 y' m' d' 40000 12 31 = 1) (w : World) : Calls Try.prog 9 #[dat 40000 12 31, dat y' m' d'] w fun e w' => e = .returned (.bool true) ∧ Below w.heap.size w w' := by
  have ky : I64 40000 := I64.sm (by omega)
  have hD := fun w => civil_Days 40000 12 31 ky w
  rw [(days_y h).1, (days_y h).2.1] at hD
  have hE := fun w => civil_Days y' m' d' ky' w
  rw [(days_y h').1, (days_y h').2.1] at hE
  have hC1 := fun w => civil_Compare 40000 12 31 y' m' d' w
  rw [hc.2.1] at hC1
  have hC2 := fun w => civil_Compare y' m' d' 40000 12 31 w
  rw [hc.2.2] at hC2
  have hcN := hc.1
  have r := (right_iff 40000 12 31).1 h
  obtain ⟨ry0, ry1, rm0, rm1, rd0, rd1⟩ := r
  have hN := fun w => civil_Days 40001 1 1 (I64.sm (by omega)) w
  rw [show dayV 40001 1 1 = 0 by decide, show dayE 40001 1 1 = 1 by decide] at hN
  generalize numb 40000 12 31 = N at *
  generalize numb y' m' d' = N' at *
  have hcA : decide (N < N') = true := by simp; omega
  have hcB : (N == N') = false := by simp; omega
  have hL := fun w => civil_Len 40000 12 ky w
  rw [show mlen 40000 12 = 31 by simp [mlen]] at hL
  clear h h' hc
  clear rd1 rm0 rm1 rd0
  go_enter Try.func9, Try.ntmps9
  go_wp2_with fail
  refine (civ_lives _).mono ?_
  rintro e w1 ⟨rfl, hb1⟩
  have B1 : Below w.heap.size w w1 := by (focus (repeat' (first | assumption | exact Below.refl _ _ | refine Below.alloc ?_ ?_ _ | refine Below.setCell ?_ ?_ _ | refine Below.drew ?_ | refine below_drewN ?_ _ | refine Below.trans ?_ (Below.mono (by assumption) ?_) | refine Below.trans ?_ (Below.mono (BW.below _) ?_) | (simp; done) | (simp; omega) | omega)))
  have n1 : w.heap.size ≤ w1.heap.size := B1.size
  have s1_0 : w.heap.size < w1.heap.size := Nat.lt_of_lt_of_le (by first | (simp; done) | (simp; omega) | omega) hb1.size
  have c1_0_0 : w1.cell? ⟨w.heap.size, 0, none⟩ = some (.int .i64 (40000)) := (hb1.cell (p := ⟨w.heap.size, 0, none⟩) (by first | (simp; done) | (simp; omega) | omega)).trans (by go_simp)
  have c1_0_1 : w1.cell? ⟨w.heap.size, 1, none⟩ = some (.int .i64 (12)) := (hb1.cell (p := ⟨w.heap.size, 1, none⟩) (by first | (simp; done) | (simp; omega) | omega)).trans (by go_simp)
  have c1_0_2 : w1.cell? ⟨w.heap.size, 2, none⟩ = some (.int .i64 (31)) := (hb1.cell (p := ⟨w.heap.size, 2, none⟩) (by first | (simp; done) | (simp; omega) | omega)).trans (by go_simp)
  have s1_1 : w.heap.size + 1 < w1.heap.size := Nat.lt_of_lt_of_le (by first | (simp; done) | (simp; omega) | omega) hb1.size
  have c1_1_0 : w1.cell? ⟨w.heap.size + 1, 0, none⟩ = some (.int .i64 (y')) := (hb1.cell (p := ⟨w.heap.size + 1, 0, none⟩) (by first | (simp; done) | (simp; omega) | omega)).trans (by go_simp)
  have c1_1_1 : w1.cell? ⟨w.heap.size + 1, 1, none⟩ = some (.int .i64 (m')) := (hb1.cell (p := ⟨w.heap.size + 1, 1, none⟩) (by first | (simp; done) | (simp; omega) | omega)).trans (by go_simp)
  have c1_1_2 : w1.cell? ⟨w.heap.size + 1, 2, none⟩ = some (.int .i64 (d')) := (hb1.cell (p := ⟨w.heap.size + 1, 2, none⟩) (by first | (simp; done) | (simp; omega) | omega)).trans (by go_simp)
  clear hb1
  go_wp2_with fail
  refine (hD _).mono ?_
  rintro e w2 ⟨rfl, hb2⟩
  have B2 : Below w.heap.size w w2 := by (focus (repeat' (first | assumption | exact Below.refl _ _ | refine Below.alloc ?_ ?_ _ | refine Below.setCell ?_ ?_ _ | refine Below.drew ?_ | refine below_drewN ?_ _ | refine Below.trans ?_ (Below.mono (by assumption) ?_) | refine Below.trans ?_ (Below.mono (BW.below _) ?_) | (simp; done) | (simp; omega) | omega)))
  have n2 : w.heap.size ≤ w2.heap.size := B2.size
  have s2_0 : w.heap.size < w2.heap.size := Nat.lt_of_lt_of_le (by first | (simp; done) | (simp; omega) | omega) hb2.size
  have c2_0_0 : w2.cell? ⟨w.heap.size, 0, none⟩ = some (.int .i64 (40000)) := (hb2.cell (p := ⟨w.heap.size, 0, none⟩) (by first | (simp; done) | (simp; omega) | omega)).trans (by go_simp)
  have c2_0_1 : w2.cell? ⟨w.heap.size, 1, none⟩ = some (.int .i64 (12)) := (hb2.cell (p := ⟨w.heap.size, 1, none⟩) (by first | (simp; done) | (simp; omega) | omega)).trans (by go_simp)
  have c2_0_2 : w2.cell? ⟨w.heap.size, 2, none⟩ = some (.int .i64 (31)) := (hb2.cell (p := ⟨w.heap.size, 2, none⟩) (by first | (simp; done) | (simp; omega) | omega)).trans (by go_simp)
  have s2_1 : w.heap.size + 1 < w2.heap.size := Nat.lt_of_lt_of_le (by first | (simp; done) | (simp; omega) | omega) hb2.size
  have c2_1_0 : w2.cell? ⟨w.heap.size + 1, 0, none⟩ = some (.int .i64 (y')) := (hb2.cell (p := ⟨w.heap.size + 1, 0, none⟩) (by first | (simp; done) | (simp; omega) | omega)).trans (by go_simp)
  have c2_1_1 : w2.cell? ⟨w.heap.size + 1, 1, none⟩ = some (.int .i64 (m')) := (hb2.cell (p := ⟨w.heap.size + 1, 1, none⟩) (by first | (simp; done) | (simp; omega) | omega)).trans (by go_simp)
  have c2_1_2 : w2.cell? ⟨w.heap.size + 1, 2, none⟩ = some (.int .i64 (d')) := (hb2.cell (p := ⟨w.heap.size + 1, 2, none⟩) (by first | (simp; done) | (simp; omega) | omega)).trans (by go_simp)
  clear hb2 B1 c1_0_0 c1_0_1 c1_0_2 c1_1_0 c1_1_1 c1_1_2
  go_wp2_with fail
  refine (hE _).mono ?_
  rintro e w3 ⟨rfl, hb3⟩
  have B3 : Below w.heap.size w w3 := by (focus (repeat' (first | assumption | exact Below.refl _ _ | refine Below.alloc ?_ ?_ _ | refine Below.setCell ?_ ?_ _ | refine Below.drew ?_ | refine below_drewN ?_ _ | refine Below.trans ?_ (Below.mono (by assumption) ?_) | refine Below.trans ?_ (Below.mono (BW.below _) ?_) | (simp; done) | (simp; omega) | omega)))
  have n3 : w.heap.size ≤ w3.heap.size := B3.size
  have s3_0 : w.heap.size < w3.heap.size := Nat.lt_of_lt_of_le (by first | (simp; done) | (simp; omega) | omega) hb3.size
  have c3_0_0 : w3.cell? ⟨w.heap.size, 0, none⟩ = some (.int .i64 (40000)) := (hb3.cell (p := ⟨w.heap.size, 0, none⟩) (by first | (simp; done) | (simp; omega) | omega)).trans (by go_simp)
  have c3_0_1 : w3.cell? ⟨w.heap.size, 1, none⟩ = some (.int .i64 (12)) := (hb3.cell (p := ⟨w.heap.size, 1, none⟩) (by first | (simp; done) | (simp; omega) | omega)).trans (by go_simp)
  have c3_0_2 : w3.cell? ⟨w.heap.size, 2, none⟩ = some (.int .i64 (31)) := (hb3.cell (p := ⟨w.heap.size, 2, none⟩) (by first | (simp; done) | (simp; omega) | omega)).trans (by go_simp)
  have s3_1 : w.heap.size + 1 < w3.heap.size := Nat.lt_of_lt_of_le (by first | (simp; done) | (simp; omega) | omega) hb3.size
  have c3_1_0 : w3.cell? ⟨w.heap.size + 1, 0, none⟩ = some (.int .i64 (y')) := (hb3.cell (p := ⟨w.heap.size + 1, 0, none⟩) (by first | (simp; done) | (simp; omega) | omega)).trans (by go_simp)
  have c3_1_1 : w3.cell? ⟨w.heap.size + 1, 1, none⟩ = some (.int .i64 (m')) := (hb3.cell (p := ⟨w.heap.size + 1, 1, none⟩) (by first | (simp; done) | (simp; omega) | omega)).trans (by go_simp)
  have c3_1_2 : w3.cell? ⟨w.heap.size + 1, 2, none⟩ = some (.int .i64 (d')) := (hb3.cell (p := ⟨w.heap.size + 1, 2, none⟩) (by first | (simp; done) | (simp; omega) | omega)).trans (by go_simp)
  clear hb3 B2 c2_0_0 c2_0_1 c2_0_2 c2_1_0 c2_1_1 c2_1_2
  go_wp2_with fail
  have Bx1 : Below w.heap.size w w3 := by (focus (repeat' (first | assumption | exact Below.refl _ _ | refine Below.alloc ?_ ?_ _ | refine Below.setCell ?_ ?_ _ | refine Below.drew ?_ | refine below_drewN ?_ _ | refine Below.trans ?_ (Below.mono (by assumption) ?_) | refine Below.trans ?_ (Below.mono (BW.below _) ?_) | (simp; done) | (simp; omega) | omega)))
  have nx1 : w.heap.size ≤ w3.heap.size := Bx1.size
  have sx1_0 : w.heap.size < w3.heap.size := (by first | (simp; done) | (simp; omega) | omega)
  have cx1_0_0 : w3.cell? ⟨w.heap.size, 0, none⟩ = some (.int .i64 (40000)) := by go_simp
  have cx1_0_1 : w3.cell? ⟨w.heap.size, 1, none⟩ = some (.int .i64 (12)) := by go_simp
  have cx1_0_2 : w3.cell? ⟨w.heap.size, 2, none⟩ = some (.int .i64 (31)) := by go_simp
  have sx1_1 : w.heap.size + 1 < w3.heap.size := (by first | (simp; done) | (simp; omega) | omega)
  have cx1_1_0 : w3.cell? ⟨w.heap.size + 1, 0, none⟩ = some (.int .i64 (y')) := by go_simp
  have cx1_1_1 : w3.cell? ⟨w.heap.size + 1, 1, none⟩ = some (.int .i64 (m')) := by go_simp
  have cx1_1_2 : w3.cell? ⟨w.heap.size + 1, 2, none⟩ = some (.int .i64 (d')) := by go_simp
  clear B3 c3_0_0 c3_0_1 c3_0_2 c3_1_0 c3_1_1 c3_1_2
  generalize w3 = x1 at *
  try dsimp only [List.append]
  refine wp_region_bw (by kernel_rfl) (by kernel_rfl) ?_; (repeat (go_big_quiet_step ((go_at_call 58; first | with_reducible exact bw_call (hC1 _) | with_reducible exact bw_call (hC2 _))))); refine wpQuiet_nil ?_; intro _ hw'; obtain ⟨xq, hw''⟩ := hw'; subst hw''
  have Bx2 : Below w.heap.size w xq.val := Bx1.trans (xq.below.mono nx1)
  have nx2 : w.heap.size ≤ xq.val.heap.size := Bx2.size
  have sx2_0 : w.heap.size < xq.val.heap.size := Nat.lt_of_lt_of_le (by first | (simp; done) | (simp; omega) | omega) xq.below.size
  have cx2_0_0 : xq.val.cell? ⟨w.heap.size, 0, none⟩ = some (.int .i64 (40000)) := (xq.cell (w.heap.size) 0 (by first | (simp; done) | (simp; omega) | omega)).trans (by go_simp)
  have cx2_0_1 : xq.val.cell? ⟨w.heap.size, 1, none⟩ = some (.int .i64 (12)) := (xq.cell (w.heap.size) 1 (by first | (simp; done) | (simp; omega) | omega)).trans (by go_simp)
  have cx2_0_2 : xq.val.cell? ⟨w.heap.size, 2, none⟩ = some (.int .i64 (31)) := (xq.cell (w.heap.size) 2 (by first | (simp; done) | (simp; omega) | omega)).trans (by go_simp)
  clear Bx1 cx1_0_0 cx1_0_1 cx1_0_2 cx1_1_0 cx1_1_1 cx1_1_2
  generalize xq.val = x2 at *
  go_wp2_with fail
  have Bx3 : Below w.heap.size w (x2.alloc (.cells #[.int .i64 (40000), .int .i64 (12), .int .i64 (32)] 48)) := by (focus (repeat' (first | assumption | exact Below.refl _ _ | refine Below.alloc ?_ ?_ _ | refine Below.setCell ?_ ?_ _ | refine Below.drew ?_ | refine below_drewN ?_ _ | refine Below.trans ?_ (Below.mono (by assumption) ?_) | refine Below.trans ?_ (Below.mono (BW.below _) ?_) | (simp; done) | (simp; omega) | omega)))
  have nx3 : w.heap.size ≤ (x2.alloc (.cells #[.int .i64 (40000), .int .i64 (12), .int .i64 (32)] 48)).heap.size := Bx3.size
  have sx3_0 : w.heap.size < (x2.alloc (.cells #[.int .i64 (40000), .int .i64 (12), .int .i64 (32)] 48)).heap.size := (by first | (simp; done) | (simp; omega) | omega)
  have cx3_0_0 : (x2.alloc (.cells #[.int .i64 (40000), .int .i64 (12), .int .i64 (32)] 48)).cell? ⟨w.heap.size, 0, none⟩ = some (.int .i64 (40000)) := by go_simp
  have cx3_0_1 : (x2.alloc (.cells #[.int .i64 (40000), .int .i64 (12), .int .i64 (32)] 48)).cell? ⟨w.heap.size, 1, none⟩ = some (.int .i64 (12)) := by go_simp
  have cx3_0_2 : (x2.alloc (.cells #[.int .i64 (40000), .int .i64 (12), .int .i64 (32)] 48)).cell? ⟨w.heap.size, 2, none⟩ = some (.int .i64 (31)) := by go_simp
  have sx3_1 : x2.heap.size < (x2.alloc (.cells #[.int .i64 (40000), .int .i64 (12), .int .i64 (32)] 48)).heap.size := (by first | (simp; done) | (simp; omega) | omega)
  have cx3_1_0 : (x2.alloc (.cells #[.int .i64 (40000), .int .i64 (12), .int .i64 (32)] 48)).cell? ⟨x2.heap.size, 0, none⟩ = some (.int .i64 (40000)) := by go_simp
  have cx3_1_1 : (x2.alloc (.cells #[.int .i64 (40000), .int .i64 (12), .int .i64 (32)] 48)).cell? ⟨x2.heap.size, 1, none⟩ = some (.int .i64 (12)) := by go_simp
  have cx3_1_2 : (x2.alloc (.cells #[.int .i64 (40000), .int .i64 (12), .int .i64 (32)] 48)).cell? ⟨x2.heap.size, 2, none⟩ = some (.int .i64 (32)) := by go_simp
  have fx3_1_0 : (x2.alloc (.cells #[.int .i64 (40000), .int .i64 (12), .int .i64 (32)] 48)).frozen? ⟨x2.heap.size, 0, none⟩ = false := by go_simp
  have fx3_1_1 : (x2.alloc (.cells #[.int .i64 (40000), .int .i64 (12), .int .i64 (32)] 48)).frozen? ⟨x2.heap.size, 1, none⟩ = false := by go_simp
  have fx3_1_2 : (x2.alloc (.cells #[.int .i64 (40000), .int .i64 (12), .int .i64 (32)] 48)).frozen? ⟨x2.heap.size, 2, none⟩ = false := by go_simp
  clear Bx2 cx2_0_0 cx2_0_1 cx2_0_2
  generalize (x2.alloc (.cells #[.int .i64 (40000), .int .i64 (12), .int .i64 (32)] 48)) = x3 at *
  try dsimp only [List.append]
  refine wp_region_bw (by kernel_rfl) (by kernel_rfl) ?_; (repeat (go_big_quiet_step ((go_at_call 52; with_reducible exact bw_same (hL _))))); refine wpQuiet_nil ?_; intro _ hw'; obtain ⟨xq, hw''⟩ := hw'; subst hw''
  have Bx4 : Below w.heap.size w xq.val := Bx3.trans (xq.below.mono nx3)
  have nx4 : w.heap.size ≤ xq.val.heap.size := Bx4.size
  have sx4_0 : w.heap.size < xq.val.heap.size := Nat.lt_of_lt_of_le (by first | (simp; done) | (simp; omega) | omega) xq.below.size
  have cx4_0_0 : xq.val.cell? ⟨w.heap.size, 0, none⟩ = some (.int .i64 (40000)) := (xq.cell (w.heap.size) 0 (by first | (simp; done) | (simp; omega) | omega)).trans (by go_simp)
  have cx4_0_1 : xq.val.cell? ⟨w.heap.size, 1, none⟩ = some (.int .i64 (12)) := (xq.cell (w.heap.size) 1 (by first | (simp; done) | (simp; omega) | omega)).trans (by go_simp)
  have cx4_0_2 : xq.val.cell? ⟨w.heap.size, 2, none⟩ = some (.int .i64 (31)) := (xq.cell (w.heap.size) 2 (by first | (simp; done) | (simp; omega) | omega)).trans (by go_simp)
  have sx4_1 : x2.heap.size < xq.val.heap.size := Nat.lt_of_lt_of_le (by first | (simp; done) | (simp; omega) | omega) xq.below.size
  have cx4_1_0 : xq.val.cell? ⟨x2.heap.size, 0, none⟩ = some (.int .i64 (40000)) := (xq.cell (x2.heap.size) 0 (by first | (simp; done) | (simp; omega) | omega)).trans (by go_simp)
  have fx4_1_0 : xq.val.frozen? ⟨x2.heap.size, 0, none⟩ = false := (xq.frozen (x2.heap.size) 0 (by first | (simp; done) | (simp; omega) | omega)).trans (by go_simp)
  have cx4_1_1 : xq.val.cell? ⟨x2.heap.size, 1, none⟩ = some (.int .i64 (12)) := (xq.cell (x2.heap.size) 1 (by first | (simp; done) | (simp; omega) | omega)).trans (by go_simp)
  have fx4_1_1 : xq.val.frozen? ⟨x2.heap.size, 1, none⟩ = false := (xq.frozen (x2.heap.size) 1 (by first | (simp; done) | (simp; omega) | omega)).trans (by go_simp)
  have cx4_1_2 : xq.val.cell? ⟨x2.heap.size, 2, none⟩ = some (.int .i64 (32)) := (xq.cell (x2.heap.size) 2 (by first | (simp; done) | (simp; omega) | omega)).trans (by go_simp)
  have fx4_1_2 : xq.val.frozen? ⟨x2.heap.size, 2, none⟩ = false := (xq.frozen (x2.heap.size) 2 (by first | (simp; done) | (simp; omega) | omega)).trans (by go_simp)
  clear Bx3 cx3_0_0 cx3_0_1 cx3_0_2 cx3_1_0 cx3_1_1 cx3_1_2 fx3_1_0 fx3_1_1 fx3_1_2
  generalize xq.val = x4 at *
  go_wp2_with fail
  refine (hN _).mono ?_
  rintro e w4 ⟨rfl, hb4⟩
  have B4 : Below w.heap.size w w4 := by (focus (repeat' (first | assumption | exact Below.refl _ _ | refine Below.alloc ?_ ?_ _ | refine Below.setCell ?_ ?_ _ | refine Below.drew ?_ | refine below_drewN ?_ _ | refine Below.trans ?_ (Below.mono (by assumption) ?_) | refine Below.trans ?_ (Below.mono (BW.below _) ?_) | (simp; done) | (simp; omega) | omega)))
  have n4 : w.heap.size ≤ w4.heap.size := B4.size
  have s4_0 : w.heap.size < w4.heap.size := Nat.lt_of_lt_of_le (by first | (simp; done) | (simp; omega) | omega) hb4.size
  have c4_0_0 : w4.cell? ⟨w.heap.size, 0, none⟩ = some (.int .i64 (40000)) := (hb4.cell (p := ⟨w.heap.size, 0, none⟩) (by first | (simp; done) | (simp; omega) | omega)).trans (by go_simp)
  have c4_0_1 : w4.cell? ⟨w.heap.size, 1, none⟩ = some (.int .i64 (12)) := (hb4.cell (p := ⟨w.heap.size, 1, none⟩) (by first | (simp; done) | (simp; omega) | omega)).trans (by go_simp)
  have c4_0_2 : w4.cell? ⟨w.heap.size, 2, none⟩ = some (.int .i64 (31)) := (hb4.cell (p := ⟨w.heap.size, 2, none⟩) (by first | (simp; done) | (simp; omega) | omega)).trans (by go_simp)
  have s4_1 : x2.heap.size < w4.heap.size := Nat.lt_of_lt_of_le (by first | (simp; done) | (simp; omega) | omega) hb4.size
  have c4_1_0 : w4.cell? ⟨x2.heap.size, 0, none⟩ = some (.int .i64 (40001)) := (hb4.cell (p := ⟨x2.heap.size, 0, none⟩) (by first | (simp; done) | (simp; omega) | omega)).trans (by go_simp)
  have c4_1_1 : w4.cell? ⟨x2.heap.size, 1, none⟩ = some (.int .i64 1) := (hb4.cell (p := ⟨x2.heap.size, 1, none⟩) (by first | (simp; done) | (simp; omega) | omega)).trans (by go_simp)
  have c4_1_2 : w4.cell? ⟨x2.heap.size, 2, none⟩ = some (.int .i64 1) := (hb4.cell (p := ⟨x2.heap.size, 2, none⟩) (by first | (simp; done) | (simp; omega) | omega)).trans (by go_simp)
  have f4_1_0 : w4.frozen? ⟨x2.heap.size, 0, none⟩ = false := (hb4.frozen (p := ⟨x2.heap.size, 0, none⟩) (by first | (simp; done) | (simp; omega) | omega)).trans (by go_simp)
  have f4_1_1 : w4.frozen? ⟨x2.heap.size, 1, none⟩ = false := (hb4.frozen (p := ⟨x2.heap.size, 1, none⟩) (by first | (simp; done) | (simp; omega) | omega)).trans (by go_simp)
  have f4_1_2 : w4.frozen? ⟨x2.heap.size, 2, none⟩ = false := (hb4.frozen (p := ⟨x2.heap.size, 2, none⟩) (by first | (simp; done) | (simp; omega) | omega)).trans (by go_simp)
  clear hb4 Bx4 cx4_0_0 cx4_0_1 cx4_0_2 cx4_1_0 fx4_1_0 cx4_1_1 fx4_1_1 cx4_1_2 fx4_1_2
  go_wp2_with fail
  go_ret
  exact ⟨rfl, by (focus (repeat' (first | assumption | exact Below.refl _ _ | refine Below.alloc ?_ ?_ _ | refine Below.setCell ?_ ?_ _ | refine Below.drew ?_ | refine below_drewN ?_ _ | refine Below.trans ?_ (Below.mono (by assumption) ?_) | refine Below.trans ?_ (Below.mono (BW.below _) ?_) | (simp; done) | (simp; omega) | omega)))⟩
set_option maxRecDepth 100000 in
set_option maxHeartbeats 8000000 in
theorem CivilSteps_eqa (y m d : Int) (ky : I64 y) (h : rightB y m d = true) (hc : cmp3 y m d y m d = 0) (hs : d + 1 ≤ mlen y m) (w : World) : Calls Try.prog 9 #[dat y m d, dat y m d] w fun e w' => e = .returned (.bool true) ∧ Below w.heap.size w w' := by
  have hc1 := hc
  have hD := fun w => civil_Days y m d ky w
  rw [(days_y h).1, (days_y h).2.1] at hD
  have hC1 := fun w => civil_Compare y m d y m d w
  rw [hc] at hC1
  have r := (right_iff y m d).1 h
  obtain ⟨ry0, ry1, rm0, rm1, rd0, rd1⟩ := r
  have ml := mlen_bd y m
  have ll := lp_01 y
  have hn : rightB (y) (m) (d + 1) = true := (right_iff _ _ _).2 (by omega)
  have kn : I64 (y) := I64.sm (by omega)
  have hN := fun w => civil_Days (y) (m) (d + 1) kn w
  rw [(days_y hn).1, (days_y hn).2.1] at hN
  have hP := fun w => civil_YearDay y m d ky w
  rw [(days_y h).2.2, (days_y h).2.1] at hP
  have hQ := fun w => civil_YearDay (y) (m) (d + 1) kn w
  rw [(days_y hn).2.2, (days_y hn).2.1] at hQ
  rw [show numb y m (d + 1) = numb y m d + 1 from by unfold numb; omega] at hN
  rw [show cum y m + (d + 1) = cum y m + d + 1 from by omega] at hQ
  have cb := cum_bd y m rm0 rm1
  obtain ⟨nb0, nb1⟩ := numb_bd y m d (by omega)
  generalize cum y m = cu at *
  obtain ⟨cb0, cb1, cb2⟩ := cb
  generalize numb y m d = N at *
  have kN : I64 N := I64.sm (by omega)
  have kN1 : I64 (N + 1) := I64.sm (by omega)
  have hW := fun w => civil_Weekday N kN w
  have hW1 := fun w => civil_Weekday (N + 1) kN1 w
  rw [wday_succ] at hW1
  obtain ⟨wb0, wb1⟩ := wday_bd N
  generalize wday N = wd at *
  have hL := fun w => civil_Len y m ky w
  generalize mlen y m = L at *
  clear h hc hc1
  clear hn ml
  go_enter Try.func9, Try.ntmps9
  go_wp2_with fail
  refine (civ_lives _).mono ?_
  rintro e w1 ⟨rfl, hb1⟩
  have B1 : Below w.heap.size w w1 := by (focus (repeat' (first | assumption | exact Below.refl _ _ | refine Below.alloc ?_ ?_ _ | refine Below.setCell ?_ ?_ _ | refine Below.drew ?_ | refine below_drewN ?_ _ | refine Below.trans ?_ (Below.mono (by assumption) ?_) | refine Below.trans ?_ (Below.mono (BW.below _) ?_) | (simp; done) | (simp; omega) | omega)))
  have n1 : w.heap.size ≤ w1.heap.size := B1.size
  have s1_0 : w.heap.size < w1.heap.size := Nat.lt_of_lt_of_le (by first | (simp; done) | (simp; omega) | omega) hb1.size
  have c1_0_0 : w1.cell? ⟨w.heap.size, 0, none⟩ = some (.int .i64 (y)) := (hb1.cell (p := ⟨w.heap.size, 0, none⟩) (by first | (simp; done) | (simp; omega) | omega)).trans (by go_simp)
  have c1_0_1 : w1.cell? ⟨w.heap.size, 1, none⟩ = some (.int .i64 (m)) := (hb1.cell (p := ⟨w.heap.size, 1, none⟩) (by first | (simp; done) | (simp; omega) | omega)).trans (by go_simp)
  have c1_0_2 : w1.cell? ⟨w.heap.size, 2, none⟩ = some (.int .i64 (d)) := (hb1.cell (p := ⟨w.heap.size, 2, none⟩) (by first | (simp; done) | (simp; omega) | omega)).trans (by go_simp)
  have s1_1 : w.heap.size + 1 < w1.heap.size := Nat.lt_of_lt_of_le (by first | (simp; done) | (simp; omega) | omega) hb1.size
  have c1_1_0 : w1.cell? ⟨w.heap.size + 1, 0, none⟩ = some (.int .i64 (y)) := (hb1.cell (p := ⟨w.heap.size + 1, 0, none⟩) (by first | (simp; done) | (simp; omega) | omega)).trans (by go_simp)
  have c1_1_1 : w1.cell? ⟨w.heap.size + 1, 1, none⟩ = some (.int .i64 (m)) := (hb1.cell (p := ⟨w.heap.size + 1, 1, none⟩) (by first | (simp; done) | (simp; omega) | omega)).trans (by go_simp)
  have c1_1_2 : w1.cell? ⟨w.heap.size + 1, 2, none⟩ = some (.int .i64 (d)) := (hb1.cell (p := ⟨w.heap.size + 1, 2, none⟩) (by first | (simp; done) | (simp; omega) | omega)).trans (by go_simp)
  clear hb1
  go_wp2_with fail
  refine (hD _).mono ?_
  rintro e w2 ⟨rfl, hb2⟩
  have B2 : Below w.heap.size w w2 := by (focus (repeat' (first | assumption | exact Below.refl _ _ | refine Below.alloc ?_ ?_ _ | refine Below.setCell ?_ ?_ _ | refine Below.drew ?_ | refine below_drewN ?_ _ | refine Below.trans ?_ (Below.mono (by assumption) ?_) | refine Below.trans ?_ (Below.mono (BW.below _) ?_) | (simp; done) | (simp; omega) | omega)))
  have n2 : w.heap.size ≤ w2.heap.size := B2.size
  have s2_0 : w.heap.size < w2.heap.size := Nat.lt_of_lt_of_le (by first | (simp; done) | (simp; omega) | omega) hb2.size
  have c2_0_0 : w2.cell? ⟨w.heap.size, 0, none⟩ = some (.int .i64 (y)) := (hb2.cell (p := ⟨w.heap.size, 0, none⟩) (by first | (simp; done) | (simp; omega) | omega)).trans (by go_simp)
  have c2_0_1 : w2.cell? ⟨w.heap.size, 1, none⟩ = some (.int .i64 (m)) := (hb2.cell (p := ⟨w.heap.size, 1, none⟩) (by first | (simp; done) | (simp; omega) | omega)).trans (by go_simp)
  have c2_0_2 : w2.cell? ⟨w.heap.size, 2, none⟩ = some (.int .i64 (d)) := (hb2.cell (p := ⟨w.heap.size, 2, none⟩) (by first | (simp; done) | (simp; omega) | omega)).trans (by go_simp)
  have s2_1 : w.heap.size + 1 < w2.heap.size := Nat.lt_of_lt_of_le (by first | (simp; done) | (simp; omega) | omega) hb2.size
  have c2_1_0 : w2.cell? ⟨w.heap.size + 1, 0, none⟩ = some (.int .i64 (y)) := (hb2.cell (p := ⟨w.heap.size + 1, 0, none⟩) (by first | (simp; done) | (simp; omega) | omega)).trans (by go_simp)
  have c2_1_1 : w2.cell? ⟨w.heap.size + 1, 1, none⟩ = some (.int .i64 (m)) := (hb2.cell (p := ⟨w.heap.size + 1, 1, none⟩) (by first | (simp; done) | (simp; omega) | omega)).trans (by go_simp)
  have c2_1_2 : w2.cell? ⟨w.heap.size + 1, 2, none⟩ = some (.int .i64 (d)) := (hb2.cell (p := ⟨w.heap.size + 1, 2, none⟩) (by first | (simp; done) | (simp; omega) | omega)).trans (by go_simp)
  clear hb2 B1 c1_0_0 c1_0_1 c1_0_2 c1_1_0 c1_1_1 c1_1_2
  go_wp2_with fail
  refine (hD _).mono ?_
  rintro e w3 ⟨rfl, hb3⟩
  have B3 : Below w.heap.size w w3 := by (focus (repeat' (first | assumption | exact Below.refl _ _ | refine Below.alloc ?_ ?_ _ | refine Below.setCell ?_ ?_ _ | refine Below.drew ?_ | refine below_drewN ?_ _ | refine Below.trans ?_ (Below.mono (by assumption) ?_) | refine Below.trans ?_ (Below.mono (BW.below _) ?_) | (simp; done) | (simp; omega) | omega)))
  have n3 : w.heap.size ≤ w3.heap.size := B3.size
  have s3_0 : w.heap.size < w3.heap.size := Nat.lt_of_lt_of_le (by first | (simp; done) | (simp; omega) | omega) hb3.size
  have c3_0_0 : w3.cell? ⟨w.heap.size, 0, none⟩ = some (.int .i64 (y)) := (hb3.cell (p := ⟨w.heap.size, 0, none⟩) (by first | (simp; done) | (simp; omega) | omega)).trans (by go_simp)
  have c3_0_1 : w3.cell? ⟨w.heap.size, 1, none⟩ = some (.int .i64 (m)) := (hb3.cell (p := ⟨w.heap.size, 1, none⟩) (by first | (simp; done) | (simp; omega) | omega)).trans (by go_simp)
  have c3_0_2 : w3.cell? ⟨w.heap.size, 2, none⟩ = some (.int .i64 (d)) := (hb3.cell (p := ⟨w.heap.size, 2, none⟩) (by first | (simp; done) | (simp; omega) | omega)).trans (by go_simp)
  have s3_1 : w.heap.size + 1 < w3.heap.size := Nat.lt_of_lt_of_le (by first | (simp; done) | (simp; omega) | omega) hb3.size
  have c3_1_0 : w3.cell? ⟨w.heap.size + 1, 0, none⟩ = some (.int .i64 (y)) := (hb3.cell (p := ⟨w.heap.size + 1, 0, none⟩) (by first | (simp; done) | (simp; omega) | omega)).trans (by go_simp)
  have c3_1_1 : w3.cell? ⟨w.heap.size + 1, 1, none⟩ = some (.int .i64 (m)) := (hb3.cell (p := ⟨w.heap.size + 1, 1, none⟩) (by first | (simp; done) | (simp; omega) | omega)).trans (by go_simp)
  have c3_1_2 : w3.cell? ⟨w.heap.size + 1, 2, none⟩ = some (.int .i64 (d)) := (hb3.cell (p := ⟨w.heap.size + 1, 2, none⟩) (by first | (simp; done) | (simp; omega) | omega)).trans (by go_simp)
  clear hb3 B2 c2_0_0 c2_0_1 c2_0_2 c2_1_0 c2_1_1 c2_1_2
  go_wp2_with fail
  have Bx1 : Below w.heap.size w w3 := by (focus (repeat' (first | assumption | exact Below.refl _ _ | refine Below.alloc ?_ ?_ _ | refine Below.setCell ?_ ?_ _ | refine Below.drew ?_ | refine below_drewN ?_ _ | refine Below.trans ?_ (Below.mono (by assumption) ?_) | refine Below.trans ?_ (Below.mono (BW.below _) ?_) | (simp; done) | (simp; omega) | omega)))
  have nx1 : w.heap.size ≤ w3.heap.size := Bx1.size
  have sx1_0 : w.heap.size < w3.heap.size := (by first | (simp; done) | (simp; omega) | omega)
  have cx1_0_0 : w3.cell? ⟨w.heap.size, 0, none⟩ = some (.int .i64 (y)) := by go_simp
  have cx1_0_1 : w3.cell? ⟨w.heap.size, 1, none⟩ = some (.int .i64 (m)) := by go_simp
  have cx1_0_2 : w3.cell? ⟨w.heap.size, 2, none⟩ = some (.int .i64 (d)) := by go_simp
  have sx1_1 : w.heap.size + 1 < w3.heap.size := (by first | (simp; done) | (simp; omega) | omega)
  have cx1_1_0 : w3.cell? ⟨w.heap.size + 1, 0, none⟩ = some (.int .i64 (y)) := by go_simp
  have cx1_1_1 : w3.cell? ⟨w.heap.size + 1, 1, none⟩ = some (.int .i64 (m)) := by go_simp
  have cx1_1_2 : w3.cell? ⟨w.heap.size + 1, 2, none⟩ = some (.int .i64 (d)) := by go_simp
  clear B3 c3_0_0 c3_0_1 c3_0_2 c3_1_0 c3_1_1 c3_1_2
  generalize w3 = x1 at *
  try dsimp only [List.append]
  refine wp_region_bw (by kernel_rfl) (by kernel_rfl) ?_; (repeat (go_big_quiet_step ((go_at_call 58; with_reducible exact bw_call (hC1 _))))); refine wpQuiet_nil ?_; intro _ hw'; obtain ⟨xq, hw''⟩ := hw'; subst hw''
  have Bx2 : Below w.heap.size w xq.val := Bx1.trans (xq.below.mono nx1)
  have nx2 : w.heap.size ≤ xq.val.heap.size := Bx2.size
  have sx2_0 : w.heap.size < xq.val.heap.size := Nat.lt_of_lt_of_le (by first | (simp; done) | (simp; omega) | omega) xq.below.size
  have cx2_0_0 : xq.val.cell? ⟨w.heap.size, 0, none⟩ = some (.int .i64 (y)) := (xq.cell (w.heap.size) 0 (by first | (simp; done) | (simp; omega) | omega)).trans (by go_simp)
  have cx2_0_1 : xq.val.cell? ⟨w.heap.size, 1, none⟩ = some (.int .i64 (m)) := (xq.cell (w.heap.size) 1 (by first | (simp; done) | (simp; omega) | omega)).trans (by go_simp)
  have cx2_0_2 : xq.val.cell? ⟨w.heap.size, 2, none⟩ = some (.int .i64 (d)) := (xq.cell (w.heap.size) 2 (by first | (simp; done) | (simp; omega) | omega)).trans (by go_simp)
  clear Bx1 cx1_0_0 cx1_0_1 cx1_0_2 cx1_1_0 cx1_1_1 cx1_1_2
  generalize xq.val = x2 at *
  go_wp2_with fail
  have Bx3 : Below w.heap.size w (x2.alloc (.cells #[.int .i64 (y), .int .i64 (m), .int .i64 (d + 1)] 48)) := by (focus (repeat' (first | assumption | exact Below.refl _ _ | refine Below.alloc ?_ ?_ _ | refine Below.setCell ?_ ?_ _ | refine Below.drew ?_ | refine below_drewN ?_ _ | refine Below.trans ?_ (Below.mono (by assumption) ?_) | refine Below.trans ?_ (Below.mono (BW.below _) ?_) | (simp; done) | (simp; omega) | omega)))
  have nx3 : w.heap.size ≤ (x2.alloc (.cells #[.int .i64 (y), .int .i64 (m), .int .i64 (d + 1)] 48)).heap.size := Bx3.size
  have sx3_0 : w.heap.size < (x2.alloc (.cells #[.int .i64 (y), .int .i64 (m), .int .i64 (d + 1)] 48)).heap.size := (by first | (simp; done) | (simp; omega) | omega)
  have cx3_0_0 : (x2.alloc (.cells #[.int .i64 (y), .int .i64 (m), .int .i64 (d + 1)] 48)).cell? ⟨w.heap.size, 0, none⟩ = some (.int .i64 (y)) := by go_simp
  have cx3_0_1 : (x2.alloc (.cells #[.int .i64 (y), .int .i64 (m), .int .i64 (d + 1)] 48)).cell? ⟨w.heap.size, 1, none⟩ = some (.int .i64 (m)) := by go_simp
  have cx3_0_2 : (x2.alloc (.cells #[.int .i64 (y), .int .i64 (m), .int .i64 (d + 1)] 48)).cell? ⟨w.heap.size, 2, none⟩ = some (.int .i64 (d)) := by go_simp
  have sx3_1 : x2.heap.size < (x2.alloc (.cells #[.int .i64 (y), .int .i64 (m), .int .i64 (d + 1)] 48)).heap.size := (by first | (simp; done) | (simp; omega) | omega)
  have cx3_1_0 : (x2.alloc (.cells #[.int .i64 (y), .int .i64 (m), .int .i64 (d + 1)] 48)).cell? ⟨x2.heap.size, 0, none⟩ = some (.int .i64 (y)) := by go_simp
  have cx3_1_1 : (x2.alloc (.cells #[.int .i64 (y), .int .i64 (m), .int .i64 (d + 1)] 48)).cell? ⟨x2.heap.size, 1, none⟩ = some (.int .i64 (m)) := by go_simp
  have cx3_1_2 : (x2.alloc (.cells #[.int .i64 (y), .int .i64 (m), .int .i64 (d + 1)] 48)).cell? ⟨x2.heap.size, 2, none⟩ = some (.int .i64 (d + 1)) := by go_simp
  have fx3_1_0 : (x2.alloc (.cells #[.int .i64 (y), .int .i64 (m), .int .i64 (d + 1)] 48)).frozen? ⟨x2.heap.size, 0, none⟩ = false := by go_simp
  have fx3_1_1 : (x2.alloc (.cells #[.int .i64 (y), .int .i64 (m), .int .i64 (d + 1)] 48)).frozen? ⟨x2.heap.size, 1, none⟩ = false := by go_simp
  have fx3_1_2 : (x2.alloc (.cells #[.int .i64 (y), .int .i64 (m), .int .i64 (d + 1)] 48)).frozen? ⟨x2.heap.size, 2, none⟩ = false := by go_simp
  clear Bx2 cx2_0_0 cx2_0_1 cx2_0_2
  generalize (x2.alloc (.cells #[.int .i64 (y), .int .i64 (m), .int .i64 (d + 1)] 48)) = x3 at *
  try dsimp only [List.append]
  refine wp_region_bw (by kernel_rfl) (by kernel_rfl) ?_; (repeat (go_big_quiet_step ((go_at_call 52; with_reducible exact bw_same (hL _))))); refine wpQuiet_nil ?_; intro _ hw'; obtain ⟨xq, hw''⟩ := hw'; subst hw''
  have Bx4 : Below w.heap.size w xq.val := Bx3.trans (xq.below.mono nx3)
  have nx4 : w.heap.size ≤ xq.val.heap.size := Bx4.size
  have sx4_0 : w.heap.size < xq.val.heap.size := Nat.lt_of_lt_of_le (by first | (simp; done) | (simp; omega) | omega) xq.below.size
  have cx4_0_0 : xq.val.cell? ⟨w.heap.size, 0, none⟩ = some (.int .i64 (y)) := (xq.cell (w.heap.size) 0 (by first | (simp; done) | (simp; omega) | omega)).trans (by go_simp)
  have cx4_0_1 : xq.val.cell? ⟨w.heap.size, 1, none⟩ = some (.int .i64 (m)) := (xq.cell (w.heap.size) 1 (by first | (simp; done) | (simp; omega) | omega)).trans (by go_simp)
  have cx4_0_2 : xq.val.cell? ⟨w.heap.size, 2, none⟩ = some (.int .i64 (d)) := (xq.cell (w.heap.size) 2 (by first | (simp; done) | (simp; omega) | omega)).trans (by go_simp)
  have sx4_1 : x2.heap.size < xq.val.heap.size := Nat.lt_of_lt_of_le (by first | (simp; done) | (simp; omega) | omega) xq.below.size
  have cx4_1_0 : xq.val.cell? ⟨x2.heap.size, 0, none⟩ = some (.int .i64 (y)) := (xq.cell (x2.heap.size) 0 (by first | (simp; done) | (simp; omega) | omega)).trans (by go_simp)
  have fx4_1_0 : xq.val.frozen? ⟨x2.heap.size, 0, none⟩ = false := (xq.frozen (x2.heap.size) 0 (by first | (simp; done) | (simp; omega) | omega)).trans (by go_simp)
  have cx4_1_1 : xq.val.cell? ⟨x2.heap.size, 1, none⟩ = some (.int .i64 (m)) := (xq.cell (x2.heap.size) 1 (by first | (simp; done) | (simp; omega) | omega)).trans (by go_simp)
  have fx4_1_1 : xq.val.frozen? ⟨x2.heap.size, 1, none⟩ = false := (xq.frozen (x2.heap.size) 1 (by first | (simp; done) | (simp; omega) | omega)).trans (by go_simp)
  have cx4_1_2 : xq.val.cell? ⟨x2.heap.size, 2, none⟩ = some (.int .i64 (d + 1)) := (xq.cell (x2.heap.size) 2 (by first | (simp; done) | (simp; omega) | omega)).trans (by go_simp)
  have fx4_1_2 : xq.val.frozen? ⟨x2.heap.size, 2, none⟩ = false := (xq.frozen (x2.heap.size) 2 (by first | (simp; done) | (simp; omega) | omega)).trans (by go_simp)
  clear Bx3 cx3_0_0 cx3_0_1 cx3_0_2 cx3_1_0 cx3_1_1 cx3_1_2 fx3_1_0 fx3_1_1 fx3_1_2
  generalize xq.val = x4 at *
  go_wp2_with fail
  refine (hN _).mono ?_
  rintro e w4 ⟨rfl, hb4⟩
  have B4 : Below w.heap.size w w4 := by (focus (repeat' (first | assumption | exact Below.refl _ _ | refine Below.alloc ?_ ?_ _ | refine Below.setCell ?_ ?_ _ | refine Below.drew ?_ | refine below_drewN ?_ _ | refine Below.trans ?_ (Below.mono (by assumption) ?_) | refine Below.trans ?_ (Below.mono (BW.below _) ?_) | (simp; done) | (simp; omega) | omega)))
  have n4 : w.heap.size ≤ w4.heap.size := B4.size
  have s4_0 : w.heap.size < w4.heap.size := Nat.lt_of_lt_of_le (by first | (simp; done) | (simp; omega) | omega) hb4.size
  have c4_0_0 : w4.cell? ⟨w.heap.size, 0, none⟩ = some (.int .i64 (y)) := (hb4.cell (p := ⟨w.heap.size, 0, none⟩) (by first | (simp; done) | (simp; omega) | omega)).trans (by go_simp)
  have c4_0_1 : w4.cell? ⟨w.heap.size, 1, none⟩ = some (.int .i64 (m)) := (hb4.cell (p := ⟨w.heap.size, 1, none⟩) (by first | (simp; done) | (simp; omega) | omega)).trans (by go_simp)
  have c4_0_2 : w4.cell? ⟨w.heap.size, 2, none⟩ = some (.int .i64 (d)) := (hb4.cell (p := ⟨w.heap.size, 2, none⟩) (by first | (simp; done) | (simp; omega) | omega)).trans (by go_simp)
  have s4_1 : x2.heap.size < w4.heap.size := Nat.lt_of_lt_of_le (by first | (simp; done) | (simp; omega) | omega) hb4.size
  have c4_1_0 : w4.cell? ⟨x2.heap.size, 0, none⟩ = some (.int .i64 (y)) := (hb4.cell (p := ⟨x2.heap.size, 0, none⟩) (by first | (simp; done) | (simp; omega) | omega)).trans (by go_simp)
  have c4_1_1 : w4.cell? ⟨x2.heap.size, 1, none⟩ = some (.int .i64 (m)) := (hb4.cell (p := ⟨x2.heap.size, 1, none⟩) (by first | (simp; done) | (simp; omega) | omega)).trans (by go_simp)
  have c4_1_2 : w4.cell? ⟨x2.heap.size, 2, none⟩ = some (.int .i64 (d + 1)) := (hb4.cell (p := ⟨x2.heap.size, 2, none⟩) (by first | (simp; done) | (simp; omega) | omega)).trans (by go_simp)
  have f4_1_0 : w4.frozen? ⟨x2.heap.size, 0, none⟩ = false := (hb4.frozen (p := ⟨x2.heap.size, 0, none⟩) (by first | (simp; done) | (simp; omega) | omega)).trans (by go_simp)
  have f4_1_1 : w4.frozen? ⟨x2.heap.size, 1, none⟩ = false := (hb4.frozen (p := ⟨x2.heap.size, 1, none⟩) (by first | (simp; done) | (simp; omega) | omega)).trans (by go_simp)
  have f4_1_2 : w4.frozen? ⟨x2.heap.size, 2, none⟩ = false := (hb4.frozen (p := ⟨x2.heap.size, 2, none⟩) (by first | (simp; done) | (simp; omega) | omega)).trans (by go_simp)
  clear hb4 Bx4 cx4_0_0 cx4_0_1 cx4_0_2 cx4_1_0 fx4_1_0 cx4_1_1 fx4_1_1 cx4_1_2 fx4_1_2
  go_wp2_with fail
  refine (hP _).mono ?_
  rintro e w5 ⟨rfl, hb5⟩
  have B5 : Below w.heap.size w w5 := by (focus (repeat' (first | assumption | exact Below.refl _ _ | refine Below.alloc ?_ ?_ _ | refine Below.setCell ?_ ?_ _ | refine Below.drew ?_ | refine below_drewN ?_ _ | refine Below.trans ?_ (Below.mono (by assumption) ?_) | refine Below.trans ?_ (Below.mono (BW.below _) ?_) | (simp; done) | (simp; omega) | omega)))
  have n5 : w.heap.size ≤ w5.heap.size := B5.size
  have s5_0 : w.heap.size < w5.heap.size := Nat.lt_of_lt_of_le (by first | (simp; done) | (simp; omega) | omega) hb5.size
  have c5_0_0 : w5.cell? ⟨w.heap.size, 0, none⟩ = some (.int .i64 (y)) := (hb5.cell (p := ⟨w.heap.size, 0, none⟩) (by first | (simp; done) | (simp; omega) | omega)).trans (by go_simp)
  have c5_0_1 : w5.cell? ⟨w.heap.size, 1, none⟩ = some (.int .i64 (m)) := (hb5.cell (p := ⟨w.heap.size, 1, none⟩) (by first | (simp; done) | (simp; omega) | omega)).trans (by go_simp)
  have c5_0_2 : w5.cell? ⟨w.heap.size, 2, none⟩ = some (.int .i64 (d)) := (hb5.cell (p := ⟨w.heap.size, 2, none⟩) (by first | (simp; done) | (simp; omega) | omega)).trans (by go_simp)
  have s5_1 : x2.heap.size < w5.heap.size := Nat.lt_of_lt_of_le (by first | (simp; done) | (simp; omega) | omega) hb5.size
  have c5_1_0 : w5.cell? ⟨x2.heap.size, 0, none⟩ = some (.int .i64 (y)) := (hb5.cell (p := ⟨x2.heap.size, 0, none⟩) (by first | (simp; done) | (simp; omega) | omega)).trans (by go_simp)
  have c5_1_1 : w5.cell? ⟨x2.heap.size, 1, none⟩ = some (.int .i64 (m)) := (hb5.cell (p := ⟨x2.heap.size, 1, none⟩) (by first | (simp; done) | (simp; omega) | omega)).trans (by go_simp)
  have c5_1_2 : w5.cell? ⟨x2.heap.size, 2, none⟩ = some (.int .i64 (d + 1)) := (hb5.cell (p := ⟨x2.heap.size, 2, none⟩) (by first | (simp; done) | (simp; omega) | omega)).trans (by go_simp)
  have f5_1_0 : w5.frozen? ⟨x2.heap.size, 0, none⟩ = false := (hb5.frozen (p := ⟨x2.heap.size, 0, none⟩) (by first | (simp; done) | (simp; omega) | omega)).trans (by go_simp)
  have f5_1_1 : w5.frozen? ⟨x2.heap.size, 1, none⟩ = false := (hb5.frozen (p := ⟨x2.heap.size, 1, none⟩) (by first | (simp; done) | (simp; omega) | omega)).trans (by go_simp)
  have f5_1_2 : w5.frozen? ⟨x2.heap.size, 2, none⟩ = false := (hb5.frozen (p := ⟨x2.heap.size, 2, none⟩) (by first | (simp; done) | (simp; omega) | omega)).trans (by go_simp)
  clear hb5 B4 c4_0_0 c4_0_1 c4_0_2 c4_1_0 c4_1_1 c4_1_2 f4_1_0 f4_1_1 f4_1_2
  go_wp2_with fail
  refine (hQ _).mono ?_
  rintro e w6 ⟨rfl, hb6⟩
  have B6 : Below w.heap.size w w6 := by (focus (repeat' (first | assumption | exact Below.refl _ _ | refine Below.alloc ?_ ?_ _ | refine Below.setCell ?_ ?_ _ | refine Below.drew ?_ | refine below_drewN ?_ _ | refine Below.trans ?_ (Below.mono (by assumption) ?_) | refine Below.trans ?_ (Below.mono (BW.below _) ?_) | (simp; done) | (simp; omega) | omega)))
  have n6 : w.heap.size ≤ w6.heap.size := B6.size
  have s6_0 : w.heap.size < w6.heap.size := Nat.lt_of_lt_of_le (by first | (simp; done) | (simp; omega) | omega) hb6.size
  have c6_0_0 : w6.cell? ⟨w.heap.size, 0, none⟩ = some (.int .i64 (y)) := (hb6.cell (p := ⟨w.heap.size, 0, none⟩) (by first | (simp; done) | (simp; omega) | omega)).trans (by go_simp)
  have c6_0_1 : w6.cell? ⟨w.heap.size, 1, none⟩ = some (.int .i64 (m)) := (hb6.cell (p := ⟨w.heap.size, 1, none⟩) (by first | (simp; done) | (simp; omega) | omega)).trans (by go_simp)
  have c6_0_2 : w6.cell? ⟨w.heap.size, 2, none⟩ = some (.int .i64 (d)) := (hb6.cell (p := ⟨w.heap.size, 2, none⟩) (by first | (simp; done) | (simp; omega) | omega)).trans (by go_simp)
  have s6_1 : x2.heap.size < w6.heap.size := Nat.lt_of_lt_of_le (by first | (simp; done) | (simp; omega) | omega) hb6.size
  have c6_1_0 : w6.cell? ⟨x2.heap.size, 0, none⟩ = some (.int .i64 (y)) := (hb6.cell (p := ⟨x2.heap.size, 0, none⟩) (by first | (simp; done) | (simp; omega) | omega)).trans (by go_simp)
  have c6_1_1 : w6.cell? ⟨x2.heap.size, 1, none⟩ = some (.int .i64 (m)) := (hb6.cell (p := ⟨x2.heap.size, 1, none⟩) (by first | (simp; done) | (simp; omega) | omega)).trans (by go_simp)
  have c6_1_2 : w6.cell? ⟨x2.heap.size, 2, none⟩ = some (.int .i64 (d + 1)) := (hb6.cell (p := ⟨x2.heap.size, 2, none⟩) (by first | (simp; done) | (simp; omega) | omega)).trans (by go_simp)
  have f6_1_0 : w6.frozen? ⟨x2.heap.size, 0, none⟩ = false := (hb6.frozen (p := ⟨x2.heap.size, 0, none⟩) (by first | (simp; done) | (simp; omega) | omega)).trans (by go_simp)
  have f6_1_1 : w6.frozen? ⟨x2.heap.size, 1, none⟩ = false := (hb6.frozen (p := ⟨x2.heap.size, 1, none⟩) (by first | (simp; done) | (simp; omega) | omega)).trans (by go_simp)
  have f6_1_2 : w6.frozen? ⟨x2.heap.size, 2, none⟩ = false := (hb6.frozen (p := ⟨x2.heap.size, 2, none⟩) (by first | (simp; done) | (simp; omega) | omega)).trans (by go_simp)
  clear hb6 B5 c5_0_0 c5_0_1 c5_0_2 c5_1_0 c5_1_1 c5_1_2 f5_1_0 f5_1_1 f5_1_2
  go_wp2_with fail
  refine (hW1 _).mono ?_
  rintro e w7 ⟨rfl, hb7⟩
  have B7 : Below w.heap.size w w7 := by (focus (repeat' (first | assumption | exact Below.refl _ _ | refine Below.alloc ?_ ?_ _ | refine Below.setCell ?_ ?_ _ | refine Below.drew ?_ | refine below_drewN ?_ _ | refine Below.trans ?_ (Below.mono (by assumption) ?_) | refine Below.trans ?_ (Below.mono (BW.below _) ?_) | (simp; done) | (simp; omega) | omega)))
  have n7 : w.heap.size ≤ w7.heap.size := B7.size
  have s7_0 : w.heap.size < w7.heap.size := Nat.lt_of_lt_of_le (by first | (simp; done) | (simp; omega) | omega) hb7.size
  have c7_0_0 : w7.cell? ⟨w.heap.size, 0, none⟩ = some (.int .i64 (y)) := (hb7.cell (p := ⟨w.heap.size, 0, none⟩) (by first | (simp; done) | (simp; omega) | omega)).trans (by go_simp)
  have c7_0_1 : w7.cell? ⟨w.heap.size, 1, none⟩ = some (.int .i64 (m)) := (hb7.cell (p := ⟨w.heap.size, 1, none⟩) (by first | (simp; done) | (simp; omega) | omega)).trans (by go_simp)
  have c7_0_2 : w7.cell? ⟨w.heap.size, 2, none⟩ = some (.int .i64 (d)) := (hb7.cell (p := ⟨w.heap.size, 2, none⟩) (by first | (simp; done) | (simp; omega) | omega)).trans (by go_simp)
  have s7_1 : x2.heap.size < w7.heap.size := Nat.lt_of_lt_of_le (by first | (simp; done) | (simp; omega) | omega) hb7.size
  have c7_1_0 : w7.cell? ⟨x2.heap.size, 0, none⟩ = some (.int .i64 (y)) := (hb7.cell (p := ⟨x2.heap.size, 0, none⟩) (by first | (simp; done) | (simp; omega) | omega)).trans (by go_simp)
  have c7_1_1 : w7.cell? ⟨x2.heap.size, 1, none⟩ = some (.int .i64 (m)) := (hb7.cell (p := ⟨x2.heap.size, 1, none⟩) (by first | (simp; done) | (simp; omega) | omega)).trans (by go_simp)
  have c7_1_2 : w7.cell? ⟨x2.heap.size, 2, none⟩ = some (.int .i64 (d + 1)) := (hb7.cell (p := ⟨x2.heap.size, 2, none⟩) (by first | (simp; done) | (simp; omega) | omega)).trans (by go_simp)
  have f7_1_0 : w7.frozen? ⟨x2.heap.size, 0, none⟩ = false := (hb7.frozen (p := ⟨x2.heap.size, 0, none⟩) (by first | (simp; done) | (simp; omega) | omega)).trans (by go_simp)
  have f7_1_1 : w7.frozen? ⟨x2.heap.size, 1, none⟩ = false := (hb7.frozen (p := ⟨x2.heap.size, 1, none⟩) (by first | (simp; done) | (simp; omega) | omega)).trans (by go_simp)
  have f7_1_2 : w7.frozen? ⟨x2.heap.size, 2, none⟩ = false := (hb7.frozen (p := ⟨x2.heap.size, 2, none⟩) (by first | (simp; done) | (simp; omega) | omega)).trans (by go_simp)
  clear hb7 B6 c6_0_0 c6_0_1 c6_0_2 c6_1_0 c6_1_1 c6_1_2 f6_1_0 f6_1_1 f6_1_2
  go_wp2_with fail
  refine (hW _).mono ?_
  rintro e w8 ⟨rfl, hb8⟩
  have B8 : Below w.heap.size w w8 := by (focus (repeat' (first | assumption | exact Below.refl _ _ | refine Below.alloc ?_ ?_ _ | refine Below.setCell ?_ ?_ _ | refine Below.drew ?_ | refine below_drewN ?_ _ | refine Below.trans ?_ (Below.mono (by assumption) ?_) | refine Below.trans ?_ (Below.mono (BW.below _) ?_) | (simp; done) | (simp; omega) | omega)))
  have n8 : w.heap.size ≤ w8.heap.size := B8.size
  have s8_0 : w.heap.size < w8.heap.size := Nat.lt_of_lt_of_le (by first | (simp; done) | (simp; omega) | omega) hb8.size
  have c8_0_0 : w8.cell? ⟨w.heap.size, 0, none⟩ = some (.int .i64 (y)) := (hb8.cell (p := ⟨w.heap.size, 0, none⟩) (by first | (simp; done) | (simp; omega) | omega)).trans (by go_simp)
  have c8_0_1 : w8.cell? ⟨w.heap.size, 1, none⟩ = some (.int .i64 (m)) := (hb8.cell (p := ⟨w.heap.size, 1, none⟩) (by first | (simp; done) | (simp; omega) | omega)).trans (by go_simp)
  have c8_0_2 : w8.cell? ⟨w.heap.size, 2, none⟩ = some (.int .i64 (d)) := (hb8.cell (p := ⟨w.heap.size, 2, none⟩) (by first | (simp; done) | (simp; omega) | omega)).trans (by go_simp)
  have s8_1 : x2.heap.size < w8.heap.size := Nat.lt_of_lt_of_le (by first | (simp; done) | (simp; omega) | omega) hb8.size
  have c8_1_0 : w8.cell? ⟨x2.heap.size, 0, none⟩ = some (.int .i64 (y)) := (hb8.cell (p := ⟨x2.heap.size, 0, none⟩) (by first | (simp; done) | (simp; omega) | omega)).trans (by go_simp)
  have c8_1_1 : w8.cell? ⟨x2.heap.size, 1, none⟩ = some (.int .i64 (m)) := (hb8.cell (p := ⟨x2.heap.size, 1, none⟩) (by first | (simp; done) | (simp; omega) | omega)).trans (by go_simp)
  have c8_1_2 : w8.cell? ⟨x2.heap.size, 2, none⟩ = some (.int .i64 (d + 1)) := (hb8.cell (p := ⟨x2.heap.size, 2, none⟩) (by first | (simp; done) | (simp; omega) | omega)).trans (by go_simp)
  have f8_1_0 : w8.frozen? ⟨x2.heap.size, 0, none⟩ = false := (hb8.frozen (p := ⟨x2.heap.size, 0, none⟩) (by first | (simp; done) | (simp; omega) | omega)).trans (by go_simp)
  have f8_1_1 : w8.frozen? ⟨x2.heap.size, 1, none⟩ = false := (hb8.frozen (p := ⟨x2.heap.size, 1, none⟩) (by first | (simp; done) | (simp; omega) | omega)).trans (by go_simp)
  have f8_1_2 : w8.frozen? ⟨x2.heap.size, 2, none⟩ = false := (hb8.frozen (p := ⟨x2.heap.size, 2, none⟩) (by first | (simp; done) | (simp; omega) | omega)).trans (by go_simp)
  clear hb8 B7 c7_0_0 c7_0_1 c7_0_2 c7_1_0 c7_1_1 c7_1_2 f7_1_0 f7_1_1 f7_1_2
  go_wp2_with fail
  go_ret
  exact ⟨rfl, by (focus (repeat' (first | assumption | exact Below.refl _ _ | refine Below.alloc ?_ ?_ _ | refine Below.setCell ?_ ?_ _ | refine Below.drew ?_ | refine below_drewN ?_ _ | refine Below.trans ?_ (Below.mono (by assumption) ?_) | refine Below.trans ?_ (Below.mono (BW.below _) ?_) | (simp; done) | (simp; omega) | omega)))⟩
set_option maxRecDepth 100000 in
set_option maxHeartbeats 8000000 in
theorem CivilSteps_eqb (y m d : Int) (ky : I64 y) (h : rightB y m d = true) (hc : cmp3 y m d y m d = 0) (hs : d = mlen y m) (hs2 : m < 12) (w : World) : Calls Try.prog 9 #[dat y m d, dat y m d] w fun e w' => e = .returned (.bool true) ∧ Below w.heap.size w w' := by
  have hc1 := hc
  have hD := fun w => civil_Days y m d ky w
  rw [(days_y h).1, (days_y h).2.1] at hD
  have hC1 := fun w => civil_Compare y m d y m d w
  rw [hc] at hC1
  have r := (right_iff y m d).1 h
  obtain ⟨ry0, ry1, rm0, rm1, rd0, rd1⟩ := r
  have ml := mlen_bd y m
  have ll := lp_01 y
  have hn : rightB (y) (m + 1) (1) = true := (right_iff _ _ _).2 (by have := mlen_bd y (m + 1); omega)
  have kn : I64 (y) := I64.sm (by omega)
  have hN := fun w => civil_Days (y) (m + 1) (1) kn w
  rw [(days_y hn).1, (days_y hn).2.1] at hN
  have hP := fun w => civil_YearDay y m d ky w
  rw [(days_y h).2.2, (days_y h).2.1] at hP
  have hQ := fun w => civil_YearDay (y) (m + 1) (1) kn w
  rw [(days_y hn).2.2, (days_y hn).2.1] at hQ
  rw [show numb y (m + 1) 1 = numb y m d + 1 from by have := cum_succ y m rm0 (by omega); unfold numb; omega] at hN
  rw [show cum y (m + 1) + 1 = cum y m + d + 1 from by have := cum_succ y m rm0 (by omega); omega] at hQ
  have cb := cum_bd y m rm0 rm1
  obtain ⟨nb0, nb1⟩ := numb_bd y m d (by omega)
  generalize cum y m = cu at *
  obtain ⟨cb0, cb1, cb2⟩ := cb
  generalize numb y m d = N at *
  have kN : I64 N := I64.sm (by omega)
  have kN1 : I64 (N + 1) := I64.sm (by omega)
  have hW := fun w => civil_Weekday N kN w
  have hW1 := fun w => civil_Weekday (N + 1) kN1 w
  rw [wday_succ] at hW1
  obtain ⟨wb0, wb1⟩ := wday_bd N
  generalize wday N = wd at *
  have hL := fun w => civil_Len y m ky w
  rw [← hs] at hL
  clear h hc hc1
  clear hn ml
  have rd31 : d ≤ 31 := by have := (mlen_bd y m).2.1; omega
  clear rd1 hs
  go_enter Try.func9, Try.ntmps9
  go_wp2_with fail
  refine (civ_lives _).mono ?_
  rintro e w1 ⟨rfl, hb1⟩
  have B1 : Below w.heap.size w w1 := by (focus (repeat' (first | assumption | exact Below.refl _ _ | refine Below.alloc ?_ ?_ _ | refine Below.setCell ?_ ?_ _ | refine Below.drew ?_ | refine below_drewN ?_ _ | refine Below.trans ?_ (Below.mono (by assumption) ?_) | refine Below.trans ?_ (Below.mono (BW.below _) ?_) | (simp; done) | (simp; omega) | omega)))
  have n1 : w.heap.size ≤ w1.heap.size := B1.size
  have s1_0 : w.heap.size < w1.heap.size := Nat.lt_of_lt_of_le (by first | (simp; done) | (simp; omega) | omega) hb1.size
  have c1_0_0 : w1.cell? ⟨w.heap.size, 0, none⟩ = some (.int .i64 (y)) := (hb1.cell (p := ⟨w.heap.size, 0, none⟩) (by first | (simp; done) | (simp; omega) | omega)).trans (by go_simp)
  have c1_0_1 : w1.cell? ⟨w.heap.size, 1, none⟩ = some (.int .i64 (m)) := (hb1.cell (p := ⟨w.heap.size, 1, none⟩) (by first | (simp; done) | (simp; omega) | omega)).trans (by go_simp)
  have c1_0_2 : w1.cell? ⟨w.heap.size, 2, none⟩ = some (.int .i64 (d)) := (hb1.cell (p := ⟨w.heap.size, 2, none⟩) (by first | (simp; done) | (simp; omega) | omega)).trans (by go_simp)
  have s1_1 : w.heap.size + 1 < w1.heap.size := Nat.lt_of_lt_of_le (by first | (simp; done) | (simp; omega) | omega) hb1.size
  have c1_1_0 : w1.cell? ⟨w.heap.size + 1, 0, none⟩ = some (.int .i64 (y)) := (hb1.cell (p := ⟨w.heap.size + 1, 0, none⟩) (by first | (simp; done) | (simp; omega) | omega)).trans (by go_simp)
  have c1_1_1 : w1.cell? ⟨w.heap.size + 1, 1, none⟩ = some (.int .i64 (m)) := (hb1.cell (p := ⟨w.heap.size + 1, 1, none⟩) (by first | (simp; done) | (simp; omega) | omega)).trans (by go_simp)
  have c1_1_2 : w1.cell? ⟨w.heap.size + 1, 2, none⟩ = some (.int .i64 (d)) := (hb1.cell (p := ⟨w.heap.size + 1, 2, none⟩) (by first | (simp; done) | (simp; omega) | omega)).trans (by go_simp)
  clear hb1
  go_wp2_with fail
  refine (hD _).mono ?_
  rintro e w2 ⟨rfl, hb2⟩
  have B2 : Below w.heap.size w w2 := by (focus (repeat' (first | assumption | exact Below.refl _ _ | refine Below.alloc ?_ ?_ _ | refine Below.setCell ?_ ?_ _ | refine Below.drew ?_ | refine below_drewN ?_ _ | refine Below.trans ?_ (Below.mono (by assumption) ?_) | refine Below.trans ?_ (Below.mono (BW.below _) ?_) | (simp; done) | (simp; omega) | omega)))
  have n2 : w.heap.size ≤ w2.heap.size := B2.size
  have s2_0 : w.heap.size < w2.heap.size := Nat.lt_of_lt_of_le (by first | (simp; done) | (simp; omega) | omega) hb2.size
  have c2_0_0 : w2.cell? ⟨w.heap.size, 0, none⟩ = some (.int .i64 (y)) := (hb2.cell (p := ⟨w.heap.size, 0, none⟩) (by first | (simp; done) | (simp; omega) | omega)).trans (by go_simp)
  have c2_0_1 : w2.cell? ⟨w.heap.size, 1, none⟩ = some (.int .i64 (m)) := (hb2.cell (p := ⟨w.heap.size, 1, none⟩) (by first | (simp; done) | (simp; omega) | omega)).trans (by go_simp)
  have c2_0_2 : w2.cell? ⟨w.heap.size, 2, none⟩ = some (.int .i64 (d)) := (hb2.cell (p := ⟨w.heap.size, 2, none⟩) (by first | (simp; done) | (simp; omega) | omega)).trans (by go_simp)
  have s2_1 : w.heap.size + 1 < w2.heap.size := Nat.lt_of_lt_of_le (by first | (simp; done) | (simp; omega) | omega) hb2.size
  have c2_1_0 : w2.cell? ⟨w.heap.size + 1, 0, none⟩ = some (.int .i64 (y)) := (hb2.cell (p := ⟨w.heap.size + 1, 0, none⟩) (by first | (simp; done) | (simp; omega) | omega)).trans (by go_simp)
  have c2_1_1 : w2.cell? ⟨w.heap.size + 1, 1, none⟩ = some (.int .i64 (m)) := (hb2.cell (p := ⟨w.heap.size + 1, 1, none⟩) (by first | (simp; done) | (simp; omega) | omega)).trans (by go_simp)
  have c2_1_2 : w2.cell? ⟨w.heap.size + 1, 2, none⟩ = some (.int .i64 (d)) := (hb2.cell (p := ⟨w.heap.size + 1, 2, none⟩) (by first | (simp; done) | (simp; omega) | omega)).trans (by go_simp)
  clear hb2 B1 c1_0_0 c1_0_1 c1_0_2 c1_1_0 c1_1_1 c1_1_2
  go_wp2_with fail
  refine (hD _).mono ?_
  rintro e w3 ⟨rfl, hb3⟩
  have B3 : Below w.heap.size w w3 := by (focus (repeat' (first | assumption | exact Below.refl _ _ | refine Below.alloc ?_ ?_ _ | refine Below.setCell ?_ ?_ _ | refine Below.drew ?_ | refine below_drewN ?_ _ | refine Below.trans ?_ (Below.mono (by assumption) ?_) | refine Below.trans ?_ (Below.mono (BW.below _) ?_) | (simp; done) | (simp; omega) | omega)))
  have n3 : w.heap.size ≤ w3.heap.size := B3.size
  have s3_0 : w.heap.size < w3.heap.size := Nat.lt_of_lt_of_le (by first | (simp; done) | (simp; omega) | omega) hb3.size
  have c3_0_0 : w3.cell? ⟨w.heap.size, 0, none⟩ = some (.int .i64 (y)) := (hb3.cell (p := ⟨w.heap.size, 0, none⟩) (by first | (simp; done) | (simp; omega) | omega)).trans (by go_simp)
  have c3_0_1 : w3.cell? ⟨w.heap.size, 1, none⟩ = some (.int .i64 (m)) := (hb3.cell (p := ⟨w.heap.size, 1, none⟩) (by first | (simp; done) | (simp; omega) | omega)).trans (by go_simp)
  have c3_0_2 : w3.cell? ⟨w.heap.size, 2, none⟩ = some (.int .i64 (d)) := (hb3.cell (p := ⟨w.heap.size, 2, none⟩) (by first | (simp; done) | (simp; omega) | omega)).trans (by go_simp)
  have s3_1 : w.heap.size + 1 < w3.heap.size := Nat.lt_of_lt_of_le (by first | (simp; done) | (simp; omega) | omega) hb3.size
  have c3_1_0 : w3.cell? ⟨w.heap.size + 1, 0, none⟩ = some (.int .i64 (y)) := (hb3.cell (p := ⟨w.heap.size + 1, 0, none⟩) (by first | (simp; done) | (simp; omega) | omega)).trans (by go_simp)
  have c3_1_1 : w3.cell? ⟨w.heap.size + 1, 1, none⟩ = some (.int .i64 (m)) := (hb3.cell (p := ⟨w.heap.size + 1, 1, none⟩) (by first | (simp; done) | (simp; omega) | omega)).trans (by go_simp)
  have c3_1_2 : w3.cell? ⟨w.heap.size + 1, 2, none⟩ = some (.int .i64 (d)) := (hb3.cell (p := ⟨w.heap.size + 1, 2, none⟩) (by first | (simp; done) | (simp; omega) | omega)).trans (by go_simp)
  clear hb3 B2 c2_0_0 c2_0_1 c2_0_2 c2_1_0 c2_1_1 c2_1_2
  go_wp2_with fail
  have Bx1 : Below w.heap.size w w3 := by (focus (repeat' (first | assumption | exact Below.refl _ _ | refine Below.alloc ?_ ?_ _ | refine Below.setCell ?_ ?_ _ | refine Below.drew ?_ | refine below_drewN ?_ _ | refine Below.trans ?_ (Below.mono (by assumption) ?_) | refine Below.trans ?_ (Below.mono (BW.below _) ?_) | (simp; done) | (simp; omega) | omega)))
  have nx1 : w.heap.size ≤ w3.heap.size := Bx1.size
  have sx1_0 : w.heap.size < w3.heap.size := (by first | (simp; done) | (simp; omega) | omega)
  have cx1_0_0 : w3.cell? ⟨w.heap.size, 0, none⟩ = some (.int .i64 (y)) := by go_simp
  have cx1_0_1 : w3.cell? ⟨w.heap.size, 1, none⟩ = some (.int .i64 (m)) := by go_simp
  have cx1_0_2 : w3.cell? ⟨w.heap.size, 2, none⟩ = some (.int .i64 (d)) := by go_simp
  have sx1_1 : w.heap.size + 1 < w3.heap.size := (by first | (simp; done) | (simp; omega) | omega)
  have cx1_1_0 : w3.cell? ⟨w.heap.size + 1, 0, none⟩ = some (.int .i64 (y)) := by go_simp
  have cx1_1_1 : w3.cell? ⟨w.heap.size + 1, 1, none⟩ = some (.int .i64 (m)) := by go_simp
  have cx1_1_2 : w3.cell? ⟨w.heap.size + 1, 2, none⟩ = some (.int .i64 (d)) := by go_simp
  clear B3 c3_0_0 c3_0_1 c3_0_2 c3_1_0 c3_1_1 c3_1_2
  generalize w3 = x1 at *
  try dsimp only [List.append]
  refine wp_region_bw (by kernel_rfl) (by kernel_rfl) ?_; (repeat (go_big_quiet_step ((go_at_call 58; with_reducible exact bw_call (hC1 _))))); refine wpQuiet_nil ?_; intro _ hw'; obtain ⟨xq, hw''⟩ := hw'; subst hw''
  have Bx2 : Below w.heap.size w xq.val := Bx1.trans (xq.below.mono nx1)
  have nx2 : w.heap.size ≤ xq.val.heap.size := Bx2.size
  have sx2_0 : w.heap.size < xq.val.heap.size := Nat.lt_of_lt_of_le (by first | (simp; done) | (simp; omega) | omega) xq.below.size
  have cx2_0_0 : xq.val.cell? ⟨w.heap.size, 0, none⟩ = some (.int .i64 (y)) := (xq.cell (w.heap.size) 0 (by first | (simp; done) | (simp; omega) | omega)).trans (by go_simp)
  have cx2_0_1 : xq.val.cell? ⟨w.heap.size, 1, none⟩ = some (.int .i64 (m)) := (xq.cell (w.heap.size) 1 (by first | (simp; done) | (simp; omega) | omega)).trans (by go_simp)
  have cx2_0_2 : xq.val.cell? ⟨w.heap.size, 2, none⟩ = some (.int .i64 (d)) := (xq.cell (w.heap.size) 2 (by first | (simp; done) | (simp; omega) | omega)).trans (by go_simp)
  clear Bx1 cx1_0_0 cx1_0_1 cx1_0_2 cx1_1_0 cx1_1_1 cx1_1_2
  generalize xq.val = x2 at *
  go_wp2_with fail
  have Bx3 : Below w.heap.size w (x2.alloc (.cells #[.int .i64 (y), .int .i64 (m), .int .i64 (d + 1)] 48)) := by (focus (repeat' (first | assumption | exact Below.refl _ _ | refine Below.alloc ?_ ?_ _ | refine Below.setCell ?_ ?_ _ | refine Below.drew ?_ | refine below_drewN ?_ _ | refine Below.trans ?_ (Below.mono (by assumption) ?_) | refine Below.trans ?_ (Below.mono (BW.below _) ?_) | (simp; done) | (simp; omega) | omega)))
  have nx3 : w.heap.size ≤ (x2.alloc (.cells #[.int .i64 (y), .int .i64 (m), .int .i64 (d + 1)] 48)).heap.size := Bx3.size
  have sx3_0 : w.heap.size < (x2.alloc (.cells #[.int .i64 (y), .int .i64 (m), .int .i64 (d + 1)] 48)).heap.size := (by first | (simp; done) | (simp; omega) | omega)
  have cx3_0_0 : (x2.alloc (.cells #[.int .i64 (y), .int .i64 (m), .int .i64 (d + 1)] 48)).cell? ⟨w.heap.size, 0, none⟩ = some (.int .i64 (y)) := by go_simp
  have cx3_0_1 : (x2.alloc (.cells #[.int .i64 (y), .int .i64 (m), .int .i64 (d + 1)] 48)).cell? ⟨w.heap.size, 1, none⟩ = some (.int .i64 (m)) := by go_simp
  have cx3_0_2 : (x2.alloc (.cells #[.int .i64 (y), .int .i64 (m), .int .i64 (d + 1)] 48)).cell? ⟨w.heap.size, 2, none⟩ = some (.int .i64 (d)) := by go_simp
  have sx3_1 : x2.heap.size < (x2.alloc (.cells #[.int .i64 (y), .int .i64 (m), .int .i64 (d + 1)] 48)).heap.size := (by first | (simp; done) | (simp; omega) | omega)
  have cx3_1_0 : (x2.alloc (.cells #[.int .i64 (y), .int .i64 (m), .int .i64 (d + 1)] 48)).cell? ⟨x2.heap.size, 0, none⟩ = some (.int .i64 (y)) := by go_simp
  have cx3_1_1 : (x2.alloc (.cells #[.int .i64 (y), .int .i64 (m), .int .i64 (d + 1)] 48)).cell? ⟨x2.heap.size, 1, none⟩ = some (.int .i64 (m)) := by go_simp
  have cx3_1_2 : (x2.alloc (.cells #[.int .i64 (y), .int .i64 (m), .int .i64 (d + 1)] 48)).cell? ⟨x2.heap.size, 2, none⟩ = some (.int .i64 (d + 1)) := by go_simp
  have fx3_1_0 : (x2.alloc (.cells #[.int .i64 (y), .int .i64 (m), .int .i64 (d + 1)] 48)).frozen? ⟨x2.heap.size, 0, none⟩ = false := by go_simp
  have fx3_1_1 : (x2.alloc (.cells #[.int .i64 (y), .int .i64 (m), .int .i64 (d + 1)] 48)).frozen? ⟨x2.heap.size, 1, none⟩ = false := by go_simp
  have fx3_1_2 : (x2.alloc (.cells #[.int .i64 (y), .int .i64 (m), .int .i64 (d + 1)] 48)).frozen? ⟨x2.heap.size, 2, none⟩ = false := by go_simp
  clear Bx2 cx2_0_0 cx2_0_1 cx2_0_2
  generalize (x2.alloc (.cells #[.int .i64 (y), .int .i64 (m), .int .i64 (d + 1)] 48)) = x3 at *
  try dsimp only [List.append]
  refine wp_region_bw (by kernel_rfl) (by kernel_rfl) ?_; (repeat (go_big_quiet_step ((go_at_call 52; with_reducible exact bw_same (hL _))))); refine wpQuiet_nil ?_; intro _ hw'; obtain ⟨xq, hw''⟩ := hw'; subst hw''
  have Bx4 : Below w.heap.size w xq.val := Bx3.trans (xq.below.mono nx3)
  have nx4 : w.heap.size ≤ xq.val.heap.size := Bx4.size
  have sx4_0 : w.heap.size < xq.val.heap.size := Nat.lt_of_lt_of_le (by first | (simp; done) | (simp; omega) | omega) xq.below.size
  have cx4_0_0 : xq.val.cell? ⟨w.heap.size, 0, none⟩ = some (.int .i64 (y)) := (xq.cell (w.heap.size) 0 (by first | (simp; done) | (simp; omega) | omega)).trans (by go_simp)
  have cx4_0_1 : xq.val.cell? ⟨w.heap.size, 1, none⟩ = some (.int .i64 (m)) := (xq.cell (w.heap.size) 1 (by first | (simp; done) | (simp; omega) | omega)).trans (by go_simp)
  have cx4_0_2 : xq.val.cell? ⟨w.heap.size, 2, none⟩ = some (.int .i64 (d)) := (xq.cell (w.heap.size) 2 (by first | (simp; done) | (simp; omega) | omega)).trans (by go_simp)
  have sx4_1 : x2.heap.size < xq.val.heap.size := Nat.lt_of_lt_of_le (by first | (simp; done) | (simp; omega) | omega) xq.below.size
  have cx4_1_0 : xq.val.cell? ⟨x2.heap.size, 0, none⟩ = some (.int .i64 (y)) := (xq.cell (x2.heap.size) 0 (by first | (simp; done) | (simp; omega) | omega)).trans (by go_simp)
  have fx4_1_0 : xq.val.frozen? ⟨x2.heap.size, 0, none⟩ = false := (xq.frozen (x2.heap.size) 0 (by first | (simp; done) | (simp; omega) | omega)).trans (by go_simp)
  have cx4_1_1 : xq.val.cell? ⟨x2.heap.size, 1, none⟩ = some (.int .i64 (m)) := (xq.cell (x2.heap.size) 1 (by first | (simp; done) | (simp; omega) | omega)).trans (by go_simp)
  have fx4_1_1 : xq.val.frozen? ⟨x2.heap.size, 1, none⟩ = false := (xq.frozen (x2.heap.size) 1 (by first | (simp; done) | (simp; omega) | omega)).trans (by go_simp)
  have cx4_1_2 : xq.val.cell? ⟨x2.heap.size, 2, none⟩ = some (.int .i64 (d + 1)) := (xq.cell (x2.heap.size) 2 (by first | (simp; done) | (simp; omega) | omega)).trans (by go_simp)
  have fx4_1_2 : xq.val.frozen? ⟨x2.heap.size, 2, none⟩ = false := (xq.frozen (x2.heap.size) 2 (by first | (simp; done) | (simp; omega) | omega)).trans (by go_simp)
  clear Bx3 cx3_0_0 cx3_0_1 cx3_0_2 cx3_1_0 cx3_1_1 cx3_1_2 fx3_1_0 fx3_1_1 fx3_1_2
  generalize xq.val = x4 at *
  go_wp2_with fail
  refine (hN _).mono ?_
  rintro e w4 ⟨rfl, hb4⟩
  have B4 : Below w.heap.size w w4 := by (focus (repeat' (first | assumption | exact Below.refl _ _ | refine Below.alloc ?_ ?_ _ | refine Below.setCell ?_ ?_ _ | refine Below.drew ?_ | refine below_drewN ?_ _ | refine Below.trans ?_ (Below.mono (by assumption) ?_) | refine Below.trans ?_ (Below.mono (BW.below _) ?_) | (simp; done) | (simp; omega) | omega)))
  have n4 : w.heap.size ≤ w4.heap.size := B4.size
  have s4_0 : w.heap.size < w4.heap.size := Nat.lt_of_lt_of_le (by first | (simp; done) | (simp; omega) | omega) hb4.size
  have c4_0_0 : w4.cell? ⟨w.heap.size, 0, none⟩ = some (.int .i64 (y)) := (hb4.cell (p := ⟨w.heap.size, 0, none⟩) (by first | (simp; done) | (simp; omega) | omega)).trans (by go_simp)
  have c4_0_1 : w4.cell? ⟨w.heap.size, 1, none⟩ = some (.int .i64 (m)) := (hb4.cell (p := ⟨w.heap.size, 1, none⟩) (by first | (simp; done) | (simp; omega) | omega)).trans (by go_simp)
  have c4_0_2 : w4.cell? ⟨w.heap.size, 2, none⟩ = some (.int .i64 (d)) := (hb4.cell (p := ⟨w.heap.size, 2, none⟩) (by first | (simp; done) | (simp; omega) | omega)).trans (by go_simp)
  have s4_1 : x2.heap.size < w4.heap.size := Nat.lt_of_lt_of_le (by first | (simp; done) | (simp; omega) | omega) hb4.size
  have c4_1_0 : w4.cell? ⟨x2.heap.size, 0, none⟩ = some (.int .i64 (y)) := (hb4.cell (p := ⟨x2.heap.size, 0, none⟩) (by first | (simp; done) | (simp; omega) | omega)).trans (by go_simp)
  have c4_1_1 : w4.cell? ⟨x2.heap.size, 1, none⟩ = some (.int .i64 (m + 1)) := (hb4.cell (p := ⟨x2.heap.size, 1, none⟩) (by first | (simp; done) | (simp; omega) | omega)).trans (by go_simp)
  have c4_1_2 : w4.cell? ⟨x2.heap.size, 2, none⟩ = some (.int .i64 1) := (hb4.cell (p := ⟨x2.heap.size, 2, none⟩) (by first | (simp; done) | (simp; omega) | omega)).trans (by go_simp)
  have f4_1_0 : w4.frozen? ⟨x2.heap.size, 0, none⟩ = false := (hb4.frozen (p := ⟨x2.heap.size, 0, none⟩) (by first | (simp; done) | (simp; omega) | omega)).trans (by go_simp)
  have f4_1_1 : w4.frozen? ⟨x2.heap.size, 1, none⟩ = false := (hb4.frozen (p := ⟨x2.heap.size, 1, none⟩) (by first | (simp; done) | (simp; omega) | omega)).trans (by go_simp)
  have f4_1_2 : w4.frozen? ⟨x2.heap.size, 2, none⟩ = false := (hb4.frozen (p := ⟨x2.heap.size, 2, none⟩) (by first | (simp; done) | (simp; omega) | omega)).trans (by go_simp)
  clear hb4 Bx4 cx4_0_0 cx4_0_1 cx4_0_2 cx4_1_0 fx4_1_0 cx4_1_1 fx4_1_1 cx4_1_2 fx4_1_2
  go_wp2_with fail
  refine (hP _).mono ?_
  rintro e w5 ⟨rfl, hb5⟩
  have B5 : Below w.heap.size w w5 := by (focus (repeat' (first | assumption | exact Below.refl _ _ | refine Below.alloc ?_ ?_ _ | refine Below.setCell ?_ ?_ _ | refine Below.drew ?_ | refine below_drewN ?_ _ | refine Below.trans ?_ (Below.mono (by assumption) ?_) | refine Below.trans ?_ (Below.mono (BW.below _) ?_) | (simp; done) | (simp; omega) | omega)))
  have n5 : w.heap.size ≤ w5.heap.size := B5.size
  have s5_0 : w.heap.size < w5.heap.size := Nat.lt_of_lt_of_le (by first | (simp; done) | (simp; omega) | omega) hb5.size
  have c5_0_0 : w5.cell? ⟨w.heap.size, 0, none⟩ = some (.int .i64 (y)) := (hb5.cell (p := ⟨w.heap.size, 0, none⟩) (by first | (simp; done) | (simp; omega) | omega)).trans (by go_simp)
  have c5_0_1 : w5.cell? ⟨w.heap.size, 1, none⟩ = some (.int .i64 (m)) := (hb5.cell (p := ⟨w.heap.size, 1, none⟩) (by first | (simp; done) | (simp; omega) | omega)).trans (by go_simp)
  have c5_0_2 : w5.cell? ⟨w.heap.size, 2, none⟩ = some (.int .i64 (d)) := (hb5.cell (p := ⟨w.heap.size, 2, none⟩) (by first | (simp; done) | (simp; omega) | omega)).trans (by go_simp)
  have s5_1 : x2.heap.size < w5.heap.size := Nat.lt_of_lt_of_le (by first | (simp; done) | (simp; omega) | omega) hb5.size
  have c5_1_0 : w5.cell? ⟨x2.heap.size, 0, none⟩ = some (.int .i64 (y)) := (hb5.cell (p := ⟨x2.heap.size, 0, none⟩) (by first | (simp; done) | (simp; omega) | omega)).trans (by go_simp)
  have c5_1_1 : w5.cell? ⟨x2.heap.size, 1, none⟩ = some (.int .i64 (m + 1)) := (hb5.cell (p := ⟨x2.heap.size, 1, none⟩) (by first | (simp; done) | (simp; omega) | omega)).trans (by go_simp)
  have c5_1_2 : w5.cell? ⟨x2.heap.size, 2, none⟩ = some (.int .i64 1) := (hb5.cell (p := ⟨x2.heap.size, 2, none⟩) (by first | (simp; done) | (simp; omega) | omega)).trans (by go_simp)
  have f5_1_0 : w5.frozen? ⟨x2.heap.size, 0, none⟩ = false := (hb5.frozen (p := ⟨x2.heap.size, 0, none⟩) (by first | (simp; done) | (simp; omega) | omega)).trans (by go_simp)
  have f5_1_1 : w5.frozen? ⟨x2.heap.size, 1, none⟩ = false := (hb5.frozen (p := ⟨x2.heap.size, 1, none⟩) (by first | (simp; done) | (simp; omega) | omega)).trans (by go_simp)
  have f5_1_2 : w5.frozen? ⟨x2.heap.size, 2, none⟩ = false := (hb5.frozen (p := ⟨x2.heap.size, 2, none⟩) (by first | (simp; done) | (simp; omega) | omega)).trans (by go_simp)
  clear hb5 B4 c4_0_0 c4_0_1 c4_0_2 c4_1_0 c4_1_1 c4_1_2 f4_1_0 f4_1_1 f4_1_2
  go_wp2_with fail
  refine (hQ _).mono ?_
  rintro e w6 ⟨rfl, hb6⟩
  have B6 : Below w.heap.size w w6 := by (focus (repeat' (first | assumption | exact Below.refl _ _ | refine Below.alloc ?_ ?_ _ | refine Below.setCell ?_ ?_ _ | refine Below.drew ?_ | refine below_drewN ?_ _ | refine Below.trans ?_ (Below.mono (by assumption) ?_) | refine Below.trans ?_ (Below.mono (BW.below _) ?_) | (simp; done) | (simp; omega) | omega)))
  have n6 : w.heap.size ≤ w6.heap.size := B6.size
  have s6_0 : w.heap.size < w6.heap.size := Nat.lt_of_lt_of_le (by first | (simp; done) | (simp; omega) | omega) hb6.size
  have c6_0_0 : w6.cell? ⟨w.heap.size, 0, none⟩ = some (.int .i64 (y)) := (hb6.cell (p := ⟨w.heap.size, 0, none⟩) (by first | (simp; done) | (simp; omega) | omega)).trans (by go_simp)
  have c6_0_1 : w6.cell? ⟨w.heap.size, 1, none⟩ = some (.int .i64 (m)) := (hb6.cell (p := ⟨w.heap.size, 1, none⟩) (by first | (simp; done) | (simp; omega) | omega)).trans (by go_simp)
  have c6_0_2 : w6.cell? ⟨w.heap.size, 2, none⟩ = some (.int .i64 (d)) := (hb6.cell (p := ⟨w.heap.size, 2, none⟩) (by first | (simp; done) | (simp; omega) | omega)).trans (by go_simp)
  have s6_1 : x2.heap.size < w6.heap.size := Nat.lt_of_lt_of_le (by first | (simp; done) | (simp; omega) | omega) hb6.size
  have c6_1_0 : w6.cell? ⟨x2.heap.size, 0, none⟩ = some (.int .i64 (y)) := (hb6.cell (p := ⟨x2.heap.size, 0, none⟩) (by first | (simp; done) | (simp; omega) | omega)).trans (by go_simp)
  have c6_1_1 : w6.cell? ⟨x2.heap.size, 1, none⟩ = some (.int .i64 (m + 1)) := (hb6.cell (p := ⟨x2.heap.size, 1, none⟩) (by first | (simp; done) | (simp; omega) | omega)).trans (by go_simp)
  have c6_1_2 : w6.cell? ⟨x2.heap.size, 2, none⟩ = some (.int .i64 1) := (hb6.cell (p := ⟨x2.heap.size, 2, none⟩) (by first | (simp; done) | (simp; omega) | omega)).trans (by go_simp)
  have f6_1_0 : w6.frozen? ⟨x2.heap.size, 0, none⟩ = false := (hb6.frozen (p := ⟨x2.heap.size, 0, none⟩) (by first | (simp; done) | (simp; omega) | omega)).trans (by go_simp)
  have f6_1_1 : w6.frozen? ⟨x2.heap.size, 1, none⟩ = false := (hb6.frozen (p := ⟨x2.heap.size, 1, none⟩) (by first | (simp; done) | (simp; omega) | omega)).trans (by go_simp)
  have f6_1_2 : w6.frozen? ⟨x2.heap.size, 2, none⟩ = false := (hb6.frozen (p := ⟨x2.heap.size, 2, none⟩) (by first | (simp; done) | (simp; omega) | omega)).trans (by go_simp)
  clear hb6 B5 c5_0_0 c5_0_1 c5_0_2 c5_1_0 c5_1_1 c5_1_2 f5_1_0 f5_1_1 f5_1_2
  go_wp2_with fail
  refine (hW1 _).mono ?_
  rintro e w7 ⟨rfl, hb7⟩
  have B7 : Below w.heap.size w w7 := by (focus (repeat' (first | assumption | exact Below.refl _ _ | refine Below.alloc ?_ ?_ _ | refine Below.setCell ?_ ?_ _ | refine Below.drew ?_ | refine below_drewN ?_ _ | refine Below.trans ?_ (Below.mono (by assumption) ?_) | refine Below.trans ?_ (Below.mono (BW.below _) ?_) | (simp; done) | (simp; omega) | omega)))
  have n7 : w.heap.size ≤ w7.heap.size := B7.size
  have s7_0 : w.heap.size < w7.heap.size := Nat.lt_of_lt_of_le (by first | (simp; done) | (simp; omega) | omega) hb7.size
  have c7_0_0 : w7.cell? ⟨w.heap.size, 0, none⟩ = some (.int .i64 (y)) := (hb7.cell (p := ⟨w.heap.size, 0, none⟩) (by first | (simp; done) | (simp; omega) | omega)).trans (by go_simp)
  have c7_0_1 : w7.cell? ⟨w.heap.size, 1, none⟩ = some (.int .i64 (m)) := (hb7.cell (p := ⟨w.heap.size, 1, none⟩) (by first | (simp; done) | (simp; omega) | omega)).trans (by go_simp)
  have c7_0_2 : w7.cell? ⟨w.heap.size, 2, none⟩ = some (.int .i64 (d)) := (hb7.cell (p := ⟨w.heap.size, 2, none⟩) (by first | (simp; done) | (simp; omega) | omega)).trans (by go_simp)
  have s7_1 : x2.heap.size < w7.heap.size := Nat.lt_of_lt_of_le (by first | (simp; done) | (simp; omega) | omega) hb7.size
  have c7_1_0 : w7.cell? ⟨x2.heap.size, 0, none⟩ = some (.int .i64 (y)) := (hb7.cell (p := ⟨x2.heap.size, 0, none⟩) (by first | (simp; done) | (simp; omega) | omega)).trans (by go_simp)
  have c7_1_1 : w7.cell? ⟨x2.heap.size, 1, none⟩ = some (.int .i64 (m + 1)) := (hb7.cell (p := ⟨x2.heap.size, 1, none⟩) (by first | (simp; done) | (simp; omega) | omega)).trans (by go_simp)
  have c7_1_2 : w7.cell? ⟨x2.heap.size, 2, none⟩ = some (.int .i64 1) := (hb7.cell (p := ⟨x2.heap.size, 2, none⟩) (by first | (simp; done) | (simp; omega) | omega)).trans (by go_simp)
  have f7_1_0 : w7.frozen? ⟨x2.heap.size, 0, none⟩ = false := (hb7.frozen (p := ⟨x2.heap.size, 0, none⟩) (by first | (simp; done) | (simp; omega) | omega)).trans (by go_simp)
  have f7_1_1 : w7.frozen? ⟨x2.heap.size, 1, none⟩ = false := (hb7.frozen (p := ⟨x2.heap.size, 1, none⟩) (by first | (simp; done) | (simp; omega) | omega)).trans (by go_simp)
  have f7_1_2 : w7.frozen? ⟨x2.heap.size, 2, none⟩ = false := (hb7.frozen (p := ⟨x2.heap.size, 2, none⟩) (by first | (simp; done) | (simp; omega) | omega)).trans (by go_simp)
  clear hb7 B6 c6_0_0 c6_0_1 c6_0_2 c6_1_0 c6_1_1 c6_1_2 f6_1_0 f6_1_1 f6_1_2
  go_wp2_with fail
  refine (hW _).mono ?_
  rintro e w8 ⟨rfl, hb8⟩
  have B8 : Below w.heap.size w w8 := by (focus (repeat' (first | assumption | exact Below.refl _ _ | refine Below.alloc ?_ ?_ _ | refine Below.setCell ?_ ?_ _ | refine Below.drew ?_ | refine below_drewN ?_ _ | refine Below.trans ?_ (Below.mono (by assumption) ?_) | refine Below.trans ?_ (Below.mono (BW.below _) ?_) | (simp; done) | (simp; omega) | omega)))
  have n8 : w.heap.size ≤ w8.heap.size := B8.size
  have s8_0 : w.heap.size < w8.heap.size := Nat.lt_of_lt_of_le (by first | (simp; done) | (simp; omega) | omega) hb8.size
  have c8_0_0 : w8.cell? ⟨w.heap.size, 0, none⟩ = some (.int .i64 (y)) := (hb8.cell (p := ⟨w.heap.size, 0, none⟩) (by first | (simp; done) | (simp; omega) | omega)).trans (by go_simp)
  have c8_0_1 : w8.cell? ⟨w.heap.size, 1, none⟩ = some (.int .i64 (m)) := (hb8.cell (p := ⟨w.heap.size, 1, none⟩) (by first | (simp; done) | (simp; omega) | omega)).trans (by go_simp)
  have c8_0_2 : w8.cell? ⟨w.heap.size, 2, none⟩ = some (.int .i64 (d)) := (hb8.cell (p := ⟨w.heap.size, 2, none⟩) (by first | (simp; done) | (simp; omega) | omega)).trans (by go_simp)
  have s8_1 : x2.heap.size < w8.heap.size := Nat.lt_of_lt_of_le (by first | (simp; done) | (simp; omega) | omega) hb8.size
  have c8_1_0 : w8.cell? ⟨x2.heap.size, 0, none⟩ = some (.int .i64 (y)) := (hb8.cell (p := ⟨x2.heap.size, 0, none⟩) (by first | (simp; done) | (simp; omega) | omega)).trans (by go_simp)
  have c8_1_1 : w8.cell? ⟨x2.heap.size, 1, none⟩ = some (.int .i64 (m + 1)) := (hb8.cell (p := ⟨x2.heap.size, 1, none⟩) (by first | (simp; done) | (simp; omega) | omega)).trans (by go_simp)
  have c8_1_2 : w8.cell? ⟨x2.heap.size, 2, none⟩ = some (.int .i64 1) := (hb8.cell (p := ⟨x2.heap.size, 2, none⟩) (by first | (simp; done) | (simp; omega) | omega)).trans (by go_simp)
  have f8_1_0 : w8.frozen? ⟨x2.heap.size, 0, none⟩ = false := (hb8.frozen (p := ⟨x2.heap.size, 0, none⟩) (by first | (simp; done) | (simp; omega) | omega)).trans (by go_simp)
  have f8_1_1 : w8.frozen? ⟨x2.heap.size, 1, none⟩ = false := (hb8.frozen (p := ⟨x2.heap.size, 1, none⟩) (by first | (simp; done) | (simp; omega) | omega)).trans (by go_simp)
  have f8_1_2 : w8.frozen? ⟨x2.heap.size, 2, none⟩ = false := (hb8.frozen (p := ⟨x2.heap.size, 2, none⟩) (by first | (simp; done) | (simp; omega) | omega)).trans (by go_simp)
  clear hb8 B7 c7_0_0 c7_0_1 c7_0_2 c7_1_0 c7_1_1 c7_1_2 f7_1_0 f7_1_1 f7_1_2
  go_wp2_with fail
  go_ret
  exact ⟨rfl, by (focus (repeat' (first | assumption | exact Below.refl _ _ | refine Below.alloc ?_ ?_ _ | refine Below.setCell ?_ ?_ _ | refine Below.drew ?_ | refine below_drewN ?_ _ | refine Below.trans ?_ (Below.mono (by assumption) ?_) | refine Below.trans ?_ (Below.mono (BW.below _) ?_) | (simp; done) | (simp; omega) | omega)))⟩
set_option maxRecDepth 100000 in
set_option maxHeartbeats 8000000 in
theorem CivilSteps_eqc (y : Int) (ky : I64 y) (h : rightB y 12 31 = true) (hc : cmp3 y 12 31 y 12 31 = 0) (hs3 : y < 40000) (w : World) : Calls Try.prog 9 #[dat y 12 31, dat y 12 31] w fun e w' => e = .returned (.bool true) ∧ Below w.heap.size w w' := by
  have hc1 := hc
  have hD := fun w => civil_Days y 12 31 ky w
  rw [(days_y h).1, (days_y h).2.1] at hD
  have hC1 := fun w => civil_Compare y 12 31 y 12 31 w
  rw [hc] at hC1
  have r := (right_iff y 12 31).1 h
  obtain ⟨ry0, ry1, rm0, rm1, rd0, rd1⟩ := r
  have ml := mlen_bd y 12
  have ll := lp_01 y
  have hn : rightB (y + 1) (1) (1) = true := (right_iff _ _ _).2 (by have := mlen_bd (y + 1) 1; omega)
  have kn : I64 (y + 1) := I64.sm (by omega)
  have hN := fun w => civil_Days (y + 1) (1) (1) kn w
  rw [(days_y hn).1, (days_y hn).2.1] at hN
  have hP := fun w => civil_YearDay y 12 31 ky w
  rw [(days_y h).2.2, (days_y h).2.1] at hP
  have hQ := fun w => civil_YearDay (y + 1) (1) (1) kn w
  rw [(days_y hn).2.2, (days_y hn).2.1] at hQ
  rw [show numb (y + 1) 1 1 = numb y 12 31 + 1 from by (have := cum_12 y; have hl : mlen y 12 = 31 := (by simp [mlen]); have := ahead_succ y; have := cum_1 (y + 1); unfold numb; omega)] at hN
  rw [cum_1, show (0 : Int) + 1 = 1 from rfl] at hQ
  rw [show cum y 12 + 31 = 365 + lp y from by (have := cum_12 y; have hl : mlen y 12 = 31 := (by simp [mlen]); omega)] at hP
  obtain ⟨nb0, nb1⟩ := numb_bd y 12 31 (by omega)
  generalize numb y 12 31 = N at *
  have kN : I64 N := I64.sm (by omega)
  have kN1 : I64 (N + 1) := I64.sm (by omega)
  have hW := fun w => civil_Weekday N kN w
  have hW1 := fun w => civil_Weekday (N + 1) kN1 w
  rw [wday_succ] at hW1
  obtain ⟨wb0, wb1⟩ := wday_bd N
  generalize wday N = wd at *
  have hL := fun w => civil_Len y 12 ky w
  have hL2 := fun w => civil_Len2 y ky w
  rw [show mlen y 12 = 31 by simp [mlen]] at hL
  clear h hc hc1
  clear hn ml
  clear rd1 rm0 rm1 rd0
  go_enter Try.func9, Try.ntmps9
  go_wp2_with fail
  refine (civ_lives _).mono ?_
  rintro e w1 ⟨rfl, hb1⟩
  have B1 : Below w.heap.size w w1 := by (focus (repeat' (first | assumption | exact Below.refl _ _ | refine Below.alloc ?_ ?_ _ | refine Below.setCell ?_ ?_ _ | refine Below.drew ?_ | refine below_drewN ?_ _ | refine Below.trans ?_ (Below.mono (by assumption) ?_) | refine Below.trans ?_ (Below.mono (BW.below _) ?_) | (simp; done) | (simp; omega) | omega)))
  have n1 : w.heap.size ≤ w1.heap.size := B1.size
  have s1_0 : w.heap.size < w1.heap.size := Nat.lt_of_lt_of_le (by first | (simp; done) | (simp; omega) | omega) hb1.size
  have c1_0_0 : w1.cell? ⟨w.heap.size, 0, none⟩ = some (.int .i64 (y)) := (hb1.cell (p := ⟨w.heap.size, 0, none⟩) (by first | (simp; done) | (simp; omega) | omega)).trans (by go_simp)
  have c1_0_1 : w1.cell? ⟨w.heap.size, 1, none⟩ = some (.int .i64 (12)) := (hb1.cell (p := ⟨w.heap.size, 1, none⟩) (by first | (simp; done) | (simp; omega) | omega)).trans (by go_simp)
  have c1_0_2 : w1.cell? ⟨w.heap.size, 2, none⟩ = some (.int .i64 (31)) := (hb1.cell (p := ⟨w.heap.size, 2, none⟩) (by first | (simp; done) | (simp; omega) | omega)).trans (by go_simp)
  have s1_1 : w.heap.size + 1 < w1.heap.size := Nat.lt_of_lt_of_le (by first | (simp; done) | (simp; omega) | omega) hb1.size
  have c1_1_0 : w1.cell? ⟨w.heap.size + 1, 0, none⟩ = some (.int .i64 (y)) := (hb1.cell (p := ⟨w.heap.size + 1, 0, none⟩) (by first | (simp; done) | (simp; omega) | omega)).trans (by go_simp)
  have c1_1_1 : w1.cell? ⟨w.heap.size + 1, 1, none⟩ = some (.int .i64 (12)) := (hb1.cell (p := ⟨w.heap.size + 1, 1, none⟩) (by first | (simp; done) | (simp; omega) | omega)).trans (by go_simp)
  have c1_1_2 : w1.cell? ⟨w.heap.size + 1, 2, none⟩ = some (.int .i64 (31)) := (hb1.cell (p := ⟨w.heap.size + 1, 2, none⟩) (by first | (simp; done) | (simp; omega) | omega)).trans (by go_simp)
  clear hb1
  go_wp2_with fail
  refine (hD _).mono ?_
  rintro e w2 ⟨rfl, hb2⟩
  have B2 : Below w.heap.size w w2 := by (focus (repeat' (first | assumption | exact Below.refl _ _ | refine Below.alloc ?_ ?_ _ | refine Below.setCell ?_ ?_ _ | refine Below.drew ?_ | refine below_drewN ?_ _ | refine Below.trans ?_ (Below.mono (by assumption) ?_) | refine Below.trans ?_ (Below.mono (BW.below _) ?_) | (simp; done) | (simp; omega) | omega)))
  have n2 : w.heap.size ≤ w2.heap.size := B2.size
  have s2_0 : w.heap.size < w2.heap.size := Nat.lt_of_lt_of_le (by first | (simp; done) | (simp; omega) | omega) hb2.size
  have c2_0_0 : w2.cell? ⟨w.heap.size, 0, none⟩ = some (.int .i64 (y)) := (hb2.cell (p := ⟨w.heap.size, 0, none⟩) (by first | (simp; done) | (simp; omega) | omega)).trans (by go_simp)
  have c2_0_1 : w2.cell? ⟨w.heap.size, 1, none⟩ = some (.int .i64 (12)) := (hb2.cell (p := ⟨w.heap.size, 1, none⟩) (by first | (simp; done) | (simp; omega) | omega)).trans (by go_simp)
  have c2_0_2 : w2.cell? ⟨w.heap.size, 2, none⟩ = some (.int .i64 (31)) := (hb2.cell (p := ⟨w.heap.size, 2, none⟩) (by first | (simp; done) | (simp; omega) | omega)).trans (by go_simp)
  have s2_1 : w.heap.size + 1 < w2.heap.size := Nat.lt_of_lt_of_le (by first | (simp; done) | (simp; omega) | omega) hb2.size
  have c2_1_0 : w2.cell? ⟨w.heap.size + 1, 0, none⟩ = some (.int .i64 (y)) := (hb2.cell (p := ⟨w.heap.size + 1, 0, none⟩) (by first | (simp; done) | (simp; omega) | omega)).trans (by go_simp)
  have c2_1_1 : w2.cell? ⟨w.heap.size + 1, 1, none⟩ = some (.int .i64 (12)) := (hb2.cell (p := ⟨w.heap.size + 1, 1, none⟩) (by first | (simp; done) | (simp; omega) | omega)).trans (by go_simp)
  have c2_1_2 : w2.cell? ⟨w.heap.size + 1, 2, none⟩ = some (.int .i64 (31)) := (hb2.cell (p := ⟨w.heap.size + 1, 2, none⟩) (by first | (simp; done) | (simp; omega) | omega)).trans (by go_simp)
  clear hb2 B1 c1_0_0 c1_0_1 c1_0_2 c1_1_0 c1_1_1 c1_1_2
  go_wp2_with fail
  refine (hD _).mono ?_
  rintro e w3 ⟨rfl, hb3⟩
  have B3 : Below w.heap.size w w3 := by (focus (repeat' (first | assumption | exact Below.refl _ _ | refine Below.alloc ?_ ?_ _ | refine Below.setCell ?_ ?_ _ | refine Below.drew ?_ | refine below_drewN ?_ _ | refine Below.trans ?_ (Below.mono (by assumption) ?_) | refine Below.trans ?_ (Below.mono (BW.below _) ?_) | (simp; done) | (simp; omega) | omega)))
  have n3 : w.heap.size ≤ w3.heap.size := B3.size
  have s3_0 : w.heap.size < w3.heap.size := Nat.lt_of_lt_of_le (by first | (simp; done) | (simp; omega) | omega) hb3.size
  have c3_0_0 : w3.cell? ⟨w.heap.size, 0, none⟩ = some (.int .i64 (y)) := (hb3.cell (p := ⟨w.heap.size, 0, none⟩) (by first | (simp; done) | (simp; omega) | omega)).trans (by go_simp)
  have c3_0_1 : w3.cell? ⟨w.heap.size, 1, none⟩ = some (.int .i64 (12)) := (hb3.cell (p := ⟨w.heap.size, 1, none⟩) (by first | (simp; done) | (simp; omega) | omega)).trans (by go_simp)
  have c3_0_2 : w3.cell? ⟨w.heap.size, 2, none⟩ = some (.int .i64 (31)) := (hb3.cell (p := ⟨w.heap.size, 2, none⟩) (by first | (simp; done) | (simp; omega) | omega)).trans (by go_simp)
  have s3_1 : w.heap.size + 1 < w3.heap.size := Nat.lt_of_lt_of_le (by first | (simp; done) | (simp; omega) | omega) hb3.size
  have c3_1_0 : w3.cell? ⟨w.heap.size + 1, 0, none⟩ = some (.int .i64 (y)) := (hb3.cell (p := ⟨w.heap.size + 1, 0, none⟩) (by first | (simp; done) | (simp; omega) | omega)).trans (by go_simp)
  have c3_1_1 : w3.cell? ⟨w.heap.size + 1, 1, none⟩ = some (.int .i64 (12)) := (hb3.cell (p := ⟨w.heap.size + 1, 1, none⟩) (by first | (simp; done) | (simp; omega) | omega)).trans (by go_simp)
  have c3_1_2 : w3.cell? ⟨w.heap.size + 1, 2, none⟩ = some (.int .i64 (31)) := (hb3.cell (p := ⟨w.heap.size + 1, 2, none⟩) (by first | (simp; done) | (simp; omega) | omega)).trans (by go_simp)
  clear hb3 B2 c2_0_0 c2_0_1 c2_0_2 c2_1_0 c2_1_1 c2_1_2
  go_wp2_with fail
  have Bx1 : Below w.heap.size w w3 := by (focus (repeat' (first | assumption | exact Below.refl _ _ | refine Below.alloc ?_ ?_ _ | refine Below.setCell ?_ ?_ _ | refine Below.drew ?_ | refine below_drewN ?_ _ | refine Below.trans ?_ (Below.mono (by assumption) ?_) | refine Below.trans ?_ (Below.mono (BW.below _) ?_) | (simp; done) | (simp; omega) | omega)))
  have nx1 : w.heap.size ≤ w3.heap.size := Bx1.size
  have sx1_0 : w.heap.size < w3.heap.size := (by first | (simp; done) | (simp; omega) | omega)
  have cx1_0_0 : w3.cell? ⟨w.heap.size, 0, none⟩ = some (.int .i64 (y)) := by go_simp
  have cx1_0_1 : w3.cell? ⟨w.heap.size, 1, none⟩ = some (.int .i64 (12)) := by go_simp
  have cx1_0_2 : w3.cell? ⟨w.heap.size, 2, none⟩ = some (.int .i64 (31)) := by go_simp
  have sx1_1 : w.heap.size + 1 < w3.heap.size := (by first | (simp; done) | (simp; omega) | omega)
  have cx1_1_0 : w3.cell? ⟨w.heap.size + 1, 0, none⟩ = some (.int .i64 (y)) := by go_simp
  have cx1_1_1 : w3.cell? ⟨w.heap.size + 1, 1, none⟩ = some (.int .i64 (12)) := by go_simp
  have cx1_1_2 : w3.cell? ⟨w.heap.size + 1, 2, none⟩ = some (.int .i64 (31)) := by go_simp
  clear B3 c3_0_0 c3_0_1 c3_0_2 c3_1_0 c3_1_1 c3_1_2
  generalize w3 = x1 at *
  try dsimp only [List.append]
  refine wp_region_bw (by kernel_rfl) (by kernel_rfl) ?_; (repeat (go_big_quiet_step ((go_at_call 58; with_reducible exact bw_call (hC1 _))))); refine wpQuiet_nil ?_; intro _ hw'; obtain ⟨xq, hw''⟩ := hw'; subst hw''
  have Bx2 : Below w.heap.size w xq.val := Bx1.trans (xq.below.mono nx1)
  have nx2 : w.heap.size ≤ xq.val.heap.size := Bx2.size
  have sx2_0 : w.heap.size < xq.val.heap.size := Nat.lt_of_lt_of_le (by first | (simp; done) | (simp; omega) | omega) xq.below.size
  have cx2_0_0 : xq.val.cell? ⟨w.heap.size, 0, none⟩ = some (.int .i64 (y)) := (xq.cell (w.heap.size) 0 (by first | (simp; done) | (simp; omega) | omega)).trans (by go_simp)
  have cx2_0_1 : xq.val.cell? ⟨w.heap.size, 1, none⟩ = some (.int .i64 (12)) := (xq.cell (w.heap.size) 1 (by first | (simp; done) | (simp; omega) | omega)).trans (by go_simp)
  have cx2_0_2 : xq.val.cell? ⟨w.heap.size, 2, none⟩ = some (.int .i64 (31)) := (xq.cell (w.heap.size) 2 (by first | (simp; done) | (simp; omega) | omega)).trans (by go_simp)
  clear Bx1 cx1_0_0 cx1_0_1 cx1_0_2 cx1_1_0 cx1_1_1 cx1_1_2
  generalize xq.val = x2 at *
  go_wp2_with fail
  have Bx3 : Below w.heap.size w (x2.alloc (.cells #[.int .i64 (y), .int .i64 (12), .int .i64 (32)] 48)) := by (focus (repeat' (first | assumption | exact Below.refl _ _ | refine Below.alloc ?_ ?_ _ | refine Below.setCell ?_ ?_ _ | refine Below.drew ?_ | refine below_drewN ?_ _ | refine Below.trans ?_ (Below.mono (by assumption) ?_) | refine Below.trans ?_ (Below.mono (BW.below _) ?_) | (simp; done) | (simp; omega) | omega)))
  have nx3 : w.heap.size ≤ (x2.alloc (.cells #[.int .i64 (y), .int .i64 (12), .int .i64 (32)] 48)).heap.size := Bx3.size
  have sx3_0 : w.heap.size < (x2.alloc (.cells #[.int .i64 (y), .int .i64 (12), .int .i64 (32)] 48)).heap.size := (by first | (simp; done) | (simp; omega) | omega)
  have cx3_0_0 : (x2.alloc (.cells #[.int .i64 (y), .int .i64 (12), .int .i64 (32)] 48)).cell? ⟨w.heap.size, 0, none⟩ = some (.int .i64 (y)) := by go_simp
  have cx3_0_1 : (x2.alloc (.cells #[.int .i64 (y), .int .i64 (12), .int .i64 (32)] 48)).cell? ⟨w.heap.size, 1, none⟩ = some (.int .i64 (12)) := by go_simp
  have cx3_0_2 : (x2.alloc (.cells #[.int .i64 (y), .int .i64 (12), .int .i64 (32)] 48)).cell? ⟨w.heap.size, 2, none⟩ = some (.int .i64 (31)) := by go_simp
  have sx3_1 : x2.heap.size < (x2.alloc (.cells #[.int .i64 (y), .int .i64 (12), .int .i64 (32)] 48)).heap.size := (by first | (simp; done) | (simp; omega) | omega)
  have cx3_1_0 : (x2.alloc (.cells #[.int .i64 (y), .int .i64 (12), .int .i64 (32)] 48)).cell? ⟨x2.heap.size, 0, none⟩ = some (.int .i64 (y)) := by go_simp
  have cx3_1_1 : (x2.alloc (.cells #[.int .i64 (y), .int .i64 (12), .int .i64 (32)] 48)).cell? ⟨x2.heap.size, 1, none⟩ = some (.int .i64 (12)) := by go_simp
  have cx3_1_2 : (x2.alloc (.cells #[.int .i64 (y), .int .i64 (12), .int .i64 (32)] 48)).cell? ⟨x2.heap.size, 2, none⟩ = some (.int .i64 (32)) := by go_simp
  have fx3_1_0 : (x2.alloc (.cells #[.int .i64 (y), .int .i64 (12), .int .i64 (32)] 48)).frozen? ⟨x2.heap.size, 0, none⟩ = false := by go_simp
  have fx3_1_1 : (x2.alloc (.cells #[.int .i64 (y), .int .i64 (12), .int .i64 (32)] 48)).frozen? ⟨x2.heap.size, 1, none⟩ = false := by go_simp
  have fx3_1_2 : (x2.alloc (.cells #[.int .i64 (y), .int .i64 (12), .int .i64 (32)] 48)).frozen? ⟨x2.heap.size, 2, none⟩ = false := by go_simp
  clear Bx2 cx2_0_0 cx2_0_1 cx2_0_2
  generalize (x2.alloc (.cells #[.int .i64 (y), .int .i64 (12), .int .i64 (32)] 48)) = x3 at *
  try dsimp only [List.append]
  refine wp_region_bw (by kernel_rfl) (by kernel_rfl) ?_; (repeat (go_big_quiet_step ((go_at_call 52; with_reducible exact bw_same (hL _))))); refine wpQuiet_nil ?_; intro _ hw'; obtain ⟨xq, hw''⟩ := hw'; subst hw''
  have Bx4 : Below w.heap.size w xq.val := Bx3.trans (xq.below.mono nx3)
  have nx4 : w.heap.size ≤ xq.val.heap.size := Bx4.size
  have sx4_0 : w.heap.size < xq.val.heap.size := Nat.lt_of_lt_of_le (by first | (simp; done) | (simp; omega) | omega) xq.below.size
  have cx4_0_0 : xq.val.cell? ⟨w.heap.size, 0, none⟩ = some (.int .i64 (y)) := (xq.cell (w.heap.size) 0 (by first | (simp; done) | (simp; omega) | omega)).trans (by go_simp)
  have cx4_0_1 : xq.val.cell? ⟨w.heap.size, 1, none⟩ = some (.int .i64 (12)) := (xq.cell (w.heap.size) 1 (by first | (simp; done) | (simp; omega) | omega)).trans (by go_simp)
  have cx4_0_2 : xq.val.cell? ⟨w.heap.size, 2, none⟩ = some (.int .i64 (31)) := (xq.cell (w.heap.size) 2 (by first | (simp; done) | (simp; omega) | omega)).trans (by go_simp)
  have sx4_1 : x2.heap.size < xq.val.heap.size := Nat.lt_of_lt_of_le (by first | (simp; done) | (simp; omega) | omega) xq.below.size
  have cx4_1_0 : xq.val.cell? ⟨x2.heap.size, 0, none⟩ = some (.int .i64 (y)) := (xq.cell (x2.heap.size) 0 (by first | (simp; done) | (simp; omega) | omega)).trans (by go_simp)
  have fx4_1_0 : xq.val.frozen? ⟨x2.heap.size, 0, none⟩ = false := (xq.frozen (x2.heap.size) 0 (by first | (simp; done) | (simp; omega) | omega)).trans (by go_simp)
  have cx4_1_1 : xq.val.cell? ⟨x2.heap.size, 1, none⟩ = some (.int .i64 (12)) := (xq.cell (x2.heap.size) 1 (by first | (simp; done) | (simp; omega) | omega)).trans (by go_simp)
  have fx4_1_1 : xq.val.frozen? ⟨x2.heap.size, 1, none⟩ = false := (xq.frozen (x2.heap.size) 1 (by first | (simp; done) | (simp; omega) | omega)).trans (by go_simp)
  have cx4_1_2 : xq.val.cell? ⟨x2.heap.size, 2, none⟩ = some (.int .i64 (32)) := (xq.cell (x2.heap.size) 2 (by first | (simp; done) | (simp; omega) | omega)).trans (by go_simp)
  have fx4_1_2 : xq.val.frozen? ⟨x2.heap.size, 2, none⟩ = false := (xq.frozen (x2.heap.size) 2 (by first | (simp; done) | (simp; omega) | omega)).trans (by go_simp)
  clear Bx3 cx3_0_0 cx3_0_1 cx3_0_2 cx3_1_0 cx3_1_1 cx3_1_2 fx3_1_0 fx3_1_1 fx3_1_2
  generalize xq.val = x4 at *
  go_wp2_with fail
  refine (hN _).mono ?_
  rintro e w4 ⟨rfl, hb4⟩
  have B4 : Below w.heap.size w w4 := by (focus (repeat' (first | assumption | exact Below.refl _ _ | refine Below.alloc ?_ ?_ _ | refine Below.setCell ?_ ?_ _ | refine Below.drew ?_ | refine below_drewN ?_ _ | refine Below.trans ?_ (Below.mono (by assumption) ?_) | refine Below.trans ?_ (Below.mono (BW.below _) ?_) | (simp; done) | (simp; omega) | omega)))
  have n4 : w.heap.size ≤ w4.heap.size := B4.size
  have s4_0 : w.heap.size < w4.heap.size := Nat.lt_of_lt_of_le (by first | (simp; done) | (simp; omega) | omega) hb4.size
  have c4_0_0 : w4.cell? ⟨w.heap.size, 0, none⟩ = some (.int .i64 (y)) := (hb4.cell (p := ⟨w.heap.size, 0, none⟩) (by first | (simp; done) | (simp; omega) | omega)).trans (by go_simp)
  have c4_0_1 : w4.cell? ⟨w.heap.size, 1, none⟩ = some (.int .i64 (12)) := (hb4.cell (p := ⟨w.heap.size, 1, none⟩) (by first | (simp; done) | (simp; omega) | omega)).trans (by go_simp)
  have c4_0_2 : w4.cell? ⟨w.heap.size, 2, none⟩ = some (.int .i64 (31)) := (hb4.cell (p := ⟨w.heap.size, 2, none⟩) (by first | (simp; done) | (simp; omega) | omega)).trans (by go_simp)
  have s4_1 : x2.heap.size < w4.heap.size := Nat.lt_of_lt_of_le (by first | (simp; done) | (simp; omega) | omega) hb4.size
  have c4_1_0 : w4.cell? ⟨x2.heap.size, 0, none⟩ = some (.int .i64 (y + 1)) := (hb4.cell (p := ⟨x2.heap.size, 0, none⟩) (by first | (simp; done) | (simp; omega) | omega)).trans (by go_simp)
  have c4_1_1 : w4.cell? ⟨x2.heap.size, 1, none⟩ = some (.int .i64 1) := (hb4.cell (p := ⟨x2.heap.size, 1, none⟩) (by first | (simp; done) | (simp; omega) | omega)).trans (by go_simp)
  have c4_1_2 : w4.cell? ⟨x2.heap.size, 2, none⟩ = some (.int .i64 1) := (hb4.cell (p := ⟨x2.heap.size, 2, none⟩) (by first | (simp; done) | (simp; omega) | omega)).trans (by go_simp)
  have f4_1_0 : w4.frozen? ⟨x2.heap.size, 0, none⟩ = false := (hb4.frozen (p := ⟨x2.heap.size, 0, none⟩) (by first | (simp; done) | (simp; omega) | omega)).trans (by go_simp)
  have f4_1_1 : w4.frozen? ⟨x2.heap.size, 1, none⟩ = false := (hb4.frozen (p := ⟨x2.heap.size, 1, none⟩) (by first | (simp; done) | (simp; omega) | omega)).trans (by go_simp)
  have f4_1_2 : w4.frozen? ⟨x2.heap.size, 2, none⟩ = false := (hb4.frozen (p := ⟨x2.heap.size, 2, none⟩) (by first | (simp; done) | (simp; omega) | omega)).trans (by go_simp)
  clear hb4 Bx4 cx4_0_0 cx4_0_1 cx4_0_2 cx4_1_0 fx4_1_0 cx4_1_1 fx4_1_1 cx4_1_2 fx4_1_2
  go_wp2_with fail
  refine (hP _).mono ?_
  rintro e w5 ⟨rfl, hb5⟩
  have B5 : Below w.heap.size w w5 := by (focus (repeat' (first | assumption | exact Below.refl _ _ | refine Below.alloc ?_ ?_ _ | refine Below.setCell ?_ ?_ _ | refine Below.drew ?_ | refine below_drewN ?_ _ | refine Below.trans ?_ (Below.mono (by assumption) ?_) | refine Below.trans ?_ (Below.mono (BW.below _) ?_) | (simp; done) | (simp; omega) | omega)))
  have n5 : w.heap.size ≤ w5.heap.size := B5.size
  have s5_0 : w.heap.size < w5.heap.size := Nat.lt_of_lt_of_le (by first | (simp; done) | (simp; omega) | omega) hb5.size
  have c5_0_0 : w5.cell? ⟨w.heap.size, 0, none⟩ = some (.int .i64 (y)) := (hb5.cell (p := ⟨w.heap.size, 0, none⟩) (by first | (simp; done) | (simp; omega) | omega)).trans (by go_simp)
  have c5_0_1 : w5.cell? ⟨w.heap.size, 1, none⟩ = some (.int .i64 (12)) := (hb5.cell (p := ⟨w.heap.size, 1, none⟩) (by first | (simp; done) | (simp; omega) | omega)).trans (by go_simp)
  have c5_0_2 : w5.cell? ⟨w.heap.size, 2, none⟩ = some (.int .i64 (31)) := (hb5.cell (p := ⟨w.heap.size, 2, none⟩) (by first | (simp; done) | (simp; omega) | omega)).trans (by go_simp)
  have s5_1 : x2.heap.size < w5.heap.size := Nat.lt_of_lt_of_le (by first | (simp; done) | (simp; omega) | omega) hb5.size
  have c5_1_0 : w5.cell? ⟨x2.heap.size, 0, none⟩ = some (.int .i64 (y + 1)) := (hb5.cell (p := ⟨x2.heap.size, 0, none⟩) (by first | (simp; done) | (simp; omega) | omega)).trans (by go_simp)
  have c5_1_1 : w5.cell? ⟨x2.heap.size, 1, none⟩ = some (.int .i64 1) := (hb5.cell (p := ⟨x2.heap.size, 1, none⟩) (by first | (simp; done) | (simp; omega) | omega)).trans (by go_simp)
  have c5_1_2 : w5.cell? ⟨x2.heap.size, 2, none⟩ = some (.int .i64 1) := (hb5.cell (p := ⟨x2.heap.size, 2, none⟩) (by first | (simp; done) | (simp; omega) | omega)).trans (by go_simp)
  have f5_1_0 : w5.frozen? ⟨x2.heap.size, 0, none⟩ = false := (hb5.frozen (p := ⟨x2.heap.size, 0, none⟩) (by first | (simp; done) | (simp; omega) | omega)).trans (by go_simp)
  have f5_1_1 : w5.frozen? ⟨x2.heap.size, 1, none⟩ = false := (hb5.frozen (p := ⟨x2.heap.size, 1, none⟩) (by first | (simp; done) | (simp; omega) | omega)).trans (by go_simp)
  have f5_1_2 : w5.frozen? ⟨x2.heap.size, 2, none⟩ = false := (hb5.frozen (p := ⟨x2.heap.size, 2, none⟩) (by first | (simp; done) | (simp; omega) | omega)).trans (by go_simp)
  clear hb5 B4 c4_0_0 c4_0_1 c4_0_2 c4_1_0 c4_1_1 c4_1_2 f4_1_0 f4_1_1 f4_1_2
  go_wp2_with fail
  refine (hQ _).mono ?_
  rintro e w6 ⟨rfl, hb6⟩
  have B6 : Below w.heap.size w w6 := by (focus (repeat' (first | assumption | exact Below.refl _ _ | refine Below.alloc ?_ ?_ _ | refine Below.setCell ?_ ?_ _ | refine Below.drew ?_ | refine below_drewN ?_ _ | refine Below.trans ?_ (Below.mono (by assumption) ?_) | refine Below.trans ?_ (Below.mono (BW.below _) ?_) | (simp; done) | (simp; omega) | omega)))
  have n6 : w.heap.size ≤ w6.heap.size := B6.size
  have s6_0 : w.heap.size < w6.heap.size := Nat.lt_of_lt_of_le (by first | (simp; done) | (simp; omega) | omega) hb6.size
  have c6_0_0 : w6.cell? ⟨w.heap.size, 0, none⟩ = some (.int .i64 (y)) := (hb6.cell (p := ⟨w.heap.size, 0, none⟩) (by first | (simp; done) | (simp; omega) | omega)).trans (by go_simp)
  have c6_0_1 : w6.cell? ⟨w.heap.size, 1, none⟩ = some (.int .i64 (12)) := (hb6.cell (p := ⟨w.heap.size, 1, none⟩) (by first | (simp; done) | (simp; omega) | omega)).trans (by go_simp)
  have c6_0_2 : w6.cell? ⟨w.heap.size, 2, none⟩ = some (.int .i64 (31)) := (hb6.cell (p := ⟨w.heap.size, 2, none⟩) (by first | (simp; done) | (simp; omega) | omega)).trans (by go_simp)
  have s6_1 : x2.heap.size < w6.heap.size := Nat.lt_of_lt_of_le (by first | (simp; done) | (simp; omega) | omega) hb6.size
  have c6_1_0 : w6.cell? ⟨x2.heap.size, 0, none⟩ = some (.int .i64 (y + 1)) := (hb6.cell (p := ⟨x2.heap.size, 0, none⟩) (by first | (simp; done) | (simp; omega) | omega)).trans (by go_simp)
  have c6_1_1 : w6.cell? ⟨x2.heap.size, 1, none⟩ = some (.int .i64 1) := (hb6.cell (p := ⟨x2.heap.size, 1, none⟩) (by first | (simp; done) | (simp; omega) | omega)).trans (by go_simp)
  have c6_1_2 : w6.cell? ⟨x2.heap.size, 2, none⟩ = some (.int .i64 1) := (hb6.cell (p := ⟨x2.heap.size, 2, none⟩) (by first | (simp; done) | (simp; omega) | omega)).trans (by go_simp)
  have f6_1_0 : w6.frozen? ⟨x2.heap.size, 0, none⟩ = false := (hb6.frozen (p := ⟨x2.heap.size, 0, none⟩) (by first | (simp; done) | (simp; omega) | omega)).trans (by go_simp)
  have f6_1_1 : w6.frozen? ⟨x2.heap.size, 1, none⟩ = false := (hb6.frozen (p := ⟨x2.heap.size, 1, none⟩) (by first | (simp; done) | (simp; omega) | omega)).trans (by go_simp)
  have f6_1_2 : w6.frozen? ⟨x2.heap.size, 2, none⟩ = false := (hb6.frozen (p := ⟨x2.heap.size, 2, none⟩) (by first | (simp; done) | (simp; omega) | omega)).trans (by go_simp)
  clear hb6 B5 c5_0_0 c5_0_1 c5_0_2 c5_1_0 c5_1_1 c5_1_2 f5_1_0 f5_1_1 f5_1_2
  go_wp2_with fail
  refine (hW1 _).mono ?_
  rintro e w7 ⟨rfl, hb7⟩
  have B7 : Below w.heap.size w w7 := by (focus (repeat' (first | assumption | exact Below.refl _ _ | refine Below.alloc ?_ ?_ _ | refine Below.setCell ?_ ?_ _ | refine Below.drew ?_ | refine below_drewN ?_ _ | refine Below.trans ?_ (Below.mono (by assumption) ?_) | refine Below.trans ?_ (Below.mono (BW.below _) ?_) | (simp; done) | (simp; omega) | omega)))
  have n7 : w.heap.size ≤ w7.heap.size := B7.size
  have s7_0 : w.heap.size < w7.heap.size := Nat.lt_of_lt_of_le (by first | (simp; done) | (simp; omega) | omega) hb7.size
  have c7_0_0 : w7.cell? ⟨w.heap.size, 0, none⟩ = some (.int .i64 (y)) := (hb7.cell (p := ⟨w.heap.size, 0, none⟩) (by first | (simp; done) | (simp; omega) | omega)).trans (by go_simp)
  have c7_0_1 : w7.cell? ⟨w.heap.size, 1, none⟩ = some (.int .i64 (12)) := (hb7.cell (p := ⟨w.heap.size, 1, none⟩) (by first | (simp; done) | (simp; omega) | omega)).trans (by go_simp)
  have c7_0_2 : w7.cell? ⟨w.heap.size, 2, none⟩ = some (.int .i64 (31)) := (hb7.cell (p := ⟨w.heap.size, 2, none⟩) (by first | (simp; done) | (simp; omega) | omega)).trans (by go_simp)
  have s7_1 : x2.heap.size < w7.heap.size := Nat.lt_of_lt_of_le (by first | (simp; done) | (simp; omega) | omega) hb7.size
  have c7_1_0 : w7.cell? ⟨x2.heap.size, 0, none⟩ = some (.int .i64 (y + 1)) := (hb7.cell (p := ⟨x2.heap.size, 0, none⟩) (by first | (simp; done) | (simp; omega) | omega)).trans (by go_simp)
  have c7_1_1 : w7.cell? ⟨x2.heap.size, 1, none⟩ = some (.int .i64 1) := (hb7.cell (p := ⟨x2.heap.size, 1, none⟩) (by first | (simp; done) | (simp; omega) | omega)).trans (by go_simp)
  have c7_1_2 : w7.cell? ⟨x2.heap.size, 2, none⟩ = some (.int .i64 1) := (hb7.cell (p := ⟨x2.heap.size, 2, none⟩) (by first | (simp; done) | (simp; omega) | omega)).trans (by go_simp)
  have f7_1_0 : w7.frozen? ⟨x2.heap.size, 0, none⟩ = false := (hb7.frozen (p := ⟨x2.heap.size, 0, none⟩) (by first | (simp; done) | (simp; omega) | omega)).trans (by go_simp)
  have f7_1_1 : w7.frozen? ⟨x2.heap.size, 1, none⟩ = false := (hb7.frozen (p := ⟨x2.heap.size, 1, none⟩) (by first | (simp; done) | (simp; omega) | omega)).trans (by go_simp)
  have f7_1_2 : w7.frozen? ⟨x2.heap.size, 2, none⟩ = false := (hb7.frozen (p := ⟨x2.heap.size, 2, none⟩) (by first | (simp; done) | (simp; omega) | omega)).trans (by go_simp)
  clear hb7 B6 c6_0_0 c6_0_1 c6_0_2 c6_1_0 c6_1_1 c6_1_2 f6_1_0 f6_1_1 f6_1_2
  go_wp2_with fail
  refine (hW _).mono ?_
  rintro e w8 ⟨rfl, hb8⟩
  have B8 : Below w.heap.size w w8 := by (focus (repeat' (first | assumption | exact Below.refl _ _ | refine Below.alloc ?_ ?_ _ | refine Below.setCell ?_ ?_ _ | refine Below.drew ?_ | refine below_drewN ?_ _ | refine Below.trans ?_ (Below.mono (by assumption) ?_) | refine Below.trans ?_ (Below.mono (BW.below _) ?_) | (simp; done) | (simp; omega) | omega)))
  have n8 : w.heap.size ≤ w8.heap.size := B8.size
  have s8_0 : w.heap.size < w8.heap.size := Nat.lt_of_lt_of_le (by first | (simp; done) | (simp; omega) | omega) hb8.size
  have c8_0_0 : w8.cell? ⟨w.heap.size, 0, none⟩ = some (.int .i64 (y)) := (hb8.cell (p := ⟨w.heap.size, 0, none⟩) (by first | (simp; done) | (simp; omega) | omega)).trans (by go_simp)
  have c8_0_1 : w8.cell? ⟨w.heap.size, 1, none⟩ = some (.int .i64 (12)) := (hb8.cell (p := ⟨w.heap.size, 1, none⟩) (by first | (simp; done) | (simp; omega) | omega)).trans (by go_simp)
  have c8_0_2 : w8.cell? ⟨w.heap.size, 2, none⟩ = some (.int .i64 (31)) := (hb8.cell (p := ⟨w.heap.size, 2, none⟩) (by first | (simp; done) | (simp; omega) | omega)).trans (by go_simp)
  have s8_1 : x2.heap.size < w8.heap.size := Nat.lt_of_lt_of_le (by first | (simp; done) | (simp; omega) | omega) hb8.size
  have c8_1_0 : w8.cell? ⟨x2.heap.size, 0, none⟩ = some (.int .i64 (y + 1)) := (hb8.cell (p := ⟨x2.heap.size, 0, none⟩) (by first | (simp; done) | (simp; omega) | omega)).trans (by go_simp)
  have c8_1_1 : w8.cell? ⟨x2.heap.size, 1, none⟩ = some (.int .i64 1) := (hb8.cell (p := ⟨x2.heap.size, 1, none⟩) (by first | (simp; done) | (simp; omega) | omega)).trans (by go_simp)
  have c8_1_2 : w8.cell? ⟨x2.heap.size, 2, none⟩ = some (.int .i64 1) := (hb8.cell (p := ⟨x2.heap.size, 2, none⟩) (by first | (simp; done) | (simp; omega) | omega)).trans (by go_simp)
  have f8_1_0 : w8.frozen? ⟨x2.heap.size, 0, none⟩ = false := (hb8.frozen (p := ⟨x2.heap.size, 0, none⟩) (by first | (simp; done) | (simp; omega) | omega)).trans (by go_simp)
  have f8_1_1 : w8.frozen? ⟨x2.heap.size, 1, none⟩ = false := (hb8.frozen (p := ⟨x2.heap.size, 1, none⟩) (by first | (simp; done) | (simp; omega) | omega)).trans (by go_simp)
  have f8_1_2 : w8.frozen? ⟨x2.heap.size, 2, none⟩ = false := (hb8.frozen (p := ⟨x2.heap.size, 2, none⟩) (by first | (simp; done) | (simp; omega) | omega)).trans (by go_simp)
  clear hb8 B7 c7_0_0 c7_0_1 c7_0_2 c7_1_0 c7_1_1 c7_1_2 f7_1_0 f7_1_1 f7_1_2
  go_wp2_with fail
  refine (hL2 _).mono ?_
  rintro e w' ⟨rfl, rfl⟩
  go_wp2_with fail
  go_ret
  exact ⟨ret_bool (by rw [Bool.or_eq_true]; right; simp; omega), by (focus (repeat' (first | assumption | exact Below.refl _ _ | refine Below.alloc ?_ ?_ _ | refine Below.setCell ?_ ?_ _ | refine Below.drew ?_ | refine below_drewN ?_ _ | refine Below.trans ?_ (Below.mono (by assumption) ?_) | refine Below.trans ?_ (Below.mono (BW.below _) ?_) | (simp; done) | (simp; omega) | omega)))⟩
set_option maxRecDepth 100000 in
set_option maxHeartbeats 8000000 in
theorem CivilSteps_eqe  (h : rightB 40000 12 31 = true) (hc : cmp3 40000 12 31 40000 12 31 = 0) (w : World) : Calls Try.prog 9 #[dat 40000 12 31, dat 40000 12 31] w fun e w' => e = .returned (.bool true) ∧ Below w.heap.size w w' := by
  have ky : I64 40000 := I64.sm (by omega)
  have hc1 := hc
  have hD := fun w => civil_Days 40000 12 31 ky w
  rw [(days_y h).1, (days_y h).2.1] at hD
  have hC1 := fun w => civil_Compare 40000 12 31 40000 12 31 w
  rw [hc] at hC1
  have r := (right_iff 40000 12 31).1 h
  obtain ⟨ry0, ry1, rm0, rm1, rd0, rd1⟩ := r
  have hN := fun w => civil_Days 40001 1 1 (I64.sm (by omega)) w
  rw [show dayV 40001 1 1 = 0 by decide, show dayE 40001 1 1 = 1 by decide] at hN
  generalize numb 40000 12 31 = N at *
  have hL := fun w => civil_Len 40000 12 ky w
  rw [show mlen 40000 12 = 31 by simp [mlen]] at hL
  clear h hc hc1
  clear rd1 rm0 rm1 rd0
  go_enter Try.func9, Try.ntmps9
  go_wp2_with fail
  refine (civ_lives _).mono ?_
  rintro e w1 ⟨rfl, hb1⟩
  have B1 : Below w.heap.size w w1 := by (focus (repeat' (first | assumption | exact Below.refl _ _ | refine Below.alloc ?_ ?_ _ | refine Below.setCell ?_ ?_ _ | refine Below.drew ?_ | refine below_drewN ?_ _ | refine Below.trans ?_ (Below.mono (by assumption) ?_) | refine Below.trans ?_ (Below.mono (BW.below _) ?_) | (simp; done) | (simp; omega) | omega)))
  have n1 : w.heap.size ≤ w1.heap.size := B1.size
  have s1_0 : w.heap.size < w1.heap.size := Nat.lt_of_lt_of_le (by first | (simp; done) | (simp; omega) | omega) hb1.size
  have c1_0_0 : w1.cell? ⟨w.heap.size, 0, none⟩ = some (.int .i64 (40000)) := (hb1.cell (p := ⟨w.heap.size, 0, none⟩) (by first | (simp; done) | (simp; omega) | omega)).trans (by go_simp)
  have c1_0_1 : w1.cell? ⟨w.heap.size, 1, none⟩ = some (.int .i64 (12)) := (hb1.cell (p := ⟨w.heap.size, 1, none⟩) (by first | (simp; done) | (simp; omega) | omega)).trans (by go_simp)
  have c1_0_2 : w1.cell? ⟨w.heap.size, 2, none⟩ = some (.int .i64 (31)) := (hb1.cell (p := ⟨w.heap.size, 2, none⟩) (by first | (simp; done) | (simp; omega) | omega)).trans (by go_simp)
  have s1_1 : w.heap.size + 1 < w1.heap.size := Nat.lt_of_lt_of_le (by first | (simp; done) | (simp; omega) | omega) hb1.size
  have c1_1_0 : w1.cell? ⟨w.heap.size + 1, 0, none⟩ = some (.int .i64 (40000)) := (hb1.cell (p := ⟨w.heap.size + 1, 0, none⟩) (by first | (simp; done) | (simp; omega) | omega)).trans (by go_simp)
  have c1_1_1 : w1.cell? ⟨w.heap.size + 1, 1, none⟩ = some (.int .i64 (12)) := (hb1.cell (p := ⟨w.heap.size + 1, 1, none⟩) (by first | (simp; done) | (simp; omega) | omega)).trans (by go_simp)
  have c1_1_2 : w1.cell? ⟨w.heap.size + 1, 2, none⟩ = some (.int .i64 (31)) := (hb1.cell (p := ⟨w.heap.size + 1, 2, none⟩) (by first | (simp; done) | (simp; omega) | omega)).trans (by go_simp)
  clear hb1
  go_wp2_with fail
  refine (hD _).mono ?_
  rintro e w2 ⟨rfl, hb2⟩
  have B2 : Below w.heap.size w w2 := by (focus (repeat' (first | assumption | exact Below.refl _ _ | refine Below.alloc ?_ ?_ _ | refine Below.setCell ?_ ?_ _ | refine Below.drew ?_ | refine below_drewN ?_ _ | refine Below.trans ?_ (Below.mono (by assumption) ?_) | refine Below.trans ?_ (Below.mono (BW.below _) ?_) | (simp; done) | (simp; omega) | omega)))
  have n2 : w.heap.size ≤ w2.heap.size := B2.size
  have s2_0 : w.heap.size < w2.heap.size := Nat.lt_of_lt_of_le (by first | (simp; done) | (simp; omega) | omega) hb2.size
  have c2_0_0 : w2.cell? ⟨w.heap.size, 0, none⟩ = some (.int .i64 (40000)) := (hb2.cell (p := ⟨w.heap.size, 0, none⟩) (by first | (simp; done) | (simp; omega) | omega)).trans (by go_simp)
  have c2_0_1 : w2.cell? ⟨w.heap.size, 1, none⟩ = some (.int .i64 (12)) := (hb2.cell (p := ⟨w.heap.size, 1, none⟩) (by first | (simp; done) | (simp; omega) | omega)).trans (by go_simp)
  have c2_0_2 : w2.cell? ⟨w.heap.size, 2, none⟩ = some (.int .i64 (31)) := (hb2.cell (p := ⟨w.heap.size, 2, none⟩) (by first | (simp; done) | (simp; omega) | omega)).trans (by go_simp)
  have s2_1 : w.heap.size + 1 < w2.heap.size := Nat.lt_of_lt_of_le (by first | (simp; done) | (simp; omega) | omega) hb2.size
  have c2_1_0 : w2.cell? ⟨w.heap.size + 1, 0, none⟩ = some (.int .i64 (40000)) := (hb2.cell (p := ⟨w.heap.size + 1, 0, none⟩) (by first | (simp; done) | (simp; omega) | omega)).trans (by go_simp)
  have c2_1_1 : w2.cell? ⟨w.heap.size + 1, 1, none⟩ = some (.int .i64 (12)) := (hb2.cell (p := ⟨w.heap.size + 1, 1, none⟩) (by first | (simp; done) | (simp; omega) | omega)).trans (by go_simp)
  have c2_1_2 : w2.cell? ⟨w.heap.size + 1, 2, none⟩ = some (.int .i64 (31)) := (hb2.cell (p := ⟨w.heap.size + 1, 2, none⟩) (by first | (simp; done) | (simp; omega) | omega)).trans (by go_simp)
  clear hb2 B1 c1_0_0 c1_0_1 c1_0_2 c1_1_0 c1_1_1 c1_1_2
  go_wp2_with fail
  refine (hD _).mono ?_
  rintro e w3 ⟨rfl, hb3⟩
  have B3 : Below w.heap.size w w3 := by (focus (repeat' (first | assumption | exact Below.refl _ _ | refine Below.alloc ?_ ?_ _ | refine Below.setCell ?_ ?_ _ | refine Below.drew ?_ | refine below_drewN ?_ _ | refine Below.trans ?_ (Below.mono (by assumption) ?_) | refine Below.trans ?_ (Below.mono (BW.below _) ?_) | (simp; done) | (simp; omega) | omega)))
  have n3 : w.heap.size ≤ w3.heap.size := B3.size
  have s3_0 : w.heap.size < w3.heap.size := Nat.lt_of_lt_of_le (by first | (simp; done) | (simp; omega) | omega) hb3.size
  have c3_0_0 : w3.cell? ⟨w.heap.size, 0, none⟩ = some (.int .i64 (40000)) := (hb3.cell (p := ⟨w.heap.size, 0, none⟩) (by first | (simp; done) | (simp; omega) | omega)).trans (by go_simp)
  have c3_0_1 : w3.cell? ⟨w.heap.size, 1, none⟩ = some (.int .i64 (12)) := (hb3.cell (p := ⟨w.heap.size, 1, none⟩) (by first | (simp; done) | (simp; omega) | omega)).trans (by go_simp)
  have c3_0_2 : w3.cell? ⟨w.heap.size, 2, none⟩ = some (.int .i64 (31)) := (hb3.cell (p := ⟨w.heap.size, 2, none⟩) (by first | (simp; done) | (simp; omega) | omega)).trans (by go_simp)
  have s3_1 : w.heap.size + 1 < w3.heap.size := Nat.lt_of_lt_of_le (by first | (simp; done) | (simp; omega) | omega) hb3.size
  have c3_1_0 : w3.cell? ⟨w.heap.size + 1, 0, none⟩ = some (.int .i64 (40000)) := (hb3.cell (p := ⟨w.heap.size + 1, 0, none⟩) (by first | (simp; done) | (simp; omega) | omega)).trans (by go_simp)
  have c3_1_1 : w3.cell? ⟨w.heap.size + 1, 1, none⟩ = some (.int .i64 (12)) := (hb3.cell (p := ⟨w.heap.size + 1, 1, none⟩) (by first | (simp; done) | (simp; omega) | omega)).trans (by go_simp)
  have c3_1_2 : w3.cell? ⟨w.heap.size + 1, 2, none⟩ = some (.int .i64 (31)) := (hb3.cell (p := ⟨w.heap.size + 1, 2, none⟩) (by first | (simp; done) | (simp; omega) | omega)).trans (by go_simp)
  clear hb3 B2 c2_0_0 c2_0_1 c2_0_2 c2_1_0 c2_1_1 c2_1_2
  go_wp2_with fail
  have Bx1 : Below w.heap.size w w3 := by (focus (repeat' (first | assumption | exact Below.refl _ _ | refine Below.alloc ?_ ?_ _ | refine Below.setCell ?_ ?_ _ | refine Below.drew ?_ | refine below_drewN ?_ _ | refine Below.trans ?_ (Below.mono (by assumption) ?_) | refine Below.trans ?_ (Below.mono (BW.below _) ?_) | (simp; done) | (simp; omega) | omega)))
  have nx1 : w.heap.size ≤ w3.heap.size := Bx1.size
  have sx1_0 : w.heap.size < w3.heap.size := (by first | (simp; done) | (simp; omega) | omega)
  have cx1_0_0 : w3.cell? ⟨w.heap.size, 0, none⟩ = some (.int .i64 (40000)) := by go_simp
  have cx1_0_1 : w3.cell? ⟨w.heap.size, 1, none⟩ = some (.int .i64 (12)) := by go_simp
  have cx1_0_2 : w3.cell? ⟨w.heap.size, 2, none⟩ = some (.int .i64 (31)) := by go_simp
  have sx1_1 : w.heap.size + 1 < w3.heap.size := (by first | (simp; done) | (simp; omega) | omega)
  have cx1_1_0 : w3.cell? ⟨w.heap.size + 1, 0, none⟩ = some (.int .i64 (40000)) := by go_simp
  have cx1_1_1 : w3.cell? ⟨w.heap.size + 1, 1, none⟩ = some (.int .i64 (12)) := by go_simp
  have cx1_1_2 : w3.cell? ⟨w.heap.size + 1, 2, none⟩ = some (.int .i64 (31)) := by go_simp
  clear B3 c3_0_0 c3_0_1 c3_0_2 c3_1_0 c3_1_1 c3_1_2
  generalize w3 = x1 at *
  try dsimp only [List.append]
  refine wp_region_bw (by kernel_rfl) (by kernel_rfl) ?_; (repeat (go_big_quiet_step ((go_at_call 58; with_reducible exact bw_call (hC1 _))))); refine wpQuiet_nil ?_; intro _ hw'; obtain ⟨xq, hw''⟩ := hw'; subst hw''
  have Bx2 : Below w.heap.size w xq.val := Bx1.trans (xq.below.mono nx1)
  have nx2 : w.heap.size ≤ xq.val.heap.size := Bx2.size
  have sx2_0 : w.heap.size < xq.val.heap.size := Nat.lt_of_lt_of_le (by first | (simp; done) | (simp; omega) | omega) xq.below.size
  have cx2_0_0 : xq.val.cell? ⟨w.heap.size, 0, none⟩ = some (.int .i64 (40000)) := (xq.cell (w.heap.size) 0 (by first | (simp; done) | (simp; omega) | omega)).trans (by go_simp)
  have cx2_0_1 : xq.val.cell? ⟨w.heap.size, 1, none⟩ = some (.int .i64 (12)) := (xq.cell (w.heap.size) 1 (by first | (simp; done) | (simp; omega) | omega)).trans (by go_simp)
  have cx2_0_2 : xq.val.cell? ⟨w.heap.size, 2, none⟩ = some (.int .i64 (31)) := (xq.cell (w.heap.size) 2 (by first | (simp; done) | (simp; omega) | omega)).trans (by go_simp)
  clear Bx1 cx1_0_0 cx1_0_1 cx1_0_2 cx1_1_0 cx1_1_1 cx1_1_2
  generalize xq.val = x2 at *
  go_wp2_with fail
  have Bx3 : Below w.heap.size w (x2.alloc (.cells #[.int .i64 (40000), .int .i64 (12), .int .i64 (32)] 48)) := by (focus (repeat' (first | assumption | exact Below.refl _ _ | refine Below.alloc ?_ ?_ _ | refine Below.setCell ?_ ?_ _ | refine Below.drew ?_ | refine below_drewN ?_ _ | refine Below.trans ?_ (Below.mono (by assumption) ?_) | refine Below.trans ?_ (Below.mono (BW.below _) ?_) | (simp; done) | (simp; omega) | omega)))
  have nx3 : w.heap.size ≤ (x2.alloc (.cells #[.int .i64 (40000), .int .i64 (12), .int .i64 (32)] 48)).heap.size := Bx3.size
  have sx3_0 : w.heap.size < (x2.alloc (.cells #[.int .i64 (40000), .int .i64 (12), .int .i64 (32)] 48)).heap.size := (by first | (simp; done) | (simp; omega) | omega)
  have cx3_0_0 : (x2.alloc (.cells #[.int .i64 (40000), .int .i64 (12), .int .i64 (32)] 48)).cell? ⟨w.heap.size, 0, none⟩ = some (.int .i64 (40000)) := by go_simp
  have cx3_0_1 : (x2.alloc (.cells #[.int .i64 (40000), .int .i64 (12), .int .i64 (32)] 48)).cell? ⟨w.heap.size, 1, none⟩ = some (.int .i64 (12)) := by go_simp
  have cx3_0_2 : (x2.alloc (.cells #[.int .i64 (40000), .int .i64 (12), .int .i64 (32)] 48)).cell? ⟨w.heap.size, 2, none⟩ = some (.int .i64 (31)) := by go_simp
  have sx3_1 : x2.heap.size < (x2.alloc (.cells #[.int .i64 (40000), .int .i64 (12), .int .i64 (32)] 48)).heap.size := (by first | (simp; done) | (simp; omega) | omega)
  have cx3_1_0 : (x2.alloc (.cells #[.int .i64 (40000), .int .i64 (12), .int .i64 (32)] 48)).cell? ⟨x2.heap.size, 0, none⟩ = some (.int .i64 (40000)) := by go_simp
  have cx3_1_1 : (x2.alloc (.cells #[.int .i64 (40000), .int .i64 (12), .int .i64 (32)] 48)).cell? ⟨x2.heap.size, 1, none⟩ = some (.int .i64 (12)) := by go_simp
  have cx3_1_2 : (x2.alloc (.cells #[.int .i64 (40000), .int .i64 (12), .int .i64 (32)] 48)).cell? ⟨x2.heap.size, 2, none⟩ = some (.int .i64 (32)) := by go_simp
  have fx3_1_0 : (x2.alloc (.cells #[.int .i64 (40000), .int .i64 (12), .int .i64 (32)] 48)).frozen? ⟨x2.heap.size, 0, none⟩ = false := by go_simp
  have fx3_1_1 : (x2.alloc (.cells #[.int .i64 (40000), .int .i64 (12), .int .i64 (32)] 48)).frozen? ⟨x2.heap.size, 1, none⟩ = false := by go_simp
  have fx3_1_2 : (x2.alloc (.cells #[.int .i64 (40000), .int .i64 (12), .int .i64 (32)] 48)).frozen? ⟨x2.heap.size, 2, none⟩ = false := by go_simp
  clear Bx2 cx2_0_0 cx2_0_1 cx2_0_2
  generalize (x2.alloc (.cells #[.int .i64 (40000), .int .i64 (12), .int .i64 (32)] 48)) = x3 at *
  try dsimp only [List.append]
  refine wp_region_bw (by kernel_rfl) (by kernel_rfl) ?_; (repeat (go_big_quiet_step ((go_at_call 52; with_reducible exact bw_same (hL _))))); refine wpQuiet_nil ?_; intro _ hw'; obtain ⟨xq, hw''⟩ := hw'; subst hw''
  have Bx4 : Below w.heap.size w xq.val := Bx3.trans (xq.below.mono nx3)
  have nx4 : w.heap.size ≤ xq.val.heap.size := Bx4.size
  have sx4_0 : w.heap.size < xq.val.heap.size := Nat.lt_of_lt_of_le (by first | (simp; done) | (simp; omega) | omega) xq.below.size
  have cx4_0_0 : xq.val.cell? ⟨w.heap.size, 0, none⟩ = some (.int .i64 (40000)) := (xq.cell (w.heap.size) 0 (by first | (simp; done) | (simp; omega) | omega)).trans (by go_simp)
  have cx4_0_1 : xq.val.cell? ⟨w.heap.size, 1, none⟩ = some (.int .i64 (12)) := (xq.cell (w.heap.size) 1 (by first | (simp; done) | (simp; omega) | omega)).trans (by go_simp)
  have cx4_0_2 : xq.val.cell? ⟨w.heap.size, 2, none⟩ = some (.int .i64 (31)) := (xq.cell (w.heap.size) 2 (by first | (simp; done) | (simp; omega) | omega)).trans (by go_simp)
  have sx4_1 : x2.heap.size < xq.val.heap.size := Nat.lt_of_lt_of_le (by first | (simp; done) | (simp; omega) | omega) xq.below.size
  have cx4_1_0 : xq.val.cell? ⟨x2.heap.size, 0, none⟩ = some (.int .i64 (40000)) := (xq.cell (x2.heap.size) 0 (by first | (simp; done) | (simp; omega) | omega)).trans (by go_simp)
  have fx4_1_0 : xq.val.frozen? ⟨x2.heap.size, 0, none⟩ = false := (xq.frozen (x2.heap.size) 0 (by first | (simp; done) | (simp; omega) | omega)).trans (by go_simp)
  have cx4_1_1 : xq.val.cell? ⟨x2.heap.size, 1, none⟩ = some (.int .i64 (12)) := (xq.cell (x2.heap.size) 1 (by first | (simp; done) | (simp; omega) | omega)).trans (by go_simp)
  have fx4_1_1 : xq.val.frozen? ⟨x2.heap.size, 1, none⟩ = false := (xq.frozen (x2.heap.size) 1 (by first | (simp; done) | (simp; omega) | omega)).trans (by go_simp)
  have cx4_1_2 : xq.val.cell? ⟨x2.heap.size, 2, none⟩ = some (.int .i64 (32)) := (xq.cell (x2.heap.size) 2 (by first | (simp; done) | (simp; omega) | omega)).trans (by go_simp)
  have fx4_1_2 : xq.val.frozen? ⟨x2.heap.size, 2, none⟩ = false := (xq.frozen (x2.heap.size) 2 (by first | (simp; done) | (simp; omega) | omega)).trans (by go_simp)
  clear Bx3 cx3_0_0 cx3_0_1 cx3_0_2 cx3_1_0 cx3_1_1 cx3_1_2 fx3_1_0 fx3_1_1 fx3_1_2
  generalize xq.val = x4 at *
  go_wp2_with fail
  refine (hN _).mono ?_
  rintro e w4 ⟨rfl, hb4⟩
  have B4 : Below w.heap.size w w4 := by (focus (repeat' (first | assumption | exact Below.refl _ _ | refine Below.alloc ?_ ?_ _ | refine Below.setCell ?_ ?_ _ | refine Below.drew ?_ | refine below_drewN ?_ _ | refine Below.trans ?_ (Below.mono (by assumption) ?_) | refine Below.trans ?_ (Below.mono (BW.below _) ?_) | (simp; done) | (simp; omega) | omega)))
  have n4 : w.heap.size ≤ w4.heap.size := B4.size
  have s4_0 : w.heap.size < w4.heap.size := Nat.lt_of_lt_of_le (by first | (simp; done) | (simp; omega) | omega) hb4.size
  have c4_0_0 : w4.cell? ⟨w.heap.size, 0, none⟩ = some (.int .i64 (40000)) := (hb4.cell (p := ⟨w.heap.size, 0, none⟩) (by first | (simp; done) | (simp; omega) | omega)).trans (by go_simp)
  have c4_0_1 : w4.cell? ⟨w.heap.size, 1, none⟩ = some (.int .i64 (12)) := (hb4.cell (p := ⟨w.heap.size, 1, none⟩) (by first | (simp; done) | (simp; omega) | omega)).trans (by go_simp)
  have c4_0_2 : w4.cell? ⟨w.heap.size, 2, none⟩ = some (.int .i64 (31)) := (hb4.cell (p := ⟨w.heap.size, 2, none⟩) (by first | (simp; done) | (simp; omega) | omega)).trans (by go_simp)
  have s4_1 : x2.heap.size < w4.heap.size := Nat.lt_of_lt_of_le (by first | (simp; done) | (simp; omega) | omega) hb4.size
  have c4_1_0 : w4.cell? ⟨x2.heap.size, 0, none⟩ = some (.int .i64 (40001)) := (hb4.cell (p := ⟨x2.heap.size, 0, none⟩) (by first | (simp; done) | (simp; omega) | omega)).trans (by go_simp)
  have c4_1_1 : w4.cell? ⟨x2.heap.size, 1, none⟩ = some (.int .i64 1) := (hb4.cell (p := ⟨x2.heap.size, 1, none⟩) (by first | (simp; done) | (simp; omega) | omega)).trans (by go_simp)
  have c4_1_2 : w4.cell? ⟨x2.heap.size, 2, none⟩ = some (.int .i64 1) := (hb4.cell (p := ⟨x2.heap.size, 2, none⟩) (by first | (simp; done) | (simp; omega) | omega)).trans (by go_simp)
  have f4_1_0 : w4.frozen? ⟨x2.heap.size, 0, none⟩ = false := (hb4.frozen (p := ⟨x2.heap.size, 0, none⟩) (by first | (simp; done) | (simp; omega) | omega)).trans (by go_simp)
  have f4_1_1 : w4.frozen? ⟨x2.heap.size, 1, none⟩ = false := (hb4.frozen (p := ⟨x2.heap.size, 1, none⟩) (by first | (simp; done) | (simp; omega) | omega)).trans (by go_simp)
  have f4_1_2 : w4.frozen? ⟨x2.heap.size, 2, none⟩ = false := (hb4.frozen (p := ⟨x2.heap.size, 2, none⟩) (by first | (simp; done) | (simp; omega) | omega)).trans (by go_simp)
  clear hb4 Bx4 cx4_0_0 cx4_0_1 cx4_0_2 cx4_1_0 fx4_1_0 cx4_1_1 fx4_1_1 cx4_1_2 fx4_1_2
  go_wp2_with fail
  go_ret
  exact ⟨rfl, by (focus (repeat' (first | assumption | exact Below.refl _ _ | refine Below.alloc ?_ ?_ _ | refine Below.setCell ?_ ?_ _ | refine Below.drew ?_ | refine below_drewN ?_ _ | refine Below.trans ?_ (Below.mono (by assumption) ?_) | refine Below.trans ?_ (Below.mono (BW.below _) ?_) | (simp; done) | (simp; omega) | omega)))⟩
end Go.Proofs.Ytblmlglkjmilkaa
