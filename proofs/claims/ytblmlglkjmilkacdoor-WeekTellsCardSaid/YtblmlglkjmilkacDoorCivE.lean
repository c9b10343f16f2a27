/-
  The reference's date of a number.
-/
import Derived.Test.YtblmlglkjmilkacDoorCivD
namespace Go.Proofs.YtblmlglkjmilkacDoor
open Go.RowKit Cal
attribute [local go_sem] BW.cell BW.frozen

theorem year_le (n y : Int) : Cal.ahead y ≤ n ↔ y ≤ dateY n := by
  obtain ⟨a, b⟩ := year_in n _ rfl
  constructor
  · intro h
    by_cases g : y ≤ dateY n
    · exact g
    · have := ahead_mono (a := dateY n + 1) (b := y) (by omega)
      omega
  · intro h
    have := ahead_mono (a := y) (b := dateY n) h
    omega
theorem A0_eq : Cal.ahead (-40000) = -15329228 := by decide
theorem A1_eq : Cal.ahead 40001 = 13890538 := by decide
theorem dt_iff (n : Int) : dtOk n = true ↔ (-15329228 ≤ n ∧ n < 13890538) := by
  have h0 := year_le n (-40000)
  have h1 := year_le n 40001
  rw [A0_eq] at h0
  rw [A1_eq] at h1
  simp only [dtOk, decide_eq_true_eq]
  omega
theorem date_parts (n : Int) : 1 ≤ dateM n ∧ dateM n ≤ 12 ∧ 1 ≤ dateD n ∧ dateD n ≤ mlen (dateY n) (dateM n) ∧ n = Cal.ahead (dateY n) + cum (dateY n) (dateM n) + dateD n - 1 := by
  obtain ⟨a, b, c, d, e⟩ := date_ok n
  exact ⟨a, b, c, d, by unfold numb at e; omega⟩

set_option maxHeartbeats 2000000 in
theorem ref03_Date_y (n : Int) (h0 : -15329228 ≤ n) (h1 : n < 13890538) (w : World) : Calls Tryd.prog 50 #[.int .i64 n] w fun e w' => e = .returned (.tuple #[dat (dateY n) (dateM n) (dateD n), .int .i64 0]) ∧ Below w.heap.size w w' := by
  have hY : -40000 ≤ dateY n ∧ dateY n ≤ 40000 := by
    have := (dt_iff n).2 ⟨h0, h1⟩
    simp only [dtOk, decide_eq_true_eq] at this
    omega
  obtain ⟨hY0, hY1⟩ := hY
  obtain ⟨p0, p1, p2, p3, p4⟩ := date_parts n
  have cb := cum_bd (dateY n) (dateM n) p0 p1
  have ll := lp_01 (dateY n)
  have yl := Lib.hid (year_le n)
  have k0 : I64 n := I64.sm (by omega)
  have ha0 := fun w => ref03_Ahead (-40000) (by omega) (by omega) w
  have ha1 := fun w => ref03_Ahead 40001 (by omega) (by omega) w
  rw [A0_eq] at ha0
  rw [A1_eq] at ha1
  generalize dateY n = Y at *
  generalize hM : dateM n = M at *
  generalize hD : dateD n = D at *
  clear hM hD
  have P4 := Lib.hid p4
  clear p4
  have q0 : -42000 ≤ n / 366 := by omega
  have q1 : n / 366 ≤ 38000 := by omega
  go_enter Tryd.func50, Tryd.ntmps50
  go_wp2_with fail
  refine (ha0 _).mono ?_
  rintro e w' ⟨rfl, rfl⟩
  go_wp2_with fail
  refine (ha1 _).mono ?_
  rintro e w' ⟨rfl, rfl⟩
  go_wp2_with (go_at_call 97; refine (ref01_Floor _ _ k0 (by omega) (by omega) _).mono ?_; rintro e w' ⟨rfl, rfl⟩)
  clear ha0 ha1
  have hL : ∃ L : Int, -42000 ≤ L ∧ L ≤ 1970 + n / 366 ∧ L ≤ Y := ⟨-42000, by omega, by omega, by omega⟩
  obtain ⟨L, L0, L1, L2⟩ := hL
  go_loop [4] (fun t => ∃ y : Int, L ≤ y ∧ y ≤ 50000 ∧ t = .int .i64 y) (fun t => (intOf t - L).toNat)
  case atStart => exact ⟨_, by omega, by omega, rfl⟩
  case round =>
    obtain ⟨y, hy0, hy1, rfl⟩ := hrel
    have yt := yl.out y
    by_cases hlt : Y < y
    · have ht : n < Cal.ahead y := by omega
      clear yt
      go_wp2_with (go_at_call 95; refine (ref03_Ahead _ (by omega) (by omega) _).mono ?_; rintro e w' ⟨rfl, rfl⟩)
      go_round
      case rel => exact ⟨y - 1, by omega, by omega, rfl⟩
      case measure => simp [intOf]; omega
    · have ht : Cal.ahead y ≤ n := by omega
      clear yt
      go_wp2_with (go_at_call 95; refine (ref03_Ahead _ (by omega) (by omega) _).mono ?_; rintro e w' ⟨rfl, rfl⟩)
      go_loop [4] (fun t => ∃ y : Int, -42000 ≤ y ∧ y ≤ Y ∧ t = .int .i64 y) (fun t => (Y - intOf t).toNat)
      case atStart => exact ⟨_, by omega, by omega, rfl⟩
      case round =>
        clear hy0 hy1 hlt ht
        obtain ⟨y, hL0, hL1, rfl⟩ := hrel
        have yt := yl.out (y + 1)
        by_cases hlt : y < Y
        · have ht : Cal.ahead (y + 1) ≤ n := by omega
          clear yt
          go_wp2_with (go_at_call 95; refine (ref03_Ahead _ (by omega) (by omega) _).mono ?_; rintro e w' ⟨rfl, rfl⟩)
          go_round
          case rel => exact ⟨y + 1, by omega, by omega, rfl⟩
          case measure => simp [intOf]; omega
        · obtain rfl : y = Y := by omega
          have ht : n < Cal.ahead (y + 1) := by omega
          have lb := leaps_bd (y - 1) (by omega) (by omega)
          have a0 : -20000000 ≤ Cal.ahead y := by unfold Cal.ahead; omega
          have a1 : Cal.ahead y ≤ 20000000 := by unfold Cal.ahead; omega
          clear yt hlt lb
          go_wp2_with (go_at_call 95; refine (ref03_Ahead _ (by omega) (by omega) _).mono ?_; rintro e w' ⟨rfl, rfl⟩)
          clear hL0 hL1
          go_loopw [5, 6] (fun l i wr => ∃ k : Int, 1 ≤ k ∧ k ≤ M ∧ i = .int .i64 k ∧ l = .int .i64 (n - Cal.ahead y - cum y k) ∧ wr.cell? ⟨w.heap.size, 0, none⟩ = some (.int .i64 0) ∧ wr.cell? ⟨w.heap.size, 1, none⟩ = some (.int .i64 0) ∧ wr.cell? ⟨w.heap.size, 2, none⟩ = some (.int .i64 0) ∧ wr.frozen? ⟨w.heap.size, 0, none⟩ = false ∧ wr.frozen? ⟨w.heap.size, 1, none⟩ = false ∧ wr.frozen? ⟨w.heap.size, 2, none⟩ = false ∧ w.heap.size < wr.heap.size ∧ Below w.heap.size w wr) (fun _ i _ => (M - intOf i).toNat)
          case atStart => exact ⟨1, by omega, by omega, rfl, by rw [cum_1, Int.sub_zero], by go_simp, by go_simp, by go_simp, by go_simp, by go_simp, by go_simp, by simp, by (focus (repeat' (first | exact Below.refl _ _ | refine Below.alloc ?_ ?_ _ | refine Below.setCell ?_ ?_ _ | refine Below.drew ?_ | refine below_drewN ?_ _ | refine Below.trans ?_ (Below.mono (by assumption) ?_) | refine Below.trans ?_ (Below.mono (BW.below _) ?_) | (simp; done) | (simp; omega) | omega)))⟩
          case round =>
            obtain ⟨k, hk0, hk1, rfl, rfl, c0, c1, c2, f0, f1, f2, z0, B1⟩ := hrel
            have kb := cum_bd y k hk0 (by omega)
            have km := mlen_bd y k
            have p4 := P4.out
            have ky : I64 y := I64.sm (by omega)
            by_cases hlt : k < M
            · have cl := cum_lt y k M hk0 hlt (by omega)
              have hs := Lib.hid (cum_succ y k hk0 (by omega))
              have t0 : mlen y k ≤ n - Cal.ahead y - cum y k := by omega
              have t1 : n - Cal.ahead y - cum y k ≤ 400 := by omega
              have t2 : 0 ≤ mlen y k := by omega
              clear p4 cl kb km
              go_wp2_with (go_at_call 98; refine (ref03_Len _ _ ky _).mono ?_; rintro e w2 ⟨rfl, hb⟩; have d0 : w2.cell? ⟨w.heap.size, 0, none⟩ = some (.int .i64 0) := (by first | exact (hb.cell (p := ⟨w.heap.size, 0, none⟩) z0).trans c0 | exact (hb.cell (p := ⟨w.heap.size, 0, none⟩) z2).trans d0); have g0 : w2.frozen? ⟨w.heap.size, 0, none⟩ = false := (by first | exact (hb.frozen (p := ⟨w.heap.size, 0, none⟩) z0).trans f0 | exact (hb.frozen (p := ⟨w.heap.size, 0, none⟩) z2).trans g0); have d1 : w2.cell? ⟨w.heap.size, 1, none⟩ = some (.int .i64 0) := (by first | exact (hb.cell (p := ⟨w.heap.size, 1, none⟩) z0).trans c1 | exact (hb.cell (p := ⟨w.heap.size, 1, none⟩) z2).trans d1); have g1 : w2.frozen? ⟨w.heap.size, 1, none⟩ = false := (by first | exact (hb.frozen (p := ⟨w.heap.size, 1, none⟩) z0).trans f1 | exact (hb.frozen (p := ⟨w.heap.size, 1, none⟩) z2).trans g1); have d2 : w2.cell? ⟨w.heap.size, 2, none⟩ = some (.int .i64 0) := (by first | exact (hb.cell (p := ⟨w.heap.size, 2, none⟩) z0).trans c2 | exact (hb.cell (p := ⟨w.heap.size, 2, none⟩) z2).trans d2); have g2 : w2.frozen? ⟨w.heap.size, 2, none⟩ = false := (by first | exact (hb.frozen (p := ⟨w.heap.size, 2, none⟩) z0).trans f2 | exact (hb.frozen (p := ⟨w.heap.size, 2, none⟩) z2).trans g2); have z2 : w.heap.size < w2.heap.size := (by first | exact Nat.lt_of_lt_of_le z0 hb.size | exact Nat.lt_of_lt_of_le z2 hb.size))
              go_roundw
              case rel => exact ⟨k + 1, by omega, by omega, rfl, by rw [hs.out, Int.sub_sub], d0, d1, d2, g0, g1, g2, z2, by (focus (repeat' (first | exact Below.refl _ _ | refine Below.alloc ?_ ?_ _ | refine Below.setCell ?_ ?_ _ | refine Below.drew ?_ | refine below_drewN ?_ _ | refine Below.trans ?_ (Below.mono (by assumption) ?_) | refine Below.trans ?_ (Below.mono (BW.below _) ?_) | (simp; done) | (simp; omega) | omega)))⟩
              case measure => simp [intOf]; omega
            · obtain rfl : k = M := by omega
              have t0 : n - Cal.ahead y - cum y k < mlen y k := by omega
              have t1 : n - Cal.ahead y - cum y k ≤ 400 := by omega
              have t2 : 0 ≤ n - Cal.ahead y - cum y k := by omega
              have ED : Hid (n - Cal.ahead y - cum y k + 1 = D) := by
                have e : n - Cal.ahead y - cum y k + 1 = D := by omega
                exact Lib.hid e
              clear p4 kb km
              go_wp2_with (go_at_call 98; refine (ref03_Len _ _ ky _).mono ?_; rintro e w2 ⟨rfl, hb⟩; have d0 : w2.cell? ⟨w.heap.size, 0, none⟩ = some (.int .i64 0) := (by first | exact (hb.cell (p := ⟨w.heap.size, 0, none⟩) z0).trans c0 | exact (hb.cell (p := ⟨w.heap.size, 0, none⟩) z2).trans d0); have g0 : w2.frozen? ⟨w.heap.size, 0, none⟩ = false := (by first | exact (hb.frozen (p := ⟨w.heap.size, 0, none⟩) z0).trans f0 | exact (hb.frozen (p := ⟨w.heap.size, 0, none⟩) z2).trans g0); have d1 : w2.cell? ⟨w.heap.size, 1, none⟩ = some (.int .i64 0) := (by first | exact (hb.cell (p := ⟨w.heap.size, 1, none⟩) z0).trans c1 | exact (hb.cell (p := ⟨w.heap.size, 1, none⟩) z2).trans d1); have g1 : w2.frozen? ⟨w.heap.size, 1, none⟩ = false := (by first | exact (hb.frozen (p := ⟨w.heap.size, 1, none⟩) z0).trans f1 | exact (hb.frozen (p := ⟨w.heap.size, 1, none⟩) z2).trans g1); have d2 : w2.cell? ⟨w.heap.size, 2, none⟩ = some (.int .i64 0) := (by first | exact (hb.cell (p := ⟨w.heap.size, 2, none⟩) z0).trans c2 | exact (hb.cell (p := ⟨w.heap.size, 2, none⟩) z2).trans d2); have g2 : w2.frozen? ⟨w.heap.size, 2, none⟩ = false := (by first | exact (hb.frozen (p := ⟨w.heap.size, 2, none⟩) z0).trans f2 | exact (hb.frozen (p := ⟨w.heap.size, 2, none⟩) z2).trans g2); have z2 : w.heap.size < w2.heap.size := (by first | exact Nat.lt_of_lt_of_le z0 hb.size | exact Nat.lt_of_lt_of_le z2 hb.size))
              rw [← ED.out]
              refine bodyPost_ret (v := .tuple #[dat _ _ _, .int .i64 _]) (by simp [results, Tryd.results50, go_sem, *]) rfl ⟨rfl, ?_⟩
              (focus (repeat' (first | exact Below.refl _ _ | refine Below.alloc ?_ ?_ _ | refine Below.setCell ?_ ?_ _ | refine Below.drew ?_ | refine below_drewN ?_ _ | refine Below.trans ?_ (Below.mono (by assumption) ?_) | refine Below.trans ?_ (Below.mono (BW.below _) ?_) | (simp; done) | (simp; omega) | omega)))

theorem ref03_Date (n : Int) (w : World) : Calls Tryd.prog 50 #[.int .i64 n] w fun e w' => e = .returned (.tuple #[dat (dtY n) (dtM n) (dtD n), .int .i64 (dtE n)]) ∧ Below w.heap.size w w' := by
  have hi := dt_iff n
  cases h : dtOk n
  · obtain ⟨e1, e2, e3, e4⟩ := dt_n h
    rw [e1, e2, e3, e4]
    rw [h] at hi
    clear e1 e2 e3 e4 h
    have ha0 := fun w => ref03_Ahead (-40000) (by omega) (by omega) w
    have ha1 := fun w => ref03_Ahead 40001 (by omega) (by omega) w
    rw [A0_eq] at ha0
    rw [A1_eq] at ha1
    by_cases h0 : n < -15329228
    · clear hi
      go_enter Tryd.func50, Tryd.ntmps50
      go_wp2_with fail
      refine (ha0 _).mono ?_
      rintro e w' ⟨rfl, rfl⟩
      go_wp2_with fail
      refine bodyPost_ret (v := .tuple #[dat _ _ _, .int .i64 _]) (by simp [results, Tryd.results50, go_sem, *]) rfl ⟨rfl, ?_⟩
      (focus (repeat' (first | exact Below.refl _ _ | refine Below.alloc ?_ ?_ _ | refine Below.setCell ?_ ?_ _ | refine Below.drew ?_ | refine below_drewN ?_ _ | refine Below.trans ?_ (Below.mono (by assumption) ?_) | refine Below.trans ?_ (Below.mono (BW.below _) ?_) | (simp; done) | (simp; omega) | omega)))
    · have h1 : 13890538 ≤ n := by simp at hi; omega
      clear hi
      have h0' : -15329228 ≤ n := by omega
      go_enter Tryd.func50, Tryd.ntmps50
      go_wp2_with fail
      refine (ha0 _).mono ?_
      rintro e w' ⟨rfl, rfl⟩
      go_wp2_with fail
      refine (ha1 _).mono ?_
      rintro e w' ⟨rfl, rfl⟩
      go_wp2_with fail
      refine bodyPost_ret (v := .tuple #[dat _ _ _, .int .i64 _]) (by simp [results, Tryd.results50, go_sem, *]) rfl ⟨rfl, ?_⟩
      (focus (repeat' (first | exact Below.refl _ _ | refine Below.alloc ?_ ?_ _ | refine Below.setCell ?_ ?_ _ | refine Below.drew ?_ | refine below_drewN ?_ _ | refine Below.trans ?_ (Below.mono (by assumption) ?_) | refine Below.trans ?_ (Below.mono (BW.below _) ?_) | (simp; done) | (simp; omega) | omega)))
  · obtain ⟨e1, e2, e3, e4⟩ := dt_y h
    rw [e1, e2, e3, e4]
    obtain ⟨h0, h1⟩ := hi.1 h
    exact ref03_Date_y n h0 h1 w
end Go.Proofs.YtblmlglkjmilkacDoor
