/-
  The reference's week of a day.
-/
import Derived.Test.YtblmlglkjmilkacDoorWeeD
namespace Go.Proofs.YtblmlglkjmilkacDoor
open Go.RowKit Cal
attribute [local go_sem] BW.cell BW.frozen

set_option maxRecDepth 100000 in
set_option maxHeartbeats 2000000 in
theorem ref07_Of (y m d : Int) (ky : I64 y) (w : World) : Calls Tryd.prog 12 #[dat y m d] w fun e w' => e = .returned (.tuple #[dat (woY y m d) (woW y m d) (woD y m d), .int .i64 (woE y m d)]) ∧ Below w.heap.size w w' := by
  have hD := fun w => ref03_Days y m d ky w
  rcases day_cases y m d with ⟨h, e1, e2, b⟩ | ⟨h, e1, e2⟩
  · rw [e1, e2] at hD
    have nb := numb_bd y m d (by omega)
    have hw := wk_week (numb y m d)
    have hin := wk_in (numb y m d)
    have hmb := mon_bd (numb y m d)
    have hnear := wk_near (numb y m d)
    rw [(date_of y m d h).1] at hnear
    have huq : Hid (∀ g, wfst g ≤ numb y m d → numb y m d < wfst (g + 1) → g = wkY (numb y m d)) := Lib.hid fun g h0 h1 => wk_uniq h0 h1
    have hmo : Hid (∀ a b : Int, a ≤ b → wfst a ≤ wfst b) := Lib.hid fun a b h => wfst_mono h
    have hfb : Hid (∀ g, -40000 ≤ g → g ≤ 40000 → -30000000 ≤ wfst g ∧ wfst g ≤ 30000000) := Lib.hid fun g g0 g1 => by
      have wf := wfst_bd g
      have fb : -20000000 ≤ Cal.ahead g ∧ Cal.ahead g ≤ 20000000 := by
        unfold Cal.ahead Cal.leaps
        omega
      omega
    have eok : woOk y m d = decide (-39999 ≤ wkY (numb y m d) ∧ wkY (numb y m d) ≤ 39999) := by unfold woOk; rw [h, Bool.true_and]
    have eno := Lib.hid (fun hh : woOk y m d = false => wo_n hh)
    have eye := Lib.hid (fun hh : woOk y m d = true => wo_y hh)
    have y0 : -40000 ≤ y := by omega
    have y1 : y ≤ 40000 := by omega
    obtain ⟨n0, n1⟩ := nb
    obtain ⟨a0, a1⟩ := hnear
    obtain ⟨m0, m1⟩ := hmb
    obtain ⟨i0, i1, i2⟩ := hin
    have ww : Hid (wkW (numb y m d) = (numb y m d - wfst (wkY (numb y m d))) / 7 + 1 ∧ wkD (numb y m d) = (numb y m d - wfst (wkY (numb y m d))) % 7 + 1) := by
      refine Lib.hid ?_
      have hwf := wfst_bd (wkY (numb y m d))
      unfold wkW wkD
      omega
    clear hw e1 e2 b h i2
    go_enter Tryd.func12, Tryd.ntmps12
    go_wp2_with (go_at_call 48; refine (hD _).mono ?_; rintro e w1 ⟨rfl, hb⟩; obtain ⟨hc, hf⟩ := bcell hb; have z := hb.size; (try simp at z); have z0 : w.heap.size < w1.heap.size := (by omega); have z1 : w.heap.size + 1 < w1.heap.size := (by omega); have d0 : w1.cell? ⟨w.heap.size + 1, 0, none⟩ = some (.int .i64 0) := (hb.cell (p := ⟨w.heap.size + 1, 0, none⟩) (by first | (simp; done) | (simp; omega) | omega)).trans (by go_simp); have g0 : w1.frozen? ⟨w.heap.size + 1, 0, none⟩ = false := (hb.frozen (p := ⟨w.heap.size + 1, 0, none⟩) (by first | (simp; done) | (simp; omega) | omega)).trans (by go_simp); have d1 : w1.cell? ⟨w.heap.size + 1, 1, none⟩ = some (.int .i64 0) := (hb.cell (p := ⟨w.heap.size + 1, 1, none⟩) (by first | (simp; done) | (simp; omega) | omega)).trans (by go_simp); have g1 : w1.frozen? ⟨w.heap.size + 1, 1, none⟩ = false := (hb.frozen (p := ⟨w.heap.size + 1, 1, none⟩) (by first | (simp; done) | (simp; omega) | omega)).trans (by go_simp); have d2 : w1.cell? ⟨w.heap.size + 1, 2, none⟩ = some (.int .i64 0) := (hb.cell (p := ⟨w.heap.size + 1, 2, none⟩) (by first | (simp; done) | (simp; omega) | omega)).trans (by go_simp); have g2 : w1.frozen? ⟨w.heap.size + 1, 2, none⟩ = false := (hb.frozen (p := ⟨w.heap.size + 1, 2, none⟩) (by first | (simp; done) | (simp; omega) | omega)).trans (by go_simp))
    have c0 : w1.cell? ⟨w.heap.size, 0, none⟩ = some (.int .i64 y) := (hb.cell (p := ⟨w.heap.size, 0, none⟩) (by simp; omega)).trans (by go_simp)
    have B1 : Below w.heap.size w w1 := by (focus (repeat' (first | exact Below.refl _ _ | refine Below.alloc ?_ ?_ _ | refine Below.setCell ?_ ?_ _ | refine Below.drew ?_ | refine below_drewN ?_ _ | refine Below.trans ?_ (Below.mono (by assumption) ?_) | refine Below.trans ?_ (Below.mono (BW.below _) ?_) | (simp; done) | (simp; omega) | omega)))
    go_wp2_with fail
    clear hb hc hf
    go_loopw [6] (fun t wr => ∃ g : Int, y - 1 ≤ g ∧ g ≤ y + 2 ∧ (g ≤ wkY (numb y m d) ∨ woOk y m d = false) ∧ t = .int .i64 g ∧ wr.cell? ⟨w.heap.size, 0, none⟩ = some (.int .i64 y) ∧ wr.cell? ⟨w.heap.size + 1, 0, none⟩ = some (.int .i64 0) ∧ wr.cell? ⟨w.heap.size + 1, 1, none⟩ = some (.int .i64 0) ∧ wr.cell? ⟨w.heap.size + 1, 2, none⟩ = some (.int .i64 0) ∧ wr.frozen? ⟨w.heap.size + 1, 0, none⟩ = false ∧ wr.frozen? ⟨w.heap.size + 1, 1, none⟩ = false ∧ wr.frozen? ⟨w.heap.size + 1, 2, none⟩ = false ∧ w.heap.size + 1 < wr.heap.size ∧ Below w.heap.size w wr) (fun t _ => (y + 2 - intOf t).toNat)
    case atStart => exact ⟨y - 1, by omega, by omega, .inl (by omega), rfl, c0, d0, d1, d2, g0, g1, g2, z1, B1⟩
    case round =>
      clear c0 d0 d1 d2 g0 g1 g2 z0 z1 B1
      obtain ⟨g, g0, g1, gY, rfl, c0, d0, d1, d2, f0, f1, f2, zz, BB⟩ := hrel
      have zz0 : w.heap.size < wr.heap.size := by omega
      have rel : ∀ wn, Below wr.heap.size wr wn → wn.cell? ⟨w.heap.size, 0, none⟩ = some (.int .i64 y) ∧ wn.cell? ⟨w.heap.size + 1, 0, none⟩ = some (.int .i64 0) ∧ wn.cell? ⟨w.heap.size + 1, 1, none⟩ = some (.int .i64 0) ∧ wn.cell? ⟨w.heap.size + 1, 2, none⟩ = some (.int .i64 0) ∧ wn.frozen? ⟨w.heap.size + 1, 0, none⟩ = false ∧ wn.frozen? ⟨w.heap.size + 1, 1, none⟩ = false ∧ wn.frozen? ⟨w.heap.size + 1, 2, none⟩ = false ∧ w.heap.size + 1 < wn.heap.size ∧ Below w.heap.size w wn := fun wn hn =>
        ⟨(hn.cell (p := ⟨w.heap.size, 0, none⟩) zz0).trans c0, (hn.cell (p := ⟨w.heap.size + 1, 0, none⟩) zz).trans d0, (hn.cell (p := ⟨w.heap.size + 1, 1, none⟩) zz).trans d1, (hn.cell (p := ⟨w.heap.size + 1, 2, none⟩) zz).trans d2,
          (hn.frozen (p := ⟨w.heap.size + 1, 0, none⟩) zz).trans f0, (hn.frozen (p := ⟨w.heap.size + 1, 1, none⟩) zz).trans f1, (hn.frozen (p := ⟨w.heap.size + 1, 2, none⟩) zz).trans f2, Nat.lt_of_lt_of_le zz hn.size, BB.trans (hn.mono (by omega))⟩
      have Rel := Lib.hid rel
      clear rel
      by_cases hend : g = y + 2
      · have hok : woOk y m d = false := by
          rcases gY with h | h
          · omega
          · exact h
        have E := Lib.hid (eno.out hok)
        subst hend
        clear gY eok hok
        go_wp2_with fail
        refine bodyPost_ret (v := .tuple #[dat 0 0 0, .int .i64 1]) (by simp [results, Tryd.results12, go_sem, *]) rfl ⟨?_, ?_⟩
        · obtain ⟨e1, e2, e3, e4⟩ := E.out
          rw [e1, e2, e3, e4]
        · (focus (repeat' (first | exact Below.refl _ _ | refine Below.alloc ?_ ?_ _ | refine Below.setCell ?_ ?_ _ | refine Below.drew ?_ | refine below_drewN ?_ _ | refine Below.trans ?_ (Below.mono (by assumption) ?_) | refine Below.trans ?_ (Below.mono (BW.below _) ?_) | (simp; done) | (simp; omega) | omega)))
      · have hle : g ≤ y + 1 := by omega
        have step : Hid (¬ (-39999 ≤ g ∧ g ≤ 39999 ∧ wfst g ≤ numb y m d ∧ numb y m d < wfst (g + 1)) → (g + 1 ≤ wkY (numb y m d) ∨ woOk y m d = false)) := Lib.hid fun hn => by
          rcases gY with h | h
          · by_cases hg : g = wkY (numb y m d)
            · right
              rw [eok, decide_eq_false_iff_not]
              intro hh
              exact hn ⟨by omega, by omega, by rw [hg]; omega, by rw [hg]; omega⟩
            · left; omega
          · exact .inr h
        clear gY
        by_cases h0 : g < -39999
        · have st := Lib.hid (step.out (by omega))
          go_wp2_with fail
          go_roundw
          case rel => exact ⟨g + 1, by omega, by omega, st.out, rfl, Rel.out _ (Below.refl _ _)⟩
          case measure => simp [intOf]; omega
        · have h0' : decide (g < -39999) = false := decide_eq_false h0
          by_cases h1 : 39999 < g
          · have st := Lib.hid (step.out (by omega))
            go_wp2_with fail
            go_roundw
            case rel => exact ⟨g + 1, by omega, by omega, st.out, rfl, Rel.out _ (Below.refl _ _)⟩
            case measure => simp [intOf]; omega
          · have h1' : decide (39999 < g) = false := decide_eq_false h1
            have hF := fun w => ref07_first g (by omega) (by omega) w
            have hG := fun w => ref07_first (g + 1) (by omega) (by omega) w
            obtain ⟨fa0, fa1⟩ := hfb.out g (by omega) (by omega)
            obtain ⟨fb0, fb1⟩ := hfb.out (g + 1) (by omega) (by omega)
            by_cases h2 : numb y m d < wfst g
            · have st := Lib.hid (step.out (by omega))
              generalize wfst g = F at *
              go_wp2_with (go_at_call 49; refine (hF _).mono ?_; rintro e wa ⟨rfl, hb⟩; obtain ⟨hc, hf⟩ := bcell hb; have z := hb.size; (try simp at z))
              go_roundw
              case rel => exact ⟨g + 1, by omega, by omega, st.out, rfl, Rel.out _ (by assumption)⟩
              case measure => simp [intOf]; omega
            · have h2' : decide (numb y m d < wfst g) = false := decide_eq_false h2
              by_cases h3 : wfst (g + 1) ≤ numb y m d
              · have st := Lib.hid (step.out (by omega))
                generalize wfst g = F at *
                generalize wfst (g + 1) = E at *
                go_wp2_with fail
                refine (hF _).mono ?_
                rintro e wa ⟨rfl, hb1⟩
                go_wp2_with fail
                refine (hG _).mono ?_
                rintro e wb ⟨rfl, hb2⟩
                go_wp2_with fail
                go_roundw
                case rel => exact ⟨g + 1, by omega, by omega, st.out, rfl, Rel.out _ (hb1.trans (hb2.mono hb1.size))⟩
                case measure => simp [intOf]; omega
              · have h3' : decide (wfst (g + 1) ≤ numb y m d) = false := decide_eq_false h3
                have hg := huq.out g (by omega) (by omega)
                have hok : woOk y m d = true := by rw [eok, decide_eq_true_eq]; omega
                have E : Hid (Value.tuple #[dat (woY y m d) (woW y m d) (woD y m d), .int .i64 (woE y m d)] = .tuple #[dat g ((numb y m d - wfst g) / 7 + 1) ((numb y m d - wfst g) % 7 + 1), .int .i64 0]) := by
                  refine Lib.hid ?_
                  obtain ⟨e1, e2, e3, e4⟩ := eye.out hok
                  obtain ⟨w1', w2'⟩ := ww.out
                  rw [e1, e2, e3, e4, w1', w2', ← hg]
                have hb3 := wfst_succ g
                have hb4 := wksOf_cases g
                have q0 : 0 ≤ numb y m d - wfst g := by omega
                have q1 : numb y m d - wfst g ≤ 400 := by omega
                clear hb3 hb4 step hok eok hg eno eye ww huq hmo hfb i0 i1 a0 a1 m0 m1
                generalize wfst g = F at *
                generalize wfst (g + 1) = E at *
                generalize numb y m d = n at *
                have q2 : 0 ≤ (n - F) / 7 := by omega
                have q3 : (n - F) / 7 ≤ 60 := by omega
                have q4 : 0 ≤ (n - F) % 7 := by omega
                have q5 : (n - F) % 7 ≤ 6 := by omega
                go_wp2_with fail
                refine (hF _).mono ?_
                rintro e wa ⟨rfl, hb1⟩
                go_wp2_with fail
                refine (hG _).mono ?_
                rintro e wb ⟨rfl, hb2⟩
                go_wp2_with fail
                refine (hF _).mono ?_
                rintro e wc ⟨rfl, hb3⟩
                obtain ⟨_, D0, D1, D2, G0, G1, G2, ZZ, BW⟩ := Rel.out wc (hb1.trans ((hb2.trans (hb3.mono hb2.size)).mono hb1.size))
                go_wp2_with fail
                refine bodyPost_ret (v := .tuple #[dat g ((n - F) / 7 + 1) ((n - F) % 7 + 1), .int .i64 0]) (by simp [results, Tryd.results12, go_sem, *]) rfl ⟨?_, ?_⟩
                · rw [E.out]
                · (focus (repeat' (first | exact Below.refl _ _ | refine Below.alloc ?_ ?_ _ | refine Below.setCell ?_ ?_ _ | refine Below.drew ?_ | refine below_drewN ?_ _ | refine Below.trans ?_ (Below.mono (by assumption) ?_) | refine Below.trans ?_ (Below.mono (BW.below _) ?_) | (simp; done) | (simp; omega) | omega)))
  · have no : woOk y m d = false := by
      unfold woOk
      rw [h, Bool.false_and]
    obtain ⟨f1, f2, f3, f4⟩ := wo_n no
    rw [f1, f2, f3, f4]
    rw [e1, e2] at hD
    clear f1 f2 f3 f4 e1 e2 no h
    go_enter Tryd.func12, Tryd.ntmps12
    go_wp2_with (go_at_call 48; refine (hD _).mono ?_; rintro e w1 ⟨rfl, hb⟩; obtain ⟨hc, hf⟩ := bcell hb; have z := hb.size; (try simp at z); have z0 : w.heap.size < w1.heap.size := (by omega); have z1 : w.heap.size + 1 < w1.heap.size := (by omega); have d0 : w1.cell? ⟨w.heap.size + 1, 0, none⟩ = some (.int .i64 0) := (hb.cell (p := ⟨w.heap.size + 1, 0, none⟩) (by first | (simp; done) | (simp; omega) | omega)).trans (by go_simp); have g0 : w1.frozen? ⟨w.heap.size + 1, 0, none⟩ = false := (hb.frozen (p := ⟨w.heap.size + 1, 0, none⟩) (by first | (simp; done) | (simp; omega) | omega)).trans (by go_simp); have d1 : w1.cell? ⟨w.heap.size + 1, 1, none⟩ = some (.int .i64 0) := (hb.cell (p := ⟨w.heap.size + 1, 1, none⟩) (by first | (simp; done) | (simp; omega) | omega)).trans (by go_simp); have g1 : w1.frozen? ⟨w.heap.size + 1, 1, none⟩ = false := (hb.frozen (p := ⟨w.heap.size + 1, 1, none⟩) (by first | (simp; done) | (simp; omega) | omega)).trans (by go_simp); have d2 : w1.cell? ⟨w.heap.size + 1, 2, none⟩ = some (.int .i64 0) := (hb.cell (p := ⟨w.heap.size + 1, 2, none⟩) (by first | (simp; done) | (simp; omega) | omega)).trans (by go_simp); have g2 : w1.frozen? ⟨w.heap.size + 1, 2, none⟩ = false := (hb.frozen (p := ⟨w.heap.size + 1, 2, none⟩) (by first | (simp; done) | (simp; omega) | omega)).trans (by go_simp))
    refine bodyPost_ret (v := .tuple #[dat _ _ _, .int .i64 _]) (by simp [results, Tryd.results12, go_sem, *]) rfl ⟨rfl, ?_⟩
    (focus (repeat' (first | exact Below.refl _ _ | refine Below.alloc ?_ ?_ _ | refine Below.setCell ?_ ?_ _ | refine Below.drew ?_ | refine below_drewN ?_ _ | refine Below.trans ?_ (Below.mono (by assumption) ?_) | refine Below.trans ?_ (Below.mono (BW.below _) ?_) | (simp; done) | (simp; omega) | omega)))
end Go.Proofs.YtblmlglkjmilkacDoor
