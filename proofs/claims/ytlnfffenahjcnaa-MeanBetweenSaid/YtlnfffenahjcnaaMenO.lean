/-
  The reference's Merge: the walk.
-/
import Derived.Test.YtlnfffenahjcnaaMenN
namespace Go.Proofs.Ytlnfffenahjcnaa
open Go.RowKit
attribute [local go_sem] BW.cell BW.frozen
/-- What lies behind so many parts: the merged ones. -/
def RState (w0 wr : World) (u : Value) (m : List Pt) : Prop :=
  (m = [] ∧ u = .slice none 0 0) ∨
  (∃ o q g cap n, m = o ++ [q] ∧ u = .slice (some ⟨g, 0, none⟩) n cap ∧ n = o.length + 1 ∧ PtsAt wr w0.heap.size (.slice (some ⟨g, 0, none⟩) n cap) (o ++ [q]))
theorem RState.pts {w0 wr : World} {u : Value} {m : List Pt} (h : RState w0 wr u m) : PtsAt wr w0.heap.size u m := by
  rcases h with ⟨rfl, rfl⟩ | ⟨o, q, g, cap, n, rfl, rfl, rfl, h⟩
  · exact PtsAt.nil _ _
  · exact h
set_option maxRecDepth 100000 in
set_option maxHeartbeats 4000000 in
theorem ref12_Merge {w : World} {p : Option Addr} {l : List Pt} (cap : Nat) (h : PtS w p l) (hl : l.length ≤ 6000000000) : Calls Try.prog 19 #[.slice p l.length cap] w (GivesP w (mergeX l)) := by
  have hR := ref12_Right (w := w) (p := p) (l := l) cap h (by omega)
  unfold mergeX
  cases hr : rightL l
  · rw [hr] at hR
    clear hr
    go_enter Try.func19, Try.ntmps19
    go_wp2_with fail
    refine hR.mono ?_
    rintro e w1 ⟨rfl, hb⟩
    go_wp2_with fail
    go_ret
    exact ⟨_, rfl, PtsAt.nil _ _, hb⟩
  rw [hr] at hR
  clear hr
  simp only [if_true]
  go_enter Try.func19, Try.ntmps19
  go_wp2_with fail
  refine hR.mono ?_
  rintro e w0 ⟨rfl, hb0⟩
  have z0 := hb0.size
  rcases h with rfl | ⟨bk, off, rfl, hb, hc⟩
  · go_wp2_with fail
    refine wp_loop_rounds 1 ?_
    rw [rounds_succ]
    go_wp2_with fail
    go_ret
    exact ⟨_, rfl, PtsAt.nil _ _, hb0⟩
  have HC := Lib.hid hc
  clear hc
  go_wp2_with fail
  go_loopw [12, 3, 5, 6] (fun i u _ _ wr => ∃ k : Nat, k ≤ l.length ∧ i = .int .i64 k ∧ Hid (RState w wr u (mergeL (l.take k))) ∧ Below w.heap.size w wr) (fun i _ _ _ _ => l.length - (intOf i).toNat)
  case atStart => exact ⟨0, Nat.zero_le _, rfl, Lib.hid (.inl ⟨rfl, rfl⟩), hb0⟩
  case round =>
    obtain ⟨k, hk, rfl, HM, hB⟩ := hrel
    have hsz := hB.size
    by_cases hlt : k < l.length
    · have b0 : (k : Int) < (l.length : Int) := by omega
      have b1 : 0 ≤ (k : Int) := by omega
      obtain ⟨c0, c1, c2⟩ := HC.out k hlt
      have d0 := (hB.cell (p := ⟨bk, off + k * 3, none⟩) hb).trans c0
      have d1 := (hB.cell (p := ⟨bk, off + k * 3 + 1, none⟩) hb).trans c1
      have d2 := (hB.cell (p := ⟨bk, off + k * 3 + 2, none⟩) hb).trans c2
      have HT := Lib.hid (take_succ hlt)
      have HL := Lib.hid (mergeL_take_len l k)
      obtain ⟨P, hP⟩ : ∃ P, P = pt l k := ⟨_, rfl⟩
      rw [← hP] at HT d0 d1 d2
      obtain ⟨f, t, v⟩ := P
      clear c0 c1 c2 hP
      simp only at d0 d1 d2
      rcases HM.out with ⟨hm, rfl⟩ | ⟨o, q, g, cp, n, hm, rfl, rfl, hO⟩
      · rw [hm] at HT
        clear HM hm
        go_wp2_with fail
        have BX : Below w.heap.size w (wr.alloc (.cells #[.int .i64 f, .int .i64 t, .int .i64 v] 39)) := hB.alloc hB.size _
        have zx : wr.heap.size < (wr.alloc (.cells #[.int .i64 f, .int .i64 t, .int .i64 v] 39)).heap.size := by simp
        have e0 : (wr.alloc (.cells #[.int .i64 f, .int .i64 t, .int .i64 v] 39)).cell? ⟨wr.heap.size, 0, none⟩ = some (.int .i64 f) := by go_simp
        have e1 : (wr.alloc (.cells #[.int .i64 f, .int .i64 t, .int .i64 v] 39)).cell? ⟨wr.heap.size, 1, none⟩ = some (.int .i64 t) := by go_simp
        have e2 : (wr.alloc (.cells #[.int .i64 f, .int .i64 t, .int .i64 v] 39)).cell? ⟨wr.heap.size, 2, none⟩ = some (.int .i64 v) := by go_simp
        clear d0 d1 d2
        generalize (wr.alloc (.cells #[.int .i64 f, .int .i64 t, .int .i64 v] 39)) = x at *
        try dsimp only [List.append]
        refine wp_region_bw (by kernel_rfl) (by kernel_rfl) ?_; (repeat (go_big_quiet_step (fail))); refine wpQuiet_nil ?_; intro _ hw'; obtain ⟨xq, hw''⟩ := hw'; subst hw''
        have BZ : Below w.heap.size w xq.val := BX.trans (xq.below.mono BX.size)
        have zq := BZ.size
        go_wp2_with (at_builtin; refine app_pt rfl _ _ rfl w.heap.size _ [] rfl (PtsAt.nil _ _) _ f t v rfl ?_ ?_ ?_ (by simp) ?_ ?_; (simp [Addr.add]); (simp [Addr.add]); (simp [Addr.add]); (simp; omega); intro g3 c3 w3 own3 hb3; have z3 := hb3.size; (try simp at z3))
        go_roundw
        case rel => exact ⟨k + 1, by omega, by go_num, Lib.hid (by rw [HT.out]; exact .inr ⟨[], (f, t, v), g3, c3, _, rfl, rfl, rfl, own3⟩), (BZ.alloc zq _).trans hb3⟩
        case measure => simp [intOf]; omega
      · rw [hm] at HT HL
        clear HM hm
        obtain ⟨hn, hg0, hg1, hc1, hc2, hpt⟩ := hO.at
        obtain ⟨q0, q1, q2⟩ := hpt o.length (by simp)
        rw [pt_last, Nat.zero_add] at q0 q1 q2
        unfold maxLen at hc2
        rw [List.length_append, List.length_singleton] at hc1
        have HL := HL.out
        rw [List.length_append, List.length_singleton] at HL
        have HO := Lib.hid hO
        have fz : wr.frozen? ⟨g, o.length * 3 + 1, none⟩ = false := by
          have h := hO
          unfold PtsAt at h
          simp only [List.length_append, List.length_singleton] at h
          exact h.frozenAt _
        obtain ⟨qf, qt, qv⟩ := q
        simp only at q0 q1 q2
        clear hpt hO hn
        go_wp2_with fail
        have BX : Below w.heap.size w (wr.alloc (.cells #[.int .i64 f, .int .i64 t, .int .i64 v] 39)) := hB.alloc hB.size _
        have zx : wr.heap.size < (wr.alloc (.cells #[.int .i64 f, .int .i64 t, .int .i64 v] 39)).heap.size := by simp
        have e0 : (wr.alloc (.cells #[.int .i64 f, .int .i64 t, .int .i64 v] 39)).cell? ⟨wr.heap.size, 0, none⟩ = some (.int .i64 f) := by go_simp
        have e1 : (wr.alloc (.cells #[.int .i64 f, .int .i64 t, .int .i64 v] 39)).cell? ⟨wr.heap.size, 1, none⟩ = some (.int .i64 t) := by go_simp
        have e2 : (wr.alloc (.cells #[.int .i64 f, .int .i64 t, .int .i64 v] 39)).cell? ⟨wr.heap.size, 2, none⟩ = some (.int .i64 v) := by go_simp
        have y0 : (wr.alloc (.cells #[.int .i64 f, .int .i64 t, .int .i64 v] 39)).cell? ⟨g, o.length * 3, none⟩ = some (.int .i64 qf) := by go_simp
        have y1 : (wr.alloc (.cells #[.int .i64 f, .int .i64 t, .int .i64 v] 39)).cell? ⟨g, o.length * 3 + 1, none⟩ = some (.int .i64 qt) := by go_simp
        have y2 : (wr.alloc (.cells #[.int .i64 f, .int .i64 t, .int .i64 v] 39)).cell? ⟨g, o.length * 3 + 2, none⟩ = some (.int .i64 qv) := by go_simp
        have fy : (wr.alloc (.cells #[.int .i64 f, .int .i64 t, .int .i64 v] 39)).frozen? ⟨g, o.length * 3 + 1, none⟩ = false := by go_simp
        have zg : g < (wr.alloc (.cells #[.int .i64 f, .int .i64 t, .int .i64 v] 39)).heap.size := by simp; omega
        have BY : Below wr.heap.size wr (wr.alloc (.cells #[.int .i64 f, .int .i64 t, .int .i64 v] 39)) := (Below.refl _ _).alloc (Nat.le_refl _) _
        clear d0 d1 d2 q0 q1 q2 fz
        generalize (wr.alloc (.cells #[.int .i64 f, .int .i64 t, .int .i64 v] 39)) = x at *
        by_cases a1 : qv = v
        · subst a1
          by_cases a2 : qt = f
          · subst a2
            try dsimp only [List.append]
            refine wp_region_bw (by kernel_rfl) (by kernel_rfl) ?_; (repeat (go_big_quiet_step (fail))); refine wpQuiet_nil ?_; intro _ hw'; obtain ⟨xq, hw''⟩ := hw'; subst hw''
            have BZ : Below w.heap.size w xq.val := BX.trans (xq.below.mono BX.size)
            have zq := BZ.size
            have OW := Lib.hid (((HO.out.below BY).below xq.below).store t)
            go_wp2_with fail
            go_roundw
            case rel => exact ⟨k + 1, by omega, by go_num, Lib.hid (by rw [HT.out, mrgS_snoc, if_pos (by simp [alike])]; exact .inr ⟨o, _, g, cp, _, rfl, rfl, rfl, OW.out⟩), BZ.setCell (p := ⟨g, _, none⟩) hg0 _⟩
            case measure => simp [intOf]; omega
          · have na : alike (qf, qt, qv) (f, t, qv) = false := by simp [alike, a2]
            have a2 : (qt == f) = false := by simpa using a2
            try dsimp only [List.append]
            refine wp_region_bw (by kernel_rfl) (by kernel_rfl) ?_; (repeat (go_big_quiet_step (fail))); refine wpQuiet_nil ?_; intro _ hw'; obtain ⟨xq, hw''⟩ := hw'; subst hw''
            have BZ : Below w.heap.size w xq.val := BX.trans (xq.below.mono BX.size)
            have zq := BZ.size
            have OW := Lib.hid ((HO.out.below BY).below xq.below)
            go_wp2_with (at_builtin; refine app_pt rfl _ _ rfl w.heap.size _ (o ++ [(qf, qt, qv)]) rfl (OW.out.below ((Below.refl _ _).alloc (Nat.le_refl _) _)) _ f t qv rfl ?_ ?_ ?_ ?_ ?_ ?_; (simp [Addr.add]); (simp [Addr.add]); (simp [Addr.add]); (simp; omega); (simp; omega); intro g3 c3 w3 own3 hb3; have z3 := hb3.size; (try simp at z3); (simp only [List.length_append, List.length_singleton] at own3))
            have OX := Lib.hid own3
            clear own3
            go_roundw
            case rel => exact ⟨k + 1, by omega, by go_num, Lib.hid (by rw [HT.out, mrgS_snoc, if_neg (by rw [na]; decide)]; exact .inr ⟨o ++ [(qf, qt, qv)], (f, t, qv), g3, c3, _, rfl, rfl, by first | rfl | (simp; done) | (simp; omega) | omega, OX.out⟩), (BZ.alloc zq _).trans hb3⟩
            case measure => simp [intOf]; omega
        · have na : alike (qf, qt, qv) (f, t, v) = false := by simp [alike, a1]
          have a1 : (qv == v) = false := by simpa using a1
          · try skip
            try dsimp only [List.append]
            refine wp_region_bw (by kernel_rfl) (by kernel_rfl) ?_; (repeat (go_big_quiet_step (fail))); refine wpQuiet_nil ?_; intro _ hw'; obtain ⟨xq, hw''⟩ := hw'; subst hw''
            have BZ : Below w.heap.size w xq.val := BX.trans (xq.below.mono BX.size)
            have zq := BZ.size
            have OW := Lib.hid ((HO.out.below BY).below xq.below)
            go_wp2_with (at_builtin; refine app_pt rfl _ _ rfl w.heap.size _ (o ++ [(qf, qt, qv)]) rfl (OW.out.below ((Below.refl _ _).alloc (Nat.le_refl _) _)) _ f t v rfl ?_ ?_ ?_ ?_ ?_ ?_; (simp [Addr.add]); (simp [Addr.add]); (simp [Addr.add]); (simp; omega); (simp; omega); intro g3 c3 w3 own3 hb3; have z3 := hb3.size; (try simp at z3); (simp only [List.length_append, List.length_singleton] at own3))
            have OX := Lib.hid own3
            clear own3
            go_roundw
            case rel => exact ⟨k + 1, by omega, by go_num, Lib.hid (by rw [HT.out, mrgS_snoc, if_neg (by rw [na]; decide)]; exact .inr ⟨o ++ [(qf, qt, qv)], (f, t, v), g3, c3, _, rfl, rfl, by first | rfl | (simp; done) | (simp; omega) | omega, OX.out⟩), (BZ.alloc zq _).trans hb3⟩
            case measure => simp [intOf]; omega
    · obtain rfl : k = l.length := by omega
      have hO := HM.out.pts
      rw [List.take_length] at hO
      clear HM HC
      go_wp2_with fail
      go_ret
      exact ⟨_, rfl, hO, hB⟩
end Go.Proofs.Ytlnfffenahjcnaa
