/-
  The law's lives: answers that the document gives.
-/
import Derived.Test.YtlnfffenahjcnaaMenT
import Derived.Test.YtlnfffenahjcnaaMenN
import Derived.Test.YtlnfffenahjcnaaMenS
import Derived.Test.YtlnfffenahjcnaaSegL
namespace Go.Proofs.Ytlnfffenahjcnaa
open Go.RowKit Go.Shelf Flo
theorem PtS.two (w : World) (a b c d e f : Int) : PtS (w.alloc (.cells #[.int .i64 a, .int .i64 b, .int .i64 c, .int .i64 d, .int .i64 e, .int .i64 f] 39)) (some ⟨w.heap.size, 0, none⟩) [(a, b, c), (d, e, f)] := by
  refine .inr ⟨_, _, rfl, by simp, fun k hk => ?_⟩
  have hk : k = 0 ∨ k = 1 := by simp at hk; omega
  rcases hk with rfl | rfl
  · refine ⟨?_, ?_, ?_⟩ <;> go_simp <;> rfl
  · refine ⟨?_, ?_, ?_⟩ <;> go_simp <;> rfl
theorem PtS.one (w : World) (a b c : Int) : PtS (w.alloc (.cells #[.int .i64 a, .int .i64 b, .int .i64 c] 39)) (some ⟨w.heap.size, 0, none⟩) [(a, b, c)] := by
  refine .inr ⟨_, _, rfl, by simp, fun k hk => ?_⟩
  have hk : k = 0 := by simp at hk; omega
  subst hk
  refine ⟨?_, ?_, ?_⟩ <;> go_simp <;> rfl
theorem nz_eq {y k : Nat} (h : nz y = some k) : y = k := by
  unfold nz at h
  split at h
  · cases h
  · exact Option.some.inj h
theorem pti2 {a b c d e f : Int} (h1 : I64 a ∧ I64 b ∧ I64 c) (h2 : I64 d ∧ I64 e ∧ I64 f) : ∀ k, k < [(a, b, c), (d, e, f)].length → PtI (pt [(a, b, c), (d, e, f)] k) := fun k hk => by
  have hk : k = 0 ∨ k = 1 := by simp at hk; omega
  rcases hk with rfl | rfl
  · exact h1
  · exact h2
theorem pti1 {a b c : Int} (h1 : I64 a ∧ I64 b ∧ I64 c) : ∀ k, k < [(a, b, c)].length → PtI (pt [(a, b, c)] k) := fun k hk => by
  have hk : k = 0 := by simp at hk; omega
  subst hk
  exact h1
theorem li1 {w : World} {p : Option Addr} (cap : Nat) (h : PtS w p [((0 : Int), (10 : Int), (1 : Int)), (10, 30, 4)]) : Calls Try.prog 10 #[.slice p 2 cap, spn (5) (15)] w (GFE w (some 4612811918334230528) 0) := by
  have := mean_Mean cap (5) (15) h (by simp) (pti2 (a := 0) (b := 10) (c := 1) (d := 10) (e := 30) (f := 4) (by unfold I64; omega) (by unfold I64; omega))
  rw [show meanX [((0 : Int), (10 : Int), (1 : Int)), (10, 30, 4)] (5) (15) = some 4612811918334230528 by kernel_rfl, show totE [((0 : Int), (10 : Int), (1 : Int)), (10, 30, 4)] = 0 by kernel_rfl] at this
  exact this
theorem li2 {w : World} {p : Option Addr} (cap : Nat) (h : PtS w p [((0 : Int), (10 : Int), (1 : Int)), (10, 30, 4)]) : Calls Try.prog 10 #[.slice p 2 cap, spn (40) (50)] w (GFE w (none) 0) := by
  have := mean_Mean cap (40) (50) h (by simp) (pti2 (a := 0) (b := 10) (c := 1) (d := 10) (e := 30) (f := 4) (by unfold I64; omega) (by unfold I64; omega))
  rw [show meanX [((0 : Int), (10 : Int), (1 : Int)), (10, 30, 4)] (40) (50) = none by kernel_rfl, show totE [((0 : Int), (10 : Int), (1 : Int)), (10, 30, 4)] = 0 by kernel_rfl] at this
  exact this
theorem li3 {w : World} {p : Option Addr} (cap : Nat) (h : PtS w p [((0 : Int), (0 : Int), (0 : Int))]) : Calls Try.prog 10 #[.slice p 1 cap, spn (0) (1)] w (GFE w (some 0) 4) := by
  have := mean_Mean cap (0) (1) h (by simp) (pti1 (a := 0) (b := 0) (c := 0) (by unfold I64; omega))
  rw [show meanX [((0 : Int), (0 : Int), (0 : Int))] (0) (1) = some 0 by kernel_rfl, show totE [((0 : Int), (0 : Int), (0 : Int))] = 4 by kernel_rfl] at this
  exact this
theorem li4 {w : World} {p : Option Addr} (cap : Nat) (h : PtS w p [((0 : Int), (10 : Int), (1 : Int)), (10, 30, 4)]) : Calls Try.prog 8 #[.slice p 2 cap, spn (-5) (15)] w (GFE w (some 4624633867356078080) 0) := by
  have := mean_Total cap (-5) (15) h (by simp) (pti2 (a := 0) (b := 10) (c := 1) (d := 10) (e := 30) (f := 4) (by unfold I64; omega) (by unfold I64; omega))
  rw [show totX [((0 : Int), (10 : Int), (1 : Int)), (10, 30, 4)] (-5) (15) = some 4624633867356078080 by kernel_rfl, show totE [((0 : Int), (10 : Int), (1 : Int)), (10, 30, 4)] = 0 by kernel_rfl] at this
  exact this
theorem li5 {w : World} {p : Option Addr} (cap : Nat) (h : PtS w p [((0 : Int), (10 : Int), (1 : Int)), (10, 30, 4)]) : Calls Try.prog 8 #[.slice p 2 cap, spn (0) (0)] w (GFE w (some 0) 0) := by
  have := mean_Total cap (0) (0) h (by simp) (pti2 (a := 0) (b := 10) (c := 1) (d := 10) (e := 30) (f := 4) (by unfold I64; omega) (by unfold I64; omega))
  rw [show totX [((0 : Int), (10 : Int), (1 : Int)), (10, 30, 4)] (0) (0) = some 0 by kernel_rfl, show totE [((0 : Int), (10 : Int), (1 : Int)), (10, 30, 4)] = 0 by kernel_rfl] at this
  exact this
theorem li6 {w : World} {p : Option Addr} (cap : Nat) (h : PtS w p [((0 : Int), (0 : Int), (0 : Int))]) : Calls Try.prog 8 #[.slice p 1 cap, spn (0) (0)] w (GFE w (some 0) 4) := by
  have := mean_Total cap (0) (0) h (by simp) (pti1 (a := 0) (b := 0) (c := 0) (by unfold I64; omega))
  rw [show totX [((0 : Int), (0 : Int), (0 : Int))] (0) (0) = some 0 by kernel_rfl, show totE [((0 : Int), (0 : Int), (0 : Int))] = 4 by kernel_rfl] at this
  exact this
theorem li7 {w : World} {p : Option Addr} (cap : Nat) (h : PtS w p [((0 : Int), (10 : Int), (1 : Int)), (10, 30, 4)]) : Calls Try.prog 12 #[.slice p 2 cap, spn (0) (100)] w (GEnds w (1, 4, true)) := by
  have := mean_Ends cap (0) (100) h (by simp) (pti2 (a := 0) (b := 10) (c := 1) (d := 10) (e := 30) (f := 4) (by unfold I64; omega) (by unfold I64; omega))
  rw [show ends [((0 : Int), (10 : Int), (1 : Int)), (10, 30, 4)] (0) (100) = (1, 4, true) by kernel_rfl] at this
  exact this
theorem li8 {w : World} {p : Option Addr} (cap : Nat) (h : PtS w p [((0 : Int), (10 : Int), (1 : Int)), (10, 30, 4)]) : Calls Try.prog 12 #[.slice p 2 cap, spn (30) (100)] w (GEnds w (0, 0, false)) := by
  have := mean_Ends cap (30) (100) h (by simp) (pti2 (a := 0) (b := 10) (c := 1) (d := 10) (e := 30) (f := 4) (by unfold I64; omega) (by unfold I64; omega))
  rw [show ends [((0 : Int), (10 : Int), (1 : Int)), (10, 30, 4)] (30) (100) = (0, 0, false) by kernel_rfl] at this
  exact this
theorem li9 {w : World} {p : Option Addr} (cap : Nat) (h : PtS w p [((0 : Int), (10 : Int), (4 : Int)), (10, 30, 4)]) : Calls Try.prog 18 #[.slice p 2 cap] w (GivesP w [(0, 30, 4)]) := by
  have := mean_Merge cap h (by simp)
  rw [show mergeX [((0 : Int), (10 : Int), (4 : Int)), (10, 30, 4)] = [(0, 30, 4)] by kernel_rfl] at this
  exact this
theorem li16 {w : World} {p : Option Addr} (cap : Nat) (h : PtS w p [((0 : Int), (0 : Int), (0 : Int))]) : Calls Try.prog 18 #[.slice p 1 cap] w (GivesP w []) := by
  have := mean_Merge cap h (by simp)
  rw [show mergeX [((0 : Int), (0 : Int), (0 : Int))] = [] by kernel_rfl] at this
  exact this
theorem li14 {w : World} {p : Option Addr} (cap : Nat) (h : PtS w p [((0 : Int), (10 : Int), (1 : Int)), (10, 30, 4)]) : Calls Try.prog 15 #[.slice p 2 cap] w fun e w' => e = .returned (.bool true) ∧ Below w.heap.size w w' := by
  have := mean_Right cap h (by simp)
  rw [show rightL [((0 : Int), (10 : Int), (1 : Int)), (10, 30, 4)] = true by kernel_rfl] at this
  exact this
theorem li15 {w : World} {p : Option Addr} (cap : Nat) (h : PtS w p [((10 : Int), (30 : Int), (4 : Int)), (0, 10, 1)]) : Calls Try.prog 15 #[.slice p 2 cap] w fun e w' => e = .returned (.bool false) ∧ Below w.heap.size w w' := by
  have := mean_Right cap h (by simp)
  rw [show rightL [((10 : Int), (30 : Int), (4 : Int)), (0, 10, 1)] = false by kernel_rfl] at this
  exact this
theorem kind_n {y : Nat} (h : Hid (y < 18446744073709551616 ∧ nz y = none)) (w : World) : Calls Try.prog 20 #[.float .f64 y] w fun e w' => e = .returned (.int .i64 0) ∧ w = w' := by
  have := real_Kind y h.out.1 w
  rwa [show knd y = 0 by unfold knd; rw [nz_eq_none h.out.2]; rfl] at this
theorem kind_0 (w : World) : Calls Try.prog 20 #[.float .f64 0] w fun e w' => e = .returned (.int .i64 4) ∧ w = w' := by
  have := real_Kind 0 (by omega) w
  rwa [show knd 0 = 4 by kernel_rfl] at this
theorem own_slice {w : World} {B : Nat} {v : Value} {l : List Pt} (h : PtsAt w B v l) : ∃ p cap, v = .slice p l.length cap ∧ PtS w p l := by
  obtain ⟨p, cap, e, _, h⟩ := h.toS
  exact ⟨p, cap, e, h⟩
set_option maxRecDepth 100000 in
set_option maxHeartbeats 4000000 in
theorem mean_lives (w : World) : Calls Try.prog 7 #[] w fun e w' => e = .returned (.bool true) ∧ Below w.heap.size w w' := by
  go_enter Try.func7, Try.ntmps7
  go_wp2_with fail
  have P0 := PtS.two w 0 10 1 10 30 4
  have B0 : Below w.heap.size w (w.alloc (.cells #[.int .i64 0, .int .i64 10, .int .i64 1, .int .i64 10, .int .i64 30, .int .i64 4] 39)) := (Below.refl _ _).alloc (Nat.le_refl _) _
  generalize w.alloc (.cells #[.int .i64 0, .int .i64 10, .int .i64 1, .int .i64 10, .int .i64 30, .int .i64 4] 39) = x0 at *
  refine (li1 _ P0).mono ?_
  rintro e x1 ⟨y1, rfl, hy1, hb⟩
  obtain rfl := nz_eq hy1.out.2
  clear hy1
  have P1 := P0.below hb
  have B1 : Below w.heap.size w x1 := B0.trans (hb.mono (B0).size)
  clear hb P0 B0
  go_wp2_with fail
  refine (li2 _ P1).mono ?_
  rintro e x2 ⟨y2, rfl, hy2, hb⟩
  have P2 := P1.below hb
  have B2 : Below w.heap.size w x2 := B1.trans (hb.mono (B1).size)
  clear hb P1 B1
  go_wp2_with fail
  refine (li3 _ (PtS.one _ 0 0 0)).mono ?_
  rintro e x3 ⟨y3, rfl, hy3, hb⟩
  obtain rfl := nz_eq hy3.out.2
  clear hy3
  have P3 := (P2.below ((Below.refl _ _).alloc (Nat.le_refl _) _)).below hb
  have B3 : Below w.heap.size w x3 := (B2.alloc B2.size _).trans (hb.mono ((B2.alloc B2.size _)).size)
  clear hb P2 B2
  go_wp2_with fail
  refine (li4 _ P3).mono ?_
  rintro e x4 ⟨y4, rfl, hy4, hb⟩
  obtain rfl := nz_eq hy4.out.2
  clear hy4
  have P4 := P3.below hb
  have B4 : Below w.heap.size w x4 := B3.trans (hb.mono (B3).size)
  clear hb P3 B3
  go_wp2_with fail
  refine (li5 _ P4).mono ?_
  rintro e x5 ⟨y5, rfl, hy5, hb⟩
  obtain rfl := nz_eq hy5.out.2
  clear hy5
  have P5 := P4.below hb
  have B5 : Below w.heap.size w x5 := B4.trans (hb.mono (B4).size)
  clear hb P4 B4
  go_wp2_with fail
  refine (li6 _ (PtS.one _ 0 0 0)).mono ?_
  rintro e x6 ⟨y6, rfl, hy6, hb⟩
  obtain rfl := nz_eq hy6.out.2
  clear hy6
  have P6 := (P5.below ((Below.refl _ _).alloc (Nat.le_refl _) _)).below hb
  have B6 : Below w.heap.size w x6 := (B5.alloc B5.size _).trans (hb.mono ((B5.alloc B5.size _)).size)
  clear hb P5 B5
  go_wp2_with fail
  refine (li7 _ P6).mono ?_
  rintro e x7 ⟨rfl, hb⟩
  have P7 := P6.below hb
  have B7 : Below w.heap.size w x7 := B6.trans (hb.mono (B6).size)
  clear hb P6 B6
  go_wp2_with fail
  refine (li8 _ P7).mono ?_
  rintro e x8 ⟨rfl, hb⟩
  have P8 := P7.below hb
  have B8 : Below w.heap.size w x8 := B7.trans (hb.mono (B7).size)
  clear hb P7 B7
  go_wp2_with fail
  refine (li9 _ (PtS.two _ 0 10 4 10 30 4)).mono ?_
  rintro e x9 ⟨v9, rfl, O9, hb⟩
  have P9 := (P8.below ((Below.refl _ _).alloc (Nat.le_refl _) _)).below hb
  obtain ⟨p9, c9, rfl, M9⟩ := own_slice O9
  clear O9
  have B9 : Below w.heap.size w x9 := (B8.alloc B8.size _).trans (hb.mono ((B8.alloc B8.size _)).size)
  clear hb P8 B8
  have K2 := fun w => kind_n hy2 w
  clear hy2
  go_wp2_with fail
  try dsimp only [List.append]
  refine wp_region_pieces 90 (by kernel_rfl) (by kernel_rfl) ?_
  have P9 := P9.below ((Below.refl _ x9).drew)
  have M9 := M9.below ((Below.refl _ x9).drew)
  have B9 := B9.drew
  generalize x9.drew = y9 at *
  refine any_run 90 0 61 29 (by kernel_rfl) rfl (by kernel_rfl) ?_
  simp only [List.take_succ_cons, List.take_zero, List.drop_succ_cons, List.drop_zero]
  go_wp2_with (first | (go_at_call 20; with_reducible refine (K2 _).mono ?_; rintro e w' ⟨rfl, rfl⟩) | (go_at_call 20; with_reducible refine (kind_0 _).mono ?_; rintro e w' ⟨rfl, rfl⟩))
  refine thenAny_normal ?_
  refine any_float 90 61 28 _ rfl rfl rfl (by kernel_rfl) (fun c a d v w h => by cases d <;> exact h) (.inl ⟨rfl, fun _ => rfl⟩) ?_
  refine any_run 90 62 10 18 (by kernel_rfl) rfl (by kernel_rfl) ?_
  simp only [List.take_succ_cons, List.take_zero, List.drop_succ_cons, List.drop_zero]
  go_wp2_with fail
  refine (ref12_Same _ _ (M9.below ((Below.refl _ _).alloc (Nat.le_refl _) _)) (PtS.one _ 0 30 4) (by simp)).mono ?_
  rintro e x10 ⟨rfl, hb⟩
  have P10 := (P9.below ((Below.refl _ _).alloc (Nat.le_refl _) _)).below hb
  have B10 : Below w.heap.size w x10 := (B9.alloc B9.size _).trans (hb.mono (B9.alloc B9.size _).size)
  clear hb P9 B9 M9
  go_wp2_with fail
  refine (li14 _ P10).mono ?_
  rintro e x14 ⟨rfl, hb⟩
  have P14 := P10.below hb
  have B14 : Below w.heap.size w x14 := B10.trans (hb.mono (B10).size)
  clear hb P10 B10
  have Q14 := P14.resolve_left (by simp)
  obtain ⟨b14, o14, e14, z14, C14⟩ := Q14
  simp only [Option.some.injEq, Addr.mk.injEq, and_true] at e14
  obtain ⟨rfl, rfl⟩ := e14
  obtain ⟨q0, q1, q2⟩ := C14 0 (by simp)
  obtain ⟨q3, q4, q5⟩ := C14 1 (by simp)
  simp [pt] at q0 q1 q2 q3 q4 q5
  clear C14 P14
  go_wp2_with fail
  refine thenAny_normal ?_
  refine any_float 90 72 17 _ rfl rfl rfl (by kernel_rfl) (fun c a d v w h => by cases d <;> exact h) (.inl ⟨rfl, fun _ => rfl⟩) ?_
  refine any_float 90 73 16 (.pointer (some ⟨w.heap.size, 3, none⟩)) rfl rfl rfl (by kernel_rfl) (fun c a d v w h => by cases d <;> exact h) (.inl ⟨rfl, fun _ => by kernel_rfl⟩) ?_
  refine wpAny_pure (fun c a d v w h => by cases d <;> exact h) 75 _ rfl (by kernel_rfl) rfl (.inl ⟨rfl, fun _ => rfl⟩) ?_
  refine wpAny_pure (fun c a d v w h => by cases d <;> exact h) 76 (.pointer (some ⟨w.heap.size, 0, none⟩)) rfl (by kernel_rfl) rfl (.inl ⟨rfl, fun _ => by kernel_rfl⟩) ?_
  refine wpAny_ready (rs := [74, 77]) (by kernel_rfl) (by simp) ?_
  refine AllReady.cons rfl (fun K hK => ?_) (AllReady.cons rfl (fun K hK => ?_) AllReady.nil)
  · go_simp
    refine hK _ _ ?_
    clear hK
    refine wpAny_ready (rs := [77]) (by kernel_rfl) (by simp) (AllReady.cons rfl (fun K hK => ?_) AllReady.nil)
    go_simp
    refine hK _ _ ?_
    clear hK
    refine wpAny_as (upD 90 78) (by kernel_rfl) ?_
    refine any_end 90 78 12 (by kernel_rfl) rfl rfl (by kernel_rfl) ?_
    simp only [List.drop_succ_cons, List.drop_zero]
    go_wp2_with fail
    refine (li15 _ (PtS.two _ 10 30 4 0 10 1)).mono ?_
    rintro e x15 ⟨rfl, hb⟩
    have B15 : Below w.heap.size w x15 := (B14.alloc B14.size _).trans (hb.mono (B14.alloc B14.size _).size)
    clear hb B14
    go_wp2_with fail
    refine (li16 _ (PtS.one _ 0 0 0)).mono ?_
    rintro e x16 ⟨v16, rfl, O16, hb⟩
    have B16 : Below w.heap.size w x16 := (B15.alloc B15.size _).trans (hb.mono (B15.alloc B15.size _).size)
    obtain ⟨p16, c16, rfl, M16⟩ := own_slice O16
    clear hb B15 O16 M16
    go_wp2_with fail
    go_ret
    exact ⟨rfl, B16⟩
  · go_simp
    refine hK _ _ ?_
    clear hK
    refine wpAny_ready (rs := [74]) (by kernel_rfl) (by simp) (AllReady.cons rfl (fun K hK => ?_) AllReady.nil)
    go_simp
    refine hK _ _ ?_
    clear hK
    refine wpAny_as (upD 90 78) (by kernel_rfl) ?_
    refine any_end 90 78 12 (by kernel_rfl) rfl rfl (by kernel_rfl) ?_
    simp only [List.drop_succ_cons, List.drop_zero]
    go_wp2_with fail
    refine (li15 _ (PtS.two _ 10 30 4 0 10 1)).mono ?_
    rintro e x15 ⟨rfl, hb⟩
    have B15 : Below w.heap.size w x15 := (B14.alloc B14.size _).trans (hb.mono (B14.alloc B14.size _).size)
    clear hb B14
    go_wp2_with fail
    refine (li16 _ (PtS.one _ 0 0 0)).mono ?_
    rintro e x16 ⟨v16, rfl, O16, hb⟩
    have B16 : Below w.heap.size w x16 := (B15.alloc B15.size _).trans (hb.mono (B15.alloc B15.size _).size)
    obtain ⟨p16, c16, rfl, M16⟩ := own_slice O16
    clear hb B15 O16 M16
    go_wp2_with fail
    go_ret
    exact ⟨rfl, B16⟩
end Go.Proofs.Ytlnfffenahjcnaa
