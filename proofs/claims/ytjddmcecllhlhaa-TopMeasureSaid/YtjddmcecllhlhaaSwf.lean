/-
  spans.sweep: the walk, over what the sorting says.
-/
import Derived.Test.YtjddmcecllhlhaaSwe
namespace Go.Proofs.Ytjddmcecllhlhaa
open Go.RowKit Swp
attribute [local go_sem] BW.cell BW.frozen
set_option maxRecDepth 100000 in
set_option maxHeartbeats 16000000 in
theorem sweep_over {w : World} {pa pb : Option Addr} {a b : List Sp} (capa capb g : Nat) (keep : Bool → Bool → Bool) (eg : ∀ args w, (callFunc g args).run Try.prog w = .ok (.enter g args) w) (hk : ∀ x y W, Calls Try.prog g #[.bool x, .bool y] W fun e W' => e = .returned (.bool (keep x y)) ∧ W = W') (hff : keep false false = false)
    (hso : ∀ B, SortSays B) (ha : SpS w pa a) (hb : SpS w pb b) (la : a.length ≤ 100000) (lb : b.length ≤ 100000) : Calls Try.prog 13 #[.slice pa a.length capa, .slice pb b.length capb, .func (.func g) #[] #[]] w (GivesR w keep a b) := by
  have HA := Lib.hid ha
  have HB := Lib.hid hb
  have HS := Lib.hid hso
  have HF := Lib.hid hff
  clear ha hb hso hff
  go_enter Try.func13, Try.ntmps13
  go_wp2_with fail
  refine (edges_over (S := w.heap.size + 1) (pa := pa) (pb := pb) (a := a) (b := b) (capa := capa) (capb := capb) (HS.out _) (by go_simp) (by go_simp) (by simp) (HA.out.below (by (focus (repeat' (first | exact Below.refl _ _ | refine Below.alloc ?_ ?_ _ | refine Below.setCell ?_ ?_ _ | refine Below.drew ?_ | refine below_drewN ?_ _ | refine Below.trans ?_ (Below.mono (by assumption) ?_) | refine Below.trans ?_ (Below.mono (BW.below _) ?_) | (simp; done) | (simp; omega) | omega))))) (HB.out.below (by (focus (repeat' (first | exact Below.refl _ _ | refine Below.alloc ?_ ?_ _ | refine Below.setCell ?_ ?_ _ | refine Below.drew ?_ | refine below_drewN ?_ _ | refine Below.trans ?_ (Below.mono (by assumption) ?_) | refine Below.trans ?_ (Below.mono (BW.below _) ?_) | (simp; done) | (simp; omega) | omega))))) la lb).mono ?_
  rintro e w1 ⟨p, cap, l, rfl, hperm, hsort, hP, hpb, hb⟩
  have z1 := hb.size
  simp at z1
  have e0 : w1.cell? ⟨w.heap.size, 0, none⟩ = some (.int .i64 0) := (hb.cell (p := ⟨w.heap.size, 0, none⟩) (by simp; omega)).trans (by go_simp)
  have e1 : w1.cell? ⟨w.heap.size, 1, none⟩ = some (.int .i64 0) := (hb.cell (p := ⟨w.heap.size, 1, none⟩) (by simp; omega)).trans (by go_simp)
  have e2 : ∀ j, w1.frozen? ⟨w.heap.size, j, none⟩ = false := fun j => (hb.frozen (p := ⟨w.heap.size, j, none⟩) (by simp; omega)).trans (by go_simp)
  have BW1 : Below w.heap.size w w1 := (by (focus (repeat' (first | exact Below.refl _ _ | refine Below.alloc ?_ ?_ _ | refine Below.setCell ?_ ?_ _ | refine Below.drew ?_ | refine below_drewN ?_ _ | refine Below.trans ?_ (Below.mono (by assumption) ?_) | refine Below.trans ?_ (Below.mono (BW.below _) ?_) | (simp; done) | (simp; omega) | omega))))
  have HQ := Lib.hid hperm
  have HT := Lib.hid hsort
  have hlen : l.length ≤ 400000 := by have := ed_len hperm; omega
  have hlen2 := Lib.hid (ed_len hperm)
  have hpb' : ∀ ad, p = some ad → w.heap.size + 2 ≤ ad.block := fun ad h => by have := hpb ad h; simpa using this
  clear hperm hsort hpb hb HA HB HS
  have hcase : l = [] ∨ ∃ bk off, p = some ⟨bk, off, none⟩ ∧ (bk < w1.heap.size ∧ w.heap.size < bk) ∧ PtAt w1 bk off l := by
    rcases hP with h | ⟨bk, off, rfl, h1, h2⟩
    · exact .inl h
    · exact .inr ⟨bk, off, rfl, ⟨h1, by have := hpb' _ rfl; simp only at this; omega⟩, h2⟩
  clear hP hpb'
  rcases hcase with rfl | ⟨bk, off, rfl, hbk, hPA⟩
  · go_wp2_with fail
    refine wp_loop_rounds 1 ?_
    rw [rounds_succ]
    go_wp2_with fail
    go_ret
    have hO : OutInv [] (wnt keep a b) 0 false [] := first_false HF.out HQ.out
    exact ⟨_, [], rfl, SpansAt.nil _ _, Sep.nil, hO.done.2, Nat.zero_le _, BW1⟩
  have HS : Hid (Swept w w1.heap.size w1 bk off l 0 (.slice none 0 0) []) := Lib.hid ⟨hPA, SpansAt.nil _ _, BW1, ⟨hbk.1, hbk.2, Nat.le_refl _⟩, by rw [dpE_zero]; exact e0, by rw [dpE_zero]; exact e1, e2⟩
  clear e0 e1 e2 BW1 hPA z1
  have eg' := Lib.hid eg
  go_wp2_with fail
  go_loopw [11, 7, 9, 12, 13] (fun i u o _ _ wr => ∃ (k : Nat) (R : List Sp) (op : Bool), i = .int .i64 k ∧ o = .bool op ∧ k ≤ l.length ∧ Hid (Swept w w1.heap.size wr bk off l k u R) ∧ Hid (OutInv l (wnt keep a b) k op R) ∧ Hid (Prt l k) ∧ Hid (keep (decide (0 < dpE l 0 k)) (decide (0 < dpE l 1 k)) = op) ∧ R.length ≤ k) (fun i _ _ _ _ _ => l.length - (intOf i).toNat)
  case atStart => exact ⟨0, [], false, rfl, rfl, Nat.zero_le _, HS, Lib.hid (first_false HF.out HQ.out), Lib.hid (Prt.zero _), Lib.hid (by rw [dpE_zero, dpE_zero]; exact HF.out), Nat.le_refl _⟩
  case round =>
    clear HS
    obtain ⟨k, R, op, rfl, rfl, hk1, HS, HO, HP, HW, hR⟩ := hrel
    by_cases hlt : k < l.length
    · have b0 : (k : Int) < (l.length : Int) := by omega
      have b1 : 0 ≤ (k : Int) := by omega
      have d0 := (HS.out.pts k hlt).1
      obtain ⟨at_, hat⟩ : ∃ x, x = (pt l k).1 := ⟨_, rfl⟩
      rw [← hat] at d0
      have HAT := Lib.hid hat
      clear hat
      go_wp2_with fail
      clear d0
      go_loopw [11] (fun i wr => ∃ m : Nat, i = .int .i64 m ∧ Hid (Run l k m at_) ∧ Hid (Swept w w1.heap.size wr bk off l m u7 R)) (fun i _ => l.length - (intOf i).toNat)
      case atStart => exact ⟨k, rfl, Lib.hid (Run.start hk1 _), HS⟩
      case round =>
        clear HS
        obtain ⟨m, rfl, HR, HS⟩ := hrel
        have hm := HR.out.hi
        by_cases hlt2 : m < l.length
        · have b2 : (m : Int) < (l.length : Int) := by omega
          have b3 : 0 ≤ (m : Int) := by omega
          obtain ⟨c0, c1, c2⟩ := HS.out.pts m hlt2
          by_cases ha : (pt l m).1 = at_
          · rw [ha] at c0
            have HN := Lib.hid (HR.out.next hlt2 ha)
            have hsh := ed_shape HQ.out hlt2
            have bd0 := dpE_bd (fun k hk => (ed_shape HQ.out hk).2) 0 m hm
            have bd1 := dpE_bd (fun k hk => (ed_shape HQ.out hk).2) 1 m hm
            have hs0 := Lib.hid (dpE_succ (k := 0) hlt2)
            have hs1 := Lib.hid (dpE_succ (k := 1) hlt2)
            have x0 := HS.out.d0
            have x1 := HS.out.d1
            have xf := HS.out.fr
            have xz := HS.out.sz
            generalize hX0 : dpE l 0 m = X0 at *
            generalize hX1 : dpE l 1 m = X1 at *
            have HX0 := Lib.hid hX0
            have HX1 := Lib.hid hX1
            clear hX0 hX1
            obtain ⟨xz4, xz2, xz5⟩ := xz
            have xz1 : bk < wr.heap.size := by omega
            have xz3 : w.heap.size < wr.heap.size := by omega
            obtain ⟨hside, hstep⟩ := hsh
            obtain ⟨st, hst⟩ : ∃ x, x = (pt l m).2.1 := ⟨_, rfl⟩
            rw [← hst] at c1 hstep hs0 hs1
            clear hst
            have xf0 := xf 0
            have xf1 := xf 1
            rcases hside with hs | hs
            · rw [hs] at c2 hs0 hs1
              rw [if_pos rfl] at hs0
              rw [if_neg (by decide), Int.add_zero] at hs1
              clear hs xf
              go_wp2_with fail
              refine wp_region_bw_tail 14 (by kernel_rfl) (by kernel_rfl) ?_; simp only [List.take_succ_cons, List.take_zero, List.drop_succ_cons, List.drop_zero]; (repeat (go_big_quiet_step (fail))); refine wpQuiet_nil ?_; intro _ hw'; obtain ⟨xq, hw''⟩ := hw'; subst hw''
              go_wp2_with fail
              go_roundw
              case rel => exact ⟨m + 1, by go_num, HN, Lib.hid ((HS.out.below xq.below).store0 hs0.out (hs1.out.trans HX1.out.symm))⟩
              case measure => simp [intOf]; omega
            · rw [hs] at c2 hs0 hs1
              rw [if_pos rfl] at hs1
              rw [if_neg (by decide), Int.add_zero] at hs0
              clear hs xf
              go_wp2_with fail
              refine wp_region_bw_tail 14 (by kernel_rfl) (by kernel_rfl) ?_; simp only [List.take_succ_cons, List.take_zero, List.drop_succ_cons, List.drop_zero]; (repeat (go_big_quiet_step (fail))); refine wpQuiet_nil ?_; intro _ hw'; obtain ⟨xq, hw''⟩ := hw'; subst hw''
              go_wp2_with fail
              go_roundw
              case rel => exact ⟨m + 1, by go_num, HN, Lib.hid ((HS.out.below xq.below).store1 hs1.out (hs0.out.trans HX0.out.symm))⟩
              case measure => simp [intOf]; omega
          · have hne : ((pt l m).1 == at_) = false := by simpa using ha
            have hG := (show Run l k m (pt l k).1 by rw [← HAT.out]; exact HR.out).grp HT.out hlt HP.out (by rw [← HAT.out]; exact (.inr ha))
            have hG1 := hG.1
            rw [← HAT.out] at hG1
            have HG := Lib.hid hG1
            have HP2 := Lib.hid hG.2
            clear hG hG1 HP
            obtain ⟨want, hwant⟩ : ∃ x, x = keep (decide (0 < dpE l 0 m)) (decide (0 < dpE l 1 m)) := ⟨_, rfl⟩
            have HWT := Lib.hid (wanted HQ.out HG.out hwant.symm)
            have HW2 := Lib.hid hwant.symm
            have hk' := fun W => hk (decide (0 < dpE l 0 m)) (decide (0 < dpE l 1 m)) W
            rw [← hwant] at hk'
            clear hwant
            have x0 := HS.out.d0
            have x1 := HS.out.d1
            obtain ⟨xz4, xz2, xz5⟩ := HS.out.sz
            have xz1 : bk < wr.heap.size := by omega
            have xz3 : w.heap.size < wr.heap.size := by omega
            obtain ⟨X0, hX0⟩ : ∃ x, x = dpE l 0 m := ⟨_, rfl⟩
            obtain ⟨X1, hX1⟩ : ∃ x, x = dpE l 1 m := ⟨_, rfl⟩
            rw [← hX0] at x0 hk'
            rw [← hX1] at x1 hk'
            clear hX0 hX1
            have hkm := HG.out.lt
            have hRl : R.length ≤ 400000 := by omega
            cases want with
            | true =>
              cases op with
              | true =>
                go_wp2_with (go_at_fn g; refine (hk' _).mono ?_; rintro e w' ⟨rfl, rfl⟩)
                go_roundw
                case rel => exact ⟨m, R, true, rfl, rfl, HG.out.le, HS, Lib.hid (HO.out.keep HG.out HWT.out), HP2, HW2, by omega⟩
                case measure => simp [intOf]; omega
              | false =>
                go_wp2_with (first | (go_at_fn g; refine (hk' _).mono ?_; rintro e w' ⟨rfl, rfl⟩) | (at_builtin; refine app_span rfl _ _ rfl w1.heap.size _ R rfl (HS.out.out_.below ?_) _ at_ 0 rfl ?_ ?_ (by omega) ?_ ?_; (focus (repeat' (first | exact Below.refl _ _ | refine Below.alloc ?_ ?_ _ | refine Below.setCell ?_ ?_ _ | refine Below.drew ?_ | refine below_drewN ?_ _ | refine Below.trans ?_ (Below.mono (by assumption) ?_) | refine Below.trans ?_ (Below.mono (BW.below _) ?_) | (simp; done) | (simp; omega) | omega))); (simp [Addr.add]); (simp [Addr.add]); (simp; omega); intro v3 w3 own3 hb3; have z3 := hb3.size; (try simp at z3)))
                have HS3 := Lib.hid (HS.out.grew (((Below.refl _ wr).alloc xz5 _).trans hb3) own3)
                clear own3
                go_roundw
                case rel => exact ⟨m, R ++ [(at_, 0)], true, rfl, rfl, HG.out.le, HS3, Lib.hid (HO.out.open_ HG.out HWT.out), HP2, HW2, by simp; omega⟩
                case measure => simp [intOf]; omega
            | false =>
              cases op with
              | true =>
                obtain ⟨C, x, hRC, hO'⟩ := HO.out.close HG.out HWT.out
                have HO' := Lib.hid hO'
                clear hO'
                subst hRC
                obtain ⟨g', cp, hv, hg'⟩ := HS.out.out_.isSome (by simp)
                rw [show (C ++ [(x, (0 : Int))]).length = C.length + 1 by simp] at hv hR hRl
                subst hv
                have HA' := Lib.hid HS.out.out_
                obtain ⟨j1, j2, hg2, j3, hg3, hpt⟩ := HS.out.out_.at
                obtain ⟨y0, y1⟩ := hpt C.length (by simp)
                have yf := HS.out.out_.frozen (C.length * 2 + 1)
                rw [Nat.zero_add] at y0 y1
                unfold maxLen at hg3
                clear hpt j1 j2 j3
                go_wp2_with (go_at_fn g; refine (hk' _).mono ?_; rintro e w' ⟨rfl, rfl⟩)
                have HS3 := Lib.hid (HS.out.grew ((Below.refl _ wr).setCell (p := ⟨g', C.length * 2 + 1, none⟩) hg' (.int .i64 at_)) (HA'.out.store at_))
                go_roundw
                case rel => exact ⟨m, C ++ [(x, at_)], false, rfl, rfl, HG.out.le, HS3, HO', HP2, HW2, by simp; omega⟩
                case measure => simp [intOf]; omega
              | false =>
                go_wp2_with (go_at_fn g; refine (hk' _).mono ?_; rintro e w' ⟨rfl, rfl⟩)
                go_roundw
                case rel => exact ⟨m, R, false, rfl, rfl, HG.out.le, HS, Lib.hid (HO.out.keep HG.out HWT.out), HP2, HW2, by omega⟩
                case measure => simp [intOf]; omega
        · obtain rfl : m = l.length := by omega
          have hG := (show Run l k l.length (pt l k).1 by rw [← HAT.out]; exact HR.out).grp HT.out hlt HP.out (by rw [← HAT.out]; exact (.inl rfl))
          have hG1 := hG.1
          rw [← HAT.out] at hG1
          have HG := Lib.hid hG1
          have HP2 := Lib.hid hG.2
          clear hG hG1 HP
          obtain ⟨want, hwant⟩ : ∃ x, x = keep (decide (0 < dpE l 0 l.length)) (decide (0 < dpE l 1 l.length)) := ⟨_, rfl⟩
          have HWT := Lib.hid (wanted HQ.out HG.out hwant.symm)
          have HW2 := Lib.hid hwant.symm
          have hk' := fun W => hk (decide (0 < dpE l 0 l.length)) (decide (0 < dpE l 1 l.length)) W
          rw [← hwant] at hk'
          clear hwant
          have x0 := HS.out.d0
          have x1 := HS.out.d1
          obtain ⟨xz4, xz2, xz5⟩ := HS.out.sz
          have xz1 : bk < wr.heap.size := by omega
          have xz3 : w.heap.size < wr.heap.size := by omega
          obtain ⟨X0, hX0⟩ : ∃ x, x = dpE l 0 l.length := ⟨_, rfl⟩
          obtain ⟨X1, hX1⟩ : ∃ x, x = dpE l 1 l.length := ⟨_, rfl⟩
          rw [← hX0] at x0 hk'
          rw [← hX1] at x1 hk'
          clear hX0 hX1
          have hkm := HG.out.lt
          have hRl : R.length ≤ 400000 := by omega
          cases want with
          | true =>
            cases op with
            | true =>
              go_wp2_with (go_at_fn g; refine (hk' _).mono ?_; rintro e w' ⟨rfl, rfl⟩)
              go_roundw
              case rel => exact ⟨l.length, R, true, rfl, rfl, HG.out.le, HS, Lib.hid (HO.out.keep HG.out HWT.out), HP2, HW2, by omega⟩
              case measure => simp [intOf]; omega
            | false =>
              go_wp2_with (first | (go_at_fn g; refine (hk' _).mono ?_; rintro e w' ⟨rfl, rfl⟩) | (at_builtin; refine app_span rfl _ _ rfl w1.heap.size _ R rfl (HS.out.out_.below ?_) _ at_ 0 rfl ?_ ?_ (by omega) ?_ ?_; (focus (repeat' (first | exact Below.refl _ _ | refine Below.alloc ?_ ?_ _ | refine Below.setCell ?_ ?_ _ | refine Below.drew ?_ | refine below_drewN ?_ _ | refine Below.trans ?_ (Below.mono (by assumption) ?_) | refine Below.trans ?_ (Below.mono (BW.below _) ?_) | (simp; done) | (simp; omega) | omega))); (simp [Addr.add]); (simp [Addr.add]); (simp; omega); intro v3 w3 own3 hb3; have z3 := hb3.size; (try simp at z3)))
              have HS3 := Lib.hid (HS.out.grew (((Below.refl _ wr).alloc xz5 _).trans hb3) own3)
              clear own3
              go_roundw
              case rel => exact ⟨l.length, R ++ [(at_, 0)], true, rfl, rfl, HG.out.le, HS3, Lib.hid (HO.out.open_ HG.out HWT.out), HP2, HW2, by simp; omega⟩
              case measure => simp [intOf]; omega
          | false =>
            cases op with
            | true =>
              obtain ⟨C, x, hRC, hO'⟩ := HO.out.close HG.out HWT.out
              have HO' := Lib.hid hO'
              clear hO'
              subst hRC
              obtain ⟨g', cp, hv, hg'⟩ := HS.out.out_.isSome (by simp)
              rw [show (C ++ [(x, (0 : Int))]).length = C.length + 1 by simp] at hv hR hRl
              subst hv
              have HA' := Lib.hid HS.out.out_
              obtain ⟨j1, j2, hg2, j3, hg3, hpt⟩ := HS.out.out_.at
              obtain ⟨y0, y1⟩ := hpt C.length (by simp)
              have yf := HS.out.out_.frozen (C.length * 2 + 1)
              rw [Nat.zero_add] at y0 y1
              unfold maxLen at hg3
              clear hpt j1 j2 j3
              go_wp2_with (go_at_fn g; refine (hk' _).mono ?_; rintro e w' ⟨rfl, rfl⟩)
              have HS3 := Lib.hid (HS.out.grew ((Below.refl _ wr).setCell (p := ⟨g', C.length * 2 + 1, none⟩) hg' (.int .i64 at_)) (HA'.out.store at_))
              go_roundw
              case rel => exact ⟨l.length, C ++ [(x, at_)], false, rfl, rfl, HG.out.le, HS3, HO', HP2, HW2, by simp; omega⟩
              case measure => simp [intOf]; omega
            | false =>
              go_wp2_with (go_at_fn g; refine (hk' _).mono ?_; rintro e w' ⟨rfl, rfl⟩)
              go_roundw
              case rel => exact ⟨l.length, R, false, rfl, rfl, HG.out.le, HS, Lib.hid (HO.out.keep HG.out HWT.out), HP2, HW2, by omega⟩
              case measure => simp [intOf]; omega
    · obtain rfl : k = l.length := by omega
      go_wp2_with fail
      go_ret
      have hop : op = false := HW.out.symm.trans (last_false HF.out HQ.out)
      subst hop
      have hd := HO.out.done
      exact ⟨_, R, rfl, HS.out.out_.mono (by omega), hd.1, hd.2, by have := hlen2.out; omega, HS.out.bel⟩
end Go.Proofs.Ytjddmcecllhlhaa
