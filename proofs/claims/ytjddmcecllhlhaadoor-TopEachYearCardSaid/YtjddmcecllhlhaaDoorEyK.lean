/-
  occur.In at a table of one rule: the walk.
-/
import Derived.Test.YtjddmcecllhlhaaDoorEyJ
import Derived.Test.YtjddmcecllhlhaaDoorSpanA
namespace Go.Proofs.YtjddmcecllhlhaaDoor
open Go.RowKit Go.Shelf Cal
attribute [local go_sem] Oper.semAt_some
theorem row_head {r : Ru} {W : World} {bo D m : Nat} {v : Value} {f : Int} {q : Obj} (hrow : W.ownsRow bo 53 3 v m (ocells r (yrs f m))) (hm : 1 ≤ m) (hK : W.heap[D]? = some q) (hq : q.isCells = false) :
    ∃ g cap, v = .slice (some ⟨g, 0, none⟩) m cap ∧ ∀ o, (W.putObj D o).cell? ⟨g, 1, none⟩ = some (.int .i64 f) ∧ g < (W.putObj D o).heap.size := by
  have hne := ey_ne hrow hK hq
  obtain ⟨n, rfl⟩ : ∃ n, m = n + 1 := ⟨m - 1, by omega⟩
  obtain ⟨g, cap, rfl⟩ := ownsRow_succ hrow
  have h1 : (ocells r (yrs f (n + 1)))[1]? = some (.int .i64 f) := by
    cases h : yrs f (n + 1) with
    | nil =>
      have := yrs_len f (n + 1)
      rw [h] at this
      cases this
    | cons y l =>
      have e : (yrs f (n + 1))[0]? = some (f + ((0 : Nat) : Int)) := by simp [yrs]
      rw [h] at e
      cases e
      simp [ocells]
  have hg : g ≠ D := fun e => hne (by rw [e]; rfl)
  refine ⟨g, cap, rfl, fun o => ⟨?_, ?_⟩⟩
  · exact (World.cell?_of_block (a := ⟨g, 1, none⟩) (World.putObj_heap_other (by exact hg))).trans ((hrow.cellAt 1 (by omega)).trans h1)
  · have := ownBlock_lt hrow rfl
    simpa using this
set_option maxRecDepth 100000 in
set_option maxHeartbeats 4000000 in
theorem occur_In (r : Ru) (hR : RightIs r true) (hr : RuFine r) (bl : Nat) (w : World) (hT : TabAt w bl r) :
    Calls Tryd.prog 16 #[tabV bl, .string r.nm, spn (-2192387558400) 1943781926398, .int .i64 50] w fun e w' => ∃ g cap, e = .returned (.slice (some ⟨g, 0, none⟩) (min (yrsN r) 50) cap) ∧ w'.cell? ⟨g, 1, none⟩ = some (.int .i64 r.f) ∧ g < w'.heap.size ∧ Below w.heap.size w w' := by
  have hS := fun w => span_Right (-2192387558400) 1943781926398 w
  rw [show decide ((-2192387558400 : Int) < 1943781926398) = true by decide] at hS
  refine (callsIn_wide (n := 9)).1 ?_
  refine callsIn_of_wp_marks Tryd.func16 rfl trivial ?_ rfl
  simp only [Tryd.ntmps16, List.size_toArray, List.length_cons, List.length_nil, Nat.reduceAdd, Nat.reduceSub, Array.replicate_succ, Array.replicate_zero, List.push_toArray, List.append_toArray, List.nil_append, List.cons_append]
  gi_wp2_with fail
  refine ⟨trivial, ?_⟩
  have B0 : Below w.heap.size w (((w.alloc (.cells #[.int .i64 (-2192387558400), .int .i64 1943781926398] 51)).alloc (.cells #[.int .i64 50] 3)).alloc (.cells #[.slice none 0 0] 48)) := by (focus (repeat' (first | exact Below.refl _ _ | refine Below.alloc ?_ ?_ _ | refine Below.setCell ?_ ?_ _ | refine Below.drew ?_ | refine below_drewN ?_ _ | refine Below.trans ?_ (Below.mono (by assumption) ?_) | refine Below.trans ?_ (Below.mono (BW.below _) ?_) | (simp; done) | (simp; omega) | omega)))
  refine (callsIn_wide.2 (hS _)).mono ?_
  rintro e w1 ⟨rfl, hb⟩
  have z1 := hb.size
  simp at z1
  have s0 : w1.cell? ⟨w.heap.size, 0, none⟩ = some (.int .i64 (-2192387558400)) := (hb.cell (p := ⟨w.heap.size, 0, none⟩) (by simp; omega)).trans (by go_simp)
  have s1 : w1.cell? ⟨w.heap.size, 1, none⟩ = some (.int .i64 1943781926398) := (hb.cell (p := ⟨w.heap.size, 1, none⟩) (by simp; omega)).trans (by go_simp)
  have m0 : w1.cell? ⟨w.heap.size + 1, 0, none⟩ = some (.int .i64 50) := (hb.cell (p := ⟨w.heap.size + 1, 0, none⟩) (by simp)).trans (by go_simp)
  have bO : Boxed w1 (w.heap.size + 1 + 1) 48 (.slice none 0 0) := (hb.block (w.heap.size + 1 + 1) (by simp)).trans (by
    have := World.alloc_heap_new ((w.alloc (.cells #[.int .i64 (-2192387558400), .int .i64 1943781926398] 51)).alloc (.cells #[.int .i64 50] 3)) (.cells #[.slice none 0 0] 48)
    simpa using this)
  have B1 : Below w.heap.size w w1 := B0.trans (hb.mono (by simp; omega))
  have T1 := hT.below B1 hT.lt (Nat.le_refl _)
  have hlt := hT.lt
  clear hb B0 hS hT
  gi_wp2_with fail
  refine ⟨trivial, ?_⟩
  refine (callsIn_wide.2 (occur_all _ _ _ _ _ _)).mono ?_
  rintro e w2 ⟨rfl, rfl⟩
  gi_wp2_with fail
  have BV : Below w1.heap.size w1 (((w1.alloc (.cells #[tabV bl] 47)).alloc (.cells #[.string r.nm] 9)).alloc (.cells #[.int .i64 (-1), .int .i64 0, .int .i64 (-2192387558400)] 53)) := by
    exact (((Below.refl _ _).alloc (Nat.le_refl _) _).alloc (by simp) _).alloc (by simp; omega) _
  have c1 : (((w1.alloc (.cells #[tabV bl] 47)).alloc (.cells #[.string r.nm] 9)).alloc (.cells #[.int .i64 (-1), .int .i64 0, .int .i64 (-2192387558400)] 53)).cell? ⟨w1.heap.size, 0, none⟩ = some (tabV bl) := by go_simp
  have c2 : (((w1.alloc (.cells #[tabV bl] 47)).alloc (.cells #[.string r.nm] 9)).alloc (.cells #[.int .i64 (-1), .int .i64 0, .int .i64 (-2192387558400)] 53)).cell? ⟨w1.heap.size + 1, 0, none⟩ = some (.string r.nm) := by go_simp
  have f0 : (((w1.alloc (.cells #[tabV bl] 47)).alloc (.cells #[.string r.nm] 9)).alloc (.cells #[.int .i64 (-1), .int .i64 0, .int .i64 (-2192387558400)] 53)).cell? ⟨w1.heap.size + 1 + 1, 0, none⟩ = some (.int .i64 (-1)) := by go_simp
  have f1 : (((w1.alloc (.cells #[tabV bl] 47)).alloc (.cells #[.string r.nm] 9)).alloc (.cells #[.int .i64 (-1), .int .i64 0, .int .i64 (-2192387558400)] 53)).cell? ⟨w1.heap.size + 1 + 1, 1, none⟩ = some (.int .i64 0) := by go_simp
  have f2 : (((w1.alloc (.cells #[tabV bl] 47)).alloc (.cells #[.string r.nm] 9)).alloc (.cells #[.int .i64 (-1), .int .i64 0, .int .i64 (-2192387558400)] 53)).cell? ⟨w1.heap.size + 1 + 1, 2, none⟩ = some (.int .i64 (-2192387558400)) := by go_simp
  have zV : (((w1.alloc (.cells #[tabV bl] 47)).alloc (.cells #[.string r.nm] 9)).alloc (.cells #[.int .i64 (-1), .int .i64 0, .int .i64 (-2192387558400)] 53)).heap.size = w1.heap.size + 1 + 1 + 1 := by simp
  have bV : Boxed (((w1.alloc (.cells #[tabV bl] 47)).alloc (.cells #[.string r.nm] 9)).alloc (.cells #[.int .i64 (-1), .int .i64 0, .int .i64 (-2192387558400)] 53)) (w.heap.size + 1 + 1) 48 (.slice none 0 0) := ((bO.alloc _).alloc _).alloc _
  generalize (((w1.alloc (.cells #[tabV bl] 47)).alloc (.cells #[.string r.nm] 9)).alloc (.cells #[.int .i64 (-1), .int .i64 0, .int .i64 (-2192387558400)] 53)) = V0 at *
  have TV := T1.below BV T1.lt (Nat.le_refl _)
  have B2 := B1.trans (BV.mono B1.size)
  have s1' := (BV.cell (p := ⟨w.heap.size, 1, none⟩) (show w.heap.size < _ by omega)).trans s1
  have m0' := (BV.cell (p := ⟨w.heap.size + 1, 0, none⟩) (show w.heap.size + 1 < _ by omega)).trans m0
  clear s0 s1 m0 bO T1 BV B1
  obtain ⟨i0, hi, hz0, hz1, hz2⟩ := info_parts Tryd.infoOc
  have hnb := fun y h0 h1 => nom_bd hr y (show -32767 ≤ y by have := hr.1; omega) (show y ≤ 32767 by have := hr.2.2.1; omega)
  have HNB : Hid (∀ y, r.f ≤ y → y ≤ r.t → nomV r y ≤ 1000000000000) := Lib.hid (fun y h0 h1 => (nom_bd hr y (by have := hr.1; omega) (by have := hr.2.2.1; omega)).2)
  have HFT := Lib.hid hr.2.1
  clear hnb
  refine wpIn_range_ks rfl (by omega) (gf := 70) (lb := #[.pointer (some ⟨w1.heap.size, 0, none⟩), .pointer (some ⟨w1.heap.size + 1, 0, none⟩), .pointer (some ⟨w1.heap.size + 1 + 1, 0, none⟩)]) rfl trivial (enters_of Tryd.func70 (by kernel_rfl) rfl)
    (all_seq r hR hr (9 - 1) (by omega) w1.heap.size (w1.heap.size + 1) (w1.heap.size + 1 + 1) (w.heap.size + 1 + 1) bl (by omega) V0 (by omega) (by omega) (by omega) (by omega) c1 c2 f0 f1 f2 TV) (by omega) (by intro k hk; simp at hk; omega) (fun _ => rfl)
    (InI r V0 (w.heap.size + 1 + 1)) (InX r V0 (w.heap.size + 1 + 1)) (fun ks => InI.own r V0 _ _ (by omega) (by omega) ks) (fun id => InX.own r V0 _ _ (by omega) (by omega) id) (InI.turn r V0 _) (InI.fresh r V0 _)
    ⟨⟨⟨_, bV, World.ownsRow_nil _ _ _ _, by simp [Value.ownBlock]⟩, Below.refl _ _⟩, by omega, by intro k hk; simp at hk; omega, by decide⟩ ?round ?done ?stop
  case round =>
    intro lp ks pre x W hI hlp hlW hkl
    clear c1 c2 f0 f1 f2 TV bV hR hr
    unfold occEnc
    gi_wp2_with fail
    have hDW := hI.1.2.size
    refine ⟨(KeepsOthers.alloc W _).from _, (Below.refl _ _).alloc (by omega) _, fun k hk => Below.heap_alloc _ _ _ (hI.2.2.1 k hk).2, (InI.own r V0 _ V0.heap.size (by omega) (by omega) ks).alloc _ hI, ?_⟩
    clear hI
    intro Wb hIb hsz hoth
    have hx := hoth W.heap.size (by omega)
    have x0 : Wb.cell? ⟨W.heap.size, 0, none⟩ = some (.int .i64 0) := (World.cell?_of_block (a := ⟨W.heap.size, 0, none⟩) hx).trans (by go_simp)
    have x1 : Wb.cell? ⟨W.heap.size, 1, none⟩ = some (.int .i64 x) := (World.cell?_of_block (a := ⟨W.heap.size, 1, none⟩) hx).trans (by go_simp)
    have x2 : Wb.cell? ⟨W.heap.size, 2, none⟩ = some (.int .i64 (nomV r x)) := (World.cell?_of_block (a := ⟨W.heap.size, 2, none⟩) hx).trans (by go_simp)
    obtain ⟨⟨⟨v, hv, hrow, hnb⟩, hB⟩, hbo, hks, hlen⟩ := hIb
    have s2 := (hB.cell (p := ⟨w.heap.size, 1, none⟩) (show w.heap.size < w.heap.size + 1 + 1 by omega)).trans s1'
    have m2 := (hB.cell (p := ⟨w.heap.size + 1, 0, none⟩) (show w.heap.size + 1 < w.heap.size + 1 + 1 by omega)).trans m0'
    have hsz2 : W.heap.size < Wb.heap.size := by rw [hsz]; simp
    clear hx hoth s1' m0' hsz
    by_cases hbig : 1943781926398 ≤ nomV r x
    · have HBG := Lib.hid hbig
      gi_wp2_with fail
      refine ⟨KeepsFrom.refl _ _, rfl, fun hy => ?_⟩
      have := hy x (by simp)
      have := HNB.out x this.1 this.2
      have := HBG.out
      omega
    · have hc := hv.cell
      have hzl : (Wb.alloc (.cells #[.int .i64 0, .int .i64 x, .int .i64 (nomV r x)] 53)).heap.size = Wb.heap.size + 1 := by simp
      obtain ⟨v', w3, hrun, hown', hgrow, hnil, hat⟩ := run_append_own_at (P := Tryd.prog) (w := Wb.alloc (.cells #[.int .i64 0, .int .i64 x, .int .i64 (nomV r x)] 53)) (w.heap.size + 1 + 1) 48 48 53 i0 (.agg #[.int .i64 0, .int .i64 0, .int .i64 0]) 3 24 Tryd.underlying48 hi hz0 hz1 hz2 rfl (by decide) v pre.length _ (hrow.alloc _) ⟨Wb.heap.size, 0, none⟩ 1 1 [.int .i64 0, .int .i64 x, .int .i64 (nomV r x)] rfl
        (by
          intro j u hj
          match j, hj with
          | 0, hj => cases hj; go_simp
          | 1, hj => cases hj; go_simp
          | 2, hj => cases hj; go_simp
          | j + 3, hj => simp at hj)
        (by simp [Value.oneCell']) (by unfold maxLen; omega) (by omega) (by rw [hzl]; omega)
      obtain ⟨g', cap', rfl⟩ := ownsRow_succ hown'
      obtain ⟨hv1, hv2, hr2, hk2, hb2⟩ := hv.appended (by decide) hrow (by omega) (Nat.le_refl _) hown' hgrow
      have hc1 := hv1.cell
      have hf1 := hv1.frozen
      have hkw : KeptK ks Wb (w3.setCell ⟨w.heap.size + 1 + 1, 0, none⟩ (.slice (some ⟨g', 0, none⟩) (pre.length + 1) cap')) := fun k hk => by
        have hk1 := hks k hk
        exact (Below.heap_setCell _ _ _ _ (by show k ≠ w.heap.size + 1 + 1; omega)).trans ((hgrow.block k (by rw [hzl]; omega) (fun e => hnb k hk e.symm)).trans (Below.heap_alloc _ _ _ hk1.2))
      have hkn : ∀ k ∈ ks, (Value.slice (some ⟨g', 0, none⟩) (pre.length + 1) cap').ownBlock ≠ some k := fun k hk e => by
        rcases hat with h | h
        · rw [h] at e; exact hnb k hk e
        · rw [h] at e
          have := (hks k hk).2
          simp at e
          omega
      have m3 := (hb2.cell (p := ⟨w.heap.size + 1, 0, none⟩) (show w.heap.size + 1 < w.heap.size + 1 + 1 by omega)).trans m2
      have v2c := hv2.cell
      have HQ := Lib.hid (And.intro hv2 (And.intro hr2 (And.intro hk2 (And.intro hb2 (And.intro hkw hkn)))))
      have HKS := Lib.hid hks
      have HZ := hb2.size
      clear hv2 hr2 hk2 hb2 hkw hkn hks hv hrow hnb hown' hgrow hat hnil hv1
      have HB := Lib.hid hB
      clear hB
      cases h50 : ((pre.length : Int) + 1 == 50)
      · gi_wp2_with (refine ey_append rfl hrun rfl rfl ?_)
        obtain ⟨q1, q2, q3, q4, q5, q6⟩ := HQ.out
        have hl : (pre.length : Int) + 1 ≠ 50 := by simpa using h50
        refine ⟨q3.from _, q4, q5, ⟨⟨⟨_, q1, ?_, q6⟩, HB.out.trans q4⟩, by omega, fun k hk => ⟨(HKS.out k hk).1, Nat.lt_of_lt_of_le (HKS.out k hk).2 HZ⟩, by rw [List.length_append]; show pre.length + 1 < 50; omega⟩⟩
        rw [ocells_snoc, List.length_append]
        exact q2
      · gi_wp2_with (refine ey_append rfl hrun rfl rfl ?_)
        obtain ⟨q1, q2, q3, q4, q5, q6⟩ := HQ.out
        have hl : (pre.length : Int) + 1 = 50 := by simpa using h50
        refine ⟨q3.from _, rfl, fun hy => ⟨⟨⟨_, q1, ?_, trivial⟩, HB.out.trans q4⟩, by rw [List.length_append]; show pre.length + 1 = 50; omega⟩⟩
        rw [ocells_snoc, List.length_append]
        exact q2
  case done =>
    rintro xs ks W rfl ⟨⟨⟨v, hv, hrow, hnb⟩, hB⟩, hbo, hks, hlen⟩ hK
    rw [yrs_len] at hlen
    have hc := hv.cell
    have HROW := Lib.hid hrow
    have HBB := Lib.hid hB
    clear hrow hB
    have HT9 := Lib.hid TV
    gi_wp2
    have hft := HFT.out
    have hn1 : 1 ≤ yrsN r := by unfold yrsN; omega
    have hR9 := HROW.out
    rw [yrs_len] at hR9
    obtain ⟨g, cap, rfl, hg⟩ := row_head hR9 hn1 hK rfl
    refine ⟨by simp, .inl ⟨_, _, rfl, run_takeDeferred hK, ?_⟩⟩
    refine ⟨_, results_tmp rfl _ _ _, g, cap, by rw [show min (yrsN r) 50 = yrsN r by omega]; rfl, (hg _).1, (hg _).2, ?_⟩
    exact (B2.trans (HBB.out.mono (by omega))).trans (belowK_b (w := w) (Nat.le_refl _) W V0.heap.size _ _ (by omega) hK rfl rfl)
  case stop =>
    rintro id pre W ⟨k, k0, k1, rfl⟩ ⟨rfl, hq⟩ hK
    obtain ⟨⟨⟨v, hv, hrow, _⟩, hB⟩, hlen⟩ := hq (by
      intro y hy
      unfold yrs at hy
      obtain ⟨i, hi, rfl⟩ := List.mem_map.1 hy
      have := List.mem_range.1 hi
      unfold yrsN at k1
      omega)
    rw [yrs_len] at hlen
    have hc := hv.cell
    have HROW := Lib.hid hrow
    have HBB := Lib.hid hB
    clear hrow hB hq
    gi_wp2
    have hR9 := HROW.out
    rw [yrs_len] at hR9
    obtain ⟨g, cap, rfl, hg⟩ := row_head hR9 k0 hK rfl
    refine ⟨by simp, .inl ⟨_, _, rfl, run_takeDeferred hK, ?_⟩⟩
    refine ⟨_, results_tmp rfl _ _ _, g, cap, by rw [show min (yrsN r) 50 = k by omega]; rfl, (hg _).1, (hg _).2, ?_⟩
    exact (B2.trans (HBB.out.mono (by omega))).trans (belowK_b (w := w) (Nat.le_refl _) W V0.heap.size _ _ (by omega) hK rfl rfl)
end Go.Proofs.YtjddmcecllhlhaaDoor
