/-
  The instant of an occurrence.
-/
import Derived.Test.YtjddmcecllhlhaaDoorEyG
namespace Go.Proofs.YtjddmcecllhlhaaDoor
open Go.RowKit Cal
attribute [local go_sem] BW.cell BW.frozen
/-- What an instant's function has kept: the table, the name, the occurrence. -/
structure Insted (u : World) (b1 b2 b3 bl : Nat) (r : Ru) (y : Int) : Prop where
  tab : TabAt u bl r
  l1 : b1 < u.heap.size
  l2 : b2 < u.heap.size
  l3 : b3 < u.heap.size
  c1 : u.cell? ⟨b1, 0, none⟩ = some (tabV bl)
  c2 : u.cell? ⟨b2, 0, none⟩ = some (.string r.nm)
  d0 : u.cell? ⟨b3, 0, none⟩ = some (.int .i64 0)
  d1 : u.cell? ⟨b3, 1, none⟩ = some (.int .i64 y)
  d2 : u.cell? ⟨b3, 2, none⟩ = some (.int .i64 (nomV r y))
theorem TabAt.same {w u : World} {bl : Nat} {r : Ru} (h : TabAt w bl r) (hs : (∀ b o, b < w.heap.size → u.cell? ⟨b, o, none⟩ = w.cell? ⟨b, o, none⟩) ∧ Below w.heap.size w u) : TabAt u bl r := h.below hs.2 h.lt (Nat.le_refl _)
theorem Insted.same {w u : World} {b1 b2 b3 bl : Nat} {r : Ru} {y : Int} (h : Insted w b1 b2 b3 bl r y) (hs : (∀ b o, b < w.heap.size → u.cell? ⟨b, o, none⟩ = w.cell? ⟨b, o, none⟩) ∧ Below w.heap.size w u) : Insted u b1 b2 b3 bl r y where
  tab := h.tab.same hs
  l1 := Nat.lt_of_lt_of_le h.l1 hs.2.size
  l2 := Nat.lt_of_lt_of_le h.l2 hs.2.size
  l3 := Nat.lt_of_lt_of_le h.l3 hs.2.size
  c1 := (hs.1 _ _ h.l1).trans h.c1
  c2 := (hs.1 _ _ h.l2).trans h.c2
  d0 := (hs.1 _ _ h.l3).trans h.d0
  d1 := (hs.1 _ _ h.l3).trans h.d1
  d2 := (hs.1 _ _ h.l3).trans h.d2
set_option maxRecDepth 100000 in
theorem chain_instant1 (r : Ru) (hR : RightIs r true) (hr : RuFine r) (b1 b2 b3 bl : Nat) (y : Int) (h0 : r.f ≤ y) (h1 : y ≤ r.t) (u : World) (hI : Insted u b1 b2 b3 bl r y) :
    Calls Tryd.prog 73 #[.pointer (some ⟨b1, 0, none⟩), .pointer (some ⟨b2, 0, none⟩), .pointer (some ⟨b3, 0, none⟩)] u fun e w' => e = .returned (.int .i64 (savedV r y)) ∧ Below u.heap.size u w' := by
  have hS := chain_Saved r hR hr bl y h0 h1 u hI.tab
  obtain ⟨-, l1, l2, l3, c1, c2, d0, d1, d2⟩ := hI
  clear hR hr h0 h1
  generalize nomV r y = N at *
  generalize savedV r y = V at *
  generalize r.nm = nm at *
  go_enter Tryd.func73, Tryd.ntmps73
  go_wp2_with (go_at_call 18; refine (hS).mono ?_; rintro e w1 ⟨rfl, hb⟩; obtain ⟨hc, hf⟩ := bcell hb; have z := hb.size; (try simp at z))
  go_ret
  exact ⟨rfl, by (focus (repeat' (first | exact Below.refl _ _ | refine Below.alloc ?_ ?_ _ | refine Below.setCell ?_ ?_ _ | refine Below.drew ?_ | refine below_drewN ?_ _ | refine Below.trans ?_ (Below.mono (by assumption) ?_) | refine Below.trans ?_ (Below.mono (BW.below _) ?_) | (simp; done) | (simp; omega) | omega)))⟩
def shiftV (r : Ru) (off y : Int) : Int := if r.b = 0 then off + savedV r y else if r.b = 1 then off else 0
theorem saved_bd {r : Ru} (hr : RuFine r) (y : Int) : -10800 ≤ savedV r y ∧ savedV r y ≤ 10800 := by
  have := hr.2.2.2.2.2
  unfold savedV
  split <;> omega
theorem chain_shift (r : Ru) (hR : RightIs r true) (hr : RuFine r) (b1 b2 b3 bl : Nat) (off y : Int) (k0 : -54000 ≤ off) (k1 : off ≤ 54000) (h0 : r.f ≤ y) (h1 : y ≤ r.t) (u : World) (hI : Insted u b1 b2 b3 bl r y) :
    Calls Tryd.prog 72 #[.int .i64 off, .int .i64 r.b, .func (.func 73) #[] #[.pointer (some ⟨b1, 0, none⟩), .pointer (some ⟨b2, 0, none⟩), .pointer (some ⟨b3, 0, none⟩)]] u fun e w' => e = .returned (.int .i64 (shiftV r off y)) ∧ Below u.heap.size u w' := by
  have hX := chain_instant1 r hR hr b1 b2 b3 bl y h0 h1 u hI
  have hs := saved_bd hr y
  have hb := (hour_bd hr.2.2.2.2.1).2.2
  unfold shiftV
  clear hI hR hr h0 h1
  generalize savedV r y = V at *
  generalize r.b = b at *
  have e : wrap64 (off + V) = off + V := by unfold wrap64; omega
  rcases hb with rfl | rfl | rfl
  · rw [if_pos rfl]
    go_enter Tryd.func72, Tryd.ntmps72
    go_wp2_with (go_at_call 73; refine (hX).mono ?_; rintro e w1 ⟨rfl, hb⟩; obtain ⟨hc, hf⟩ := bcell hb; have z := hb.size; (try simp at z))
    go_ret
    exact ⟨rfl, by (focus (repeat' (first | exact Below.refl _ _ | refine Below.alloc ?_ ?_ _ | refine Below.setCell ?_ ?_ _ | refine Below.drew ?_ | refine below_drewN ?_ _ | refine Below.trans ?_ (Below.mono (by assumption) ?_) | refine Below.trans ?_ (Below.mono (BW.below _) ?_) | (simp; done) | (simp; omega) | omega)))⟩
  · rw [if_neg (by omega), if_pos rfl]
    clear hX
    go_enter Tryd.func72, Tryd.ntmps72
    go_wp2_with fail
    go_ret
    exact ⟨rfl, by (focus (repeat' (first | exact Below.refl _ _ | refine Below.alloc ?_ ?_ _ | refine Below.setCell ?_ ?_ _ | refine Below.drew ?_ | refine below_drewN ?_ _ | refine Below.trans ?_ (Below.mono (by assumption) ?_) | refine Below.trans ?_ (Below.mono (BW.below _) ?_) | (simp; done) | (simp; omega) | omega)))⟩
  · rw [if_neg (by omega), if_neg (by omega)]
    clear hX
    go_enter Tryd.func72, Tryd.ntmps72
    go_wp2_with fail
    go_ret
    exact ⟨rfl, by (focus (repeat' (first | exact Below.refl _ _ | refine Below.alloc ?_ ?_ _ | refine Below.setCell ?_ ?_ _ | refine Below.drew ?_ | refine below_drewN ?_ _ | refine Below.trans ?_ (Below.mono (by assumption) ?_) | refine Below.trans ?_ (Below.mono (BW.below _) ?_) | (simp; done) | (simp; omega) | omega)))⟩
theorem shift_bd {r : Ru} (hr : RuFine r) {off : Int} (y : Int) (k0 : -54000 ≤ off) (k1 : off ≤ 54000) : -64800 ≤ shiftV r off y ∧ shiftV r off y ≤ 64800 := by
  have := saved_bd hr y
  unfold shiftV
  split
  · omega
  · split <;> omega
set_option maxRecDepth 100000 in
theorem chain_instant (r : Ru) (hR : RightIs r true) (hr : RuFine r) (bl : Nat) (off y : Int) (k0 : -54000 ≤ off) (k1 : off ≤ 54000) (h0 : r.f ≤ y) (h1 : y ≤ r.t) (w : World) (hT : TabAt w bl r) :
    Calls Tryd.prog 46 #[tabV bl, .string r.nm, .int .i64 off, occ 0 y (nomV r y)] w fun e w' => e = .returned (.int .i64 (nomV r y - shiftV r off y)) ∧ Below w.heap.size w w' := by
  have hX := fun u hI => chain_shift r hR hr w.heap.size (w.heap.size + 1) (w.heap.size + 1 + 1) bl off y k0 k1 h0 h1 u hI
  have hs := shift_bd hr y k0 k1
  have hb := nom_bd hr y (by have := hr.1; omega) (by have := hr.2.2.1; omega)
  have e : wrap64 (nomV r y - shiftV r off y) = nomV r y - shiftV r off y := by unfold wrap64; omega
  have e' : IntKind.i64.wrap (nomV r y - shiftV r off y) = nomV r y - shiftV r off y := by simp [IntKind.wrap, IntKind.bits, IntKind.signed]; omega
  have B0 : Below w.heap.size w (((w.alloc (.cells #[tabV bl] 47)).alloc (.cells #[.string r.nm] 9)).alloc (.cells #[.int .i64 0, .int .i64 y, .int .i64 (nomV r y)] 53)) := by (focus (repeat' (first | exact Below.refl _ _ | refine Below.alloc ?_ ?_ _ | refine Below.setCell ?_ ?_ _ | refine Below.drew ?_ | refine below_drewN ?_ _ | refine Below.trans ?_ (Below.mono (by assumption) ?_) | refine Below.trans ?_ (Below.mono (BW.below _) ?_) | (simp; done) | (simp; omega) | omega)))
  have hI : Insted (((w.alloc (.cells #[tabV bl] 47)).alloc (.cells #[.string r.nm] 9)).alloc (.cells #[.int .i64 0, .int .i64 y, .int .i64 (nomV r y)] 53)) w.heap.size (w.heap.size + 1) (w.heap.size + 1 + 1) bl r y :=
    ⟨hT.below B0 hT.lt (Nat.le_refl _), (by simp; omega), (by simp), (by simp), by go_simp, by go_simp, by go_simp, by go_simp, by go_simp⟩
  clear hR hr h0 h1 hs hb k0 k1 hT
  have HX := Lib.hid hX
  clear hX
  go_enter Tryd.func46, Tryd.ntmps46
  go_wp2_with fail
  have tb := hI.tab.c8
  have tl := hI.tab.lt
  have c1 := hI.c1
  have c2 := hI.c2
  have d0 := hI.d0
  have d1 := hI.d1
  have d2 := hI.d2
  have l1 := hI.l1
  have l2 := hI.l2
  have l3 := hI.l3
  generalize ((w.alloc (.cells #[tabV bl] 47)).alloc (.cells #[.string r.nm] 9)).alloc (.cells #[.int .i64 0, .int .i64 y, .int .i64 (nomV r y)] 53) = W at *
  generalize hN9 : nomV r y = N at *
  generalize hV9 : shiftV r off y = V at *
  go_region_held3 (fun w' => (∀ b o, b < W.heap.size → w'.cell? ⟨b, o, none⟩ = W.cell? ⟨b, o, none⟩) ∧ Below W.heap.size W w') (first | exact held_drew _ | exact held_call (by assumption) (by assumption) | exact held_call (held_drew _) (by assumption) | exact held_alloc (by assumption) _ | assumption)
    (first | (go_at_call 72; refine (HX.out _ (hI.same (by assumption))).mono ?_; rintro e wr ⟨rfl, hb⟩))
  rename_i hHeld
  have BW := B0.trans (hHeld.2.mono B0.size)
  clear hHeld
  go_wp2_with fail
  go_ret
  exact ⟨by first | rfl | (rw [hN9, hV9]; rfl), BW⟩
set_option maxRecDepth 100000 in
set_option maxHeartbeats 1000000 in
theorem chain_is (r : Ru) (hR : RightIs r true) (hr : RuFine r) (bl : Nat) (y : Int) (h0 : r.f ≤ y) (h1 : y ≤ r.t) (w : World) (hT : TabAt w bl r) :
    Calls Tryd.prog 45 #[tabV bl, .string r.nm, occ 0 y (nomV r y)] w fun e w' => e = .returned (.bool true) ∧ Below w.heap.size w w' := by
  have hN := fun w => occur_Nom r hR hr y h0 h1 w
  have B0 : Below w.heap.size w (w.alloc (.cells #[.int .i64 0, .int .i64 y, .int .i64 (nomV r y)] 53)) := by (focus (repeat' (first | exact Below.refl _ _ | refine Below.alloc ?_ ?_ _ | refine Below.setCell ?_ ?_ _ | refine Below.drew ?_ | refine below_drewN ?_ _ | refine Below.trans ?_ (Below.mono (by assumption) ?_) | refine Below.trans ?_ (Below.mono (BW.below _) ?_) | (simp; done) | (simp; omega) | omega)))
  have hT2 := hT.below B0 hT.lt (Nat.le_refl _)
  have hlt := hT.lt
  clear hR hr h0 h1 hT
  have d0 : (w.alloc (.cells #[.int .i64 0, .int .i64 y, .int .i64 (nomV r y)] 53)).cell? ⟨w.heap.size, 0, none⟩ = some (.int .i64 0) := by go_simp
  have d1 : (w.alloc (.cells #[.int .i64 0, .int .i64 y, .int .i64 (nomV r y)] 53)).cell? ⟨w.heap.size, 1, none⟩ = some (.int .i64 y) := by go_simp
  have d2 : (w.alloc (.cells #[.int .i64 0, .int .i64 y, .int .i64 (nomV r y)] 53)).cell? ⟨w.heap.size, 2, none⟩ = some (.int .i64 (nomV r y)) := by go_simp
  have zw : w.heap.size < (w.alloc (.cells #[.int .i64 0, .int .i64 y, .int .i64 (nomV r y)] 53)).heap.size := by simp
  obtain ⟨t0, t1, t2, t3, t4, t5, t6, t7, t8, t9, t10, t11⟩ := hT2
  generalize hW : w.alloc (.cells #[.int .i64 0, .int .i64 y, .int .i64 (nomV r y)] 53) = W at *
  generalize nomV r y = N at *
  go_enter Tryd.func45, Tryd.ntmps45
  go_wp2_with fail
  try rw [hW]
  refine wp_region_bw (by kernel_rfl) (by kernel_rfl) ?_; (repeat (go_big_quiet_step ((go_at_call 13; exact bw_call (hN _))))); refine wpQuiet_nil ?_; intro _ hw'; obtain ⟨xq, hw''⟩ := hw'; subst hw''
  go_wp2_with fail
  go_ret
  exact ⟨rfl, B0.trans ((BW.below _).mono B0.size)⟩
theorem chain_Instant (r : Ru) (hR : RightIs r true) (hr : RuFine r) (bl : Nat) (off y : Int) (k0 : -54000 ≤ off) (k1 : off ≤ 54000) (h0 : r.f ≤ y) (h1 : y ≤ r.t) (w : World) (hT : TabAt w bl r) :
    Calls Tryd.prog 17 #[tabV bl, .string r.nm, .int .i64 off, occ 0 y (nomV r y)] w fun e w' => e = .returned (.tuple #[.int .i64 (nomV r y - shiftV r off y), .int .i64 0]) ∧ Below w.heap.size w w' := by
  have hM := fun w => chain_may off w
  rw [show inB off (-54000) 54000 = true from inB_iff.2 ⟨k0, k1⟩] at hM
  have hS := fun u h => chain_is r hR hr bl y h0 h1 u h
  have hI := fun u h => chain_instant r hR hr bl off y k0 k1 h0 h1 u h
  have hlt := hT.lt
  have B0 : Below w.heap.size w (w.alloc (.cells #[.int .i64 0, .int .i64 y, .int .i64 (nomV r y)] 53)) := by (focus (repeat' (first | exact Below.refl _ _ | refine Below.alloc ?_ ?_ _ | refine Below.setCell ?_ ?_ _ | refine Below.drew ?_ | refine below_drewN ?_ _ | refine Below.trans ?_ (Below.mono (by assumption) ?_) | refine Below.trans ?_ (Below.mono (BW.below _) ?_) | (simp; done) | (simp; omega) | omega)))
  have HT := hT.below B0 hlt (Nat.le_refl _)
  have HTU : Hid (∀ u, Below (w.alloc (.cells #[.int .i64 0, .int .i64 y, .int .i64 (nomV r y)] 53)).heap.size (w.alloc (.cells #[.int .i64 0, .int .i64 y, .int .i64 (nomV r y)] 53)) u → TabAt u bl r) := Lib.hid (fun u hb => HT.below hb HT.lt (Nat.le_refl _))
  have HI := Lib.hid hI
  have HS := Lib.hid hS
  have HT' := Lib.hid HT
  clear hR hr h0 h1 hT k0 k1 hI hS HT
  generalize nomV r y = N at *
  generalize shiftV r off y = V at *
  generalize r.nm = nm at *
  go_enter Tryd.func17, Tryd.ntmps17
  go_wp2_with (first | (go_at_call 44; with_reducible refine (hM _).mono ?_; rintro e w' ⟨rfl, rfl⟩) | (go_at_call 45; refine (HS.out _ HT'.out).mono ?_; rintro e w1 ⟨rfl, hb⟩; obtain ⟨hc, hf⟩ := bcell hb; have z := hb.size; (try simp at z); have z0 : w.heap.size < w1.heap.size := (by omega); have T1 := HTU.out w1 hb) | (go_at_call 46; refine (HI.out _ T1).mono ?_; rintro e w2 ⟨rfl, hb2⟩))
  go_ret2
  exact ⟨rfl, by (focus (repeat' (first | exact Below.refl _ _ | refine Below.alloc ?_ ?_ _ | refine Below.setCell ?_ ?_ _ | refine Below.drew ?_ | refine below_drewN ?_ _ | refine Below.trans ?_ (Below.mono (by assumption) ?_) | refine Below.trans ?_ (Below.mono (BW.below _) ?_) | (simp; done) | (simp; omega) | omega)))⟩
end Go.Proofs.YtjddmcecllhlhaaDoor
