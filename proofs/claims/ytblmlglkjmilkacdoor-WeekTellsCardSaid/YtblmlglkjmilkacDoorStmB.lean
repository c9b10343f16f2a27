/-
  Stamps: the text, and the stamp of a second.
-/
import Derived.Test.YtblmlglkjmilkacDoorStmA
namespace Go.Proofs.YtblmlglkjmilkacDoor
open Go.RowKit Go.Lib Cal
attribute [local go_sem] BW.cell BW.frozen

/-- The signs that stand ahead of the numbers, as the program's text lays them. -/
structure Signs (w : World) : Prop where
  c0 : w.cell? ⟨1, 0, none⟩ = some (.int .u8 45)
  c1 : w.cell? ⟨1, 1, none⟩ = some (.int .u8 45)
  c2 : w.cell? ⟨1, 2, none⟩ = some (.int .u8 84)
  c3 : w.cell? ⟨1, 3, none⟩ = some (.int .u8 58)
  c4 : w.cell? ⟨1, 4, none⟩ = some (.int .u8 58)
theorem cell_at {w : World} {b o : Nat} {v : Value} (h : w.cell? ⟨b, o, none⟩ = some v) : b < w.heap.size := by
  apply Classical.byContradiction
  intro hh
  have : w.heap[b]? = none := Array.getElem?_eq_none (by omega)
  simp [World.cell?, this] at h
theorem Signs.lt {w : World} (S : Signs w) : 1 < w.heap.size := cell_at S.c0
theorem Signs.below {w w' : World} {B : Nat} (S : Signs w) (hB : 1 < B) (hb : Below B w w') : Signs w' :=
  ⟨(hb.cell (p := ⟨1, 0, none⟩) hB).trans S.c0, (hb.cell (p := ⟨1, 1, none⟩) hB).trans S.c1, (hb.cell (p := ⟨1, 2, none⟩) hB).trans S.c2, (hb.cell (p := ⟨1, 3, none⟩) hB).trans S.c3, (hb.cell (p := ⟨1, 4, none⟩) hB).trans S.c4⟩
/-- The text of a stamp. -/
def stText (y : Int) (m d h i s : Nat) : List UInt8 := (if y < 0 then [45] else []) ++ pads y.natAbs 4 ++ [45] ++ pads m 2 ++ [45] ++ pads d 2 ++ [84] ++ pads h 2 ++ [58] ++ pads i 2 ++ [58] ++ pads s 2
theorem pads_len {n k : Nat} (hn : n ≤ 1000000) (hk : k ≤ 9) : (pads n k).length ≤ 20 := by
  have := dec_len 7 n (by omega)
  unfold pads
  simp
  omega
theorem _root_.Go.RowKit.Below.weak {B B' : Nat} {w w' : World} (h : Below B w w') (hB : B' ≤ B) : Below B' w w' := ⟨h.os, h.tape, h.output, h.size, fun k hk => h.block k (by omega)⟩
set_option maxRecDepth 100000 in
set_option maxHeartbeats 4000000 in
theorem stamp_Text {y : Int} {m d h i s : Nat} (ok : StOk y m d h i s) (w : World) (S : Signs w) : Calls Tryd.prog 52 #[stp y m d h i s] w fun e w' => e = .returned (.string ⟨(stText y m d h i s).toArray⟩) ∧ Below w.heap.size w w' := by
  have hR := fun w => stamp_Right ok w
  obtain ⟨r, h0, h1, i0, i1, s0, s1⟩ := ok
  obtain ⟨r0, r1, r2, r3, r4, r5⟩ := (right_iff y m d).1 r
  have r6 := mlen_bd y m
  have m1 : m ≤ 12 := by omega
  have d1 : d ≤ 31 := by omega
  obtain ⟨Y, hY⟩ : ∃ Y : Nat, y.natAbs = Y := ⟨_, rfl⟩
  have hYb : Y ≤ 40000 := by omega
  have i0' : ∀ w : World, (Instr.index 159 (.agg #[.int .i64 (m : Int), .int .i64 (d : Int), .int .i64 (h : Int), .int .i64 (i : Int), .int .i64 (s : Int)]) (.int .i64 0)).run Tryd.prog w = .ok (.int .i64 (m : Int)) w := fun _ => by kernel_rfl
  have i1' : ∀ w : World, (Instr.index 159 (.agg #[.int .i64 (m : Int), .int .i64 (d : Int), .int .i64 (h : Int), .int .i64 (i : Int), .int .i64 (s : Int)]) (.int .i64 1)).run Tryd.prog w = .ok (.int .i64 (d : Int)) w := fun _ => by kernel_rfl
  have i2' : ∀ w : World, (Instr.index 159 (.agg #[.int .i64 (m : Int), .int .i64 (d : Int), .int .i64 (h : Int), .int .i64 (i : Int), .int .i64 (s : Int)]) (.int .i64 2)).run Tryd.prog w = .ok (.int .i64 (h : Int)) w := fun _ => by kernel_rfl
  have i3' : ∀ w : World, (Instr.index 159 (.agg #[.int .i64 (m : Int), .int .i64 (d : Int), .int .i64 (h : Int), .int .i64 (i : Int), .int .i64 (s : Int)]) (.int .i64 3)).run Tryd.prog w = .ok (.int .i64 (i : Int)) w := fun _ => by kernel_rfl
  have i4' : ∀ w : World, (Instr.index 159 (.agg #[.int .i64 (m : Int), .int .i64 (d : Int), .int .i64 (h : Int), .int .i64 (i : Int), .int .i64 (s : Int)]) (.int .i64 4)).run Tryd.prog w = .ok (.int .i64 (s : Int)) w := fun _ => by kernel_rfl
  clear r r2 r3 r4 r5 r6
  by_cases hy : y < 0
  · skip
    have et : stText y m d h i s = [45] ++ pads Y 4 ++ [45] ++ pads m 2 ++ [45] ++ pads d 2 ++ [84] ++ pads h 2 ++ [58] ++ pads i 2 ++ [58] ++ pads s 2 := by unfold stText; rw [if_pos hy, hY]
    rw [et]
    clear et
    have EY := Lib.hid (show -y = (Y : Int) by omega)
    go_enter Tryd.func52, Tryd.ntmps52
    go_wp2_with (first | (go_at_call 100; refine (hR _).mono ?_; rintro e w1 ⟨rfl, hb⟩; obtain ⟨hc, hf⟩ := bcell hb; have z := hb.size; (try simp at z); have z0 : w.heap.size < w1.heap.size := (by omega)) | (at_builtin; refine app_byte rfl _ _ rfl (w.heap.size + 1) _ [] rfl (BytesAt.nil _ _) _ 45 rfl ?_ ?_ ?_ ?_; (simp [Addr.add]); (first | (focus (simp; done)) | (focus (simp; omega)) | (focus omega)); (first | (focus (simp; done)) | (focus (simp; omega)) | (focus omega)); intro v2 w2 own2 hb2; have z2 := hb2.size; (try simp at z2)))
    have B1 : Below w.heap.size w w1 := by (focus (repeat' (first | exact Below.refl _ _ | refine Below.alloc ?_ ?_ _ | refine Below.setCell ?_ ?_ _ | refine Below.drew ?_ | refine below_drewN ?_ _ | refine Below.trans ?_ (Below.mono (by assumption) ?_) | refine Below.trans ?_ (Below.mono (BW.below _) ?_) | (simp; done) | (simp; omega) | omega)))
    have S1 : Signs w1 := S.below S.lt B1
    have b0 : w1.cell? ⟨w.heap.size, 0, none⟩ = some (.int .i64 y) := (hb.cell (p := ⟨w.heap.size, 0, none⟩) (by simp)).trans (by go_simp)
    have b1 : w1.cell? ⟨w.heap.size, 1, none⟩ = some (.int .i64 (m : Int)) := (hb.cell (p := ⟨w.heap.size, 1, none⟩) (by simp)).trans (by go_simp)
    have b2 : w1.cell? ⟨w.heap.size, 2, none⟩ = some (.int .i64 (d : Int)) := (hb.cell (p := ⟨w.heap.size, 2, none⟩) (by simp)).trans (by go_simp)
    have b3 : w1.cell? ⟨w.heap.size, 3, none⟩ = some (.int .i64 (h : Int)) := (hb.cell (p := ⟨w.heap.size, 3, none⟩) (by simp)).trans (by go_simp)
    have b4 : w1.cell? ⟨w.heap.size, 4, none⟩ = some (.int .i64 (i : Int)) := (hb.cell (p := ⟨w.heap.size, 4, none⟩) (by simp)).trans (by go_simp)
    have b5 : w1.cell? ⟨w.heap.size, 5, none⟩ = some (.int .i64 (s : Int)) := (hb.cell (p := ⟨w.heap.size, 5, none⟩) (by simp)).trans (by go_simp)
    have l1 : w.heap.size < w1.heap.size := by omega
    clear hb hc hf hR
    have B2 : Below (w.heap.size + 1) w1 w2 := Below.trans ((Below.refl _ _).alloc (by omega) _) hb2
    have l2 : w.heap.size < w2.heap.size := Nat.lt_of_lt_of_le l1 B2.size
    try rw [EY.out]
    refine (stamp_pad (w.heap.size + 1) _ ([] ++ [45]) Y 4 (by omega) (by omega) (by simp) w2 own2 (by omega)).mono ?_
    rintro e p0 ⟨u0, rfl, own, hp0⟩
    have P0 : Below (w.heap.size + 1) w1 p0 := B2.trans hp0
    have a1 : p0.cell? ⟨w.heap.size, 1, none⟩ = some (.int .i64 (m : Int)) := (P0.cell (p := ⟨w.heap.size, 1, none⟩) (by simp)).trans b1
    have a2 : p0.cell? ⟨w.heap.size, 2, none⟩ = some (.int .i64 (d : Int)) := (P0.cell (p := ⟨w.heap.size, 2, none⟩) (by simp)).trans b2
    have a3 : p0.cell? ⟨w.heap.size, 3, none⟩ = some (.int .i64 (h : Int)) := (P0.cell (p := ⟨w.heap.size, 3, none⟩) (by simp)).trans b3
    have a4 : p0.cell? ⟨w.heap.size, 4, none⟩ = some (.int .i64 (i : Int)) := (P0.cell (p := ⟨w.heap.size, 4, none⟩) (by simp)).trans b4
    have a5 : p0.cell? ⟨w.heap.size, 5, none⟩ = some (.int .i64 (s : Int)) := (P0.cell (p := ⟨w.heap.size, 5, none⟩) (by simp)).trans b5
    have S2 : Signs p0 := S1.below (Nat.lt_of_lt_of_le S.lt (by omega)) P0
    have lw : w.heap.size < p0.heap.size := Nat.lt_of_lt_of_le l1 P0.size
    have len0 := pads_len (n := Y) (k := 4) (by omega) (by omega)
    clear own2 hp0 B2 l2 b0 b1 b2 b3 b4 b5 hb2 z2
    obtain ⟨L0, hL0⟩ : ∃ L0 : List UInt8, L0 = [45] ++ pads Y 4 := ⟨_, rfl⟩
    have own0 : BytesAt p0 (w.heap.size + 1) u0 L0 := by rw [hL0]; exact own
    have ll0 : L0.length ≤ 100 := by rw [hL0]; simp; omega
    try rw [← hL0]
    have HL0 := Lib.hid hL0
    clear own hL0 len0
    go_wp2_with fail
    refine wp_loop_rounds 8 ?_
    rw [rounds_succ]
    have sg0 := S2.c0
    go_wp2_with (at_builtin; refine app_byte rfl _ _ rfl (w.heap.size + 1) _ _ rfl (own0.below ?_) _ 45 rfl ?_ ?_ ?_ ?_; (focus (repeat' (first | exact Below.refl _ _ | refine Below.alloc ?_ ?_ _ | refine Below.setCell ?_ ?_ _ | refine Below.drew ?_ | refine below_drewN ?_ _ | refine Below.trans ?_ (Below.mono (by assumption) ?_) | refine Below.trans ?_ (Below.mono (BW.below _) ?_) | (simp; done) | (simp; omega) | omega))); (simp [Addr.add]); (first | (focus (simp; done)) | (focus (simp; omega)) | (focus omega)); (first | (focus (simp; done)) | (focus (simp; omega)) | (focus omega)); intro v0 q0 owq0 hq0; have zq0 := hq0.size; (try simp at zq0))
    have Q0 : Below (w.heap.size + 1) p0 q0 := Below.trans ((Below.refl _ _).alloc (by omega) _) hq0
    refine (stamp_pad (w.heap.size + 1) _ _ m 2 (by omega) (by omega) (by simp; omega) q0 owq0 (by have := Q0.size; omega)).mono ?_
    rintro e p1 ⟨u1, rfl, own1, hp1⟩
    have P1 : Below (w.heap.size + 1) p0 p1 := Q0.trans hp1
    have ln0 := pads_len (n := m) (k := 2) (by omega) (by omega)
    have lp1 := P1.size
    clear hq0 zq0 owq0 hp1
    go_wp2_with fail
    rw [rounds_succ]
    have sg1 := (S2.below (Nat.lt_of_lt_of_le S.lt (by omega)) P1).c1
    go_wp2_with (at_builtin; refine app_byte rfl _ _ rfl (w.heap.size + 1) _ _ rfl (own1.below ?_) _ 45 rfl ?_ ?_ ?_ ?_; (focus (repeat' (first | exact Below.refl _ _ | refine Below.alloc ?_ ?_ _ | refine Below.setCell ?_ ?_ _ | refine Below.drew ?_ | refine below_drewN ?_ _ | refine Below.trans ?_ (Below.mono (by assumption) ?_) | refine Below.trans ?_ (Below.mono (BW.below _) ?_) | (simp; done) | (simp; omega) | omega))); (simp [Addr.add]); (first | (focus (simp; done)) | (focus (simp; omega)) | (focus omega)); (first | (focus (simp; done)) | (focus (simp; omega)) | (focus omega)); intro v1 q1 owq1 hq1; have zq1 := hq1.size; (try simp at zq1))
    have Q1 : Below (w.heap.size + 1) p0 q1 := Below.trans (P1.alloc (by omega) _) hq1
    refine (stamp_pad (w.heap.size + 1) _ _ d 2 (by omega) (by omega) (by simp; omega) q1 owq1 (by have := Q1.size; omega)).mono ?_
    rintro e p2 ⟨u2, rfl, own2, hp2⟩
    have P2 : Below (w.heap.size + 1) p0 p2 := Q1.trans hp2
    have ln1 := pads_len (n := d) (k := 2) (by omega) (by omega)
    have lp2 := P2.size
    clear hq1 zq1 owq1 hp2
    go_wp2_with fail
    rw [rounds_succ]
    have sg2 := (S2.below (Nat.lt_of_lt_of_le S.lt (by omega)) P2).c2
    go_wp2_with (at_builtin; refine app_byte rfl _ _ rfl (w.heap.size + 1) _ _ rfl (own2.below ?_) _ 84 rfl ?_ ?_ ?_ ?_; (focus (repeat' (first | exact Below.refl _ _ | refine Below.alloc ?_ ?_ _ | refine Below.setCell ?_ ?_ _ | refine Below.drew ?_ | refine below_drewN ?_ _ | refine Below.trans ?_ (Below.mono (by assumption) ?_) | refine Below.trans ?_ (Below.mono (BW.below _) ?_) | (simp; done) | (simp; omega) | omega))); (simp [Addr.add]); (first | (focus (simp; done)) | (focus (simp; omega)) | (focus omega)); (first | (focus (simp; done)) | (focus (simp; omega)) | (focus omega)); intro v2 q2 owq2 hq2; have zq2 := hq2.size; (try simp at zq2))
    have Q2 : Below (w.heap.size + 1) p0 q2 := Below.trans (P2.alloc (by omega) _) hq2
    refine (stamp_pad (w.heap.size + 1) _ _ h 2 (by omega) (by omega) (by simp; omega) q2 owq2 (by have := Q2.size; omega)).mono ?_
    rintro e p3 ⟨u3, rfl, own3, hp3⟩
    have P3 : Below (w.heap.size + 1) p0 p3 := Q2.trans hp3
    have ln2 := pads_len (n := h) (k := 2) (by omega) (by omega)
    have lp3 := P3.size
    clear hq2 zq2 owq2 hp3
    go_wp2_with fail
    rw [rounds_succ]
    have sg3 := (S2.below (Nat.lt_of_lt_of_le S.lt (by omega)) P3).c3
    go_wp2_with (at_builtin; refine app_byte rfl _ _ rfl (w.heap.size + 1) _ _ rfl (own3.below ?_) _ 58 rfl ?_ ?_ ?_ ?_; (focus (repeat' (first | exact Below.refl _ _ | refine Below.alloc ?_ ?_ _ | refine Below.setCell ?_ ?_ _ | refine Below.drew ?_ | refine below_drewN ?_ _ | refine Below.trans ?_ (Below.mono (by assumption) ?_) | refine Below.trans ?_ (Below.mono (BW.below _) ?_) | (simp; done) | (simp; omega) | omega))); (simp [Addr.add]); (first | (focus (simp; done)) | (focus (simp; omega)) | (focus omega)); (first | (focus (simp; done)) | (focus (simp; omega)) | (focus omega)); intro v3 q3 owq3 hq3; have zq3 := hq3.size; (try simp at zq3))
    have Q3 : Below (w.heap.size + 1) p0 q3 := Below.trans (P3.alloc (by omega) _) hq3
    refine (stamp_pad (w.heap.size + 1) _ _ i 2 (by omega) (by omega) (by simp; omega) q3 owq3 (by have := Q3.size; omega)).mono ?_
    rintro e p4 ⟨u4, rfl, own4, hp4⟩
    have P4 : Below (w.heap.size + 1) p0 p4 := Q3.trans hp4
    have ln3 := pads_len (n := i) (k := 2) (by omega) (by omega)
    have lp4 := P4.size
    clear hq3 zq3 owq3 hp4
    go_wp2_with fail
    rw [rounds_succ]
    have sg4 := (S2.below (Nat.lt_of_lt_of_le S.lt (by omega)) P4).c4
    go_wp2_with (at_builtin; refine app_byte rfl _ _ rfl (w.heap.size + 1) _ _ rfl (own4.below ?_) _ 58 rfl ?_ ?_ ?_ ?_; (focus (repeat' (first | exact Below.refl _ _ | refine Below.alloc ?_ ?_ _ | refine Below.setCell ?_ ?_ _ | refine Below.drew ?_ | refine below_drewN ?_ _ | refine Below.trans ?_ (Below.mono (by assumption) ?_) | refine Below.trans ?_ (Below.mono (BW.below _) ?_) | (simp; done) | (simp; omega) | omega))); (simp [Addr.add]); (first | (focus (simp; done)) | (focus (simp; omega)) | (focus omega)); (first | (focus (simp; done)) | (focus (simp; omega)) | (focus omega)); intro v4 q4 owq4 hq4; have zq4 := hq4.size; (try simp at zq4))
    have Q4 : Below (w.heap.size + 1) p0 q4 := Below.trans (P4.alloc (by omega) _) hq4
    refine (stamp_pad (w.heap.size + 1) _ _ s 2 (by omega) (by omega) (by simp; omega) q4 owq4 (by have := Q4.size; omega)).mono ?_
    rintro e p5 ⟨u5, rfl, own5, hp5⟩
    have P5 : Below (w.heap.size + 1) p0 p5 := Q4.trans hp5
    have ln4 := pads_len (n := s) (k := 2) (by omega) (by omega)
    have lp5 := P5.size
    clear hq4 zq4 owq4 hp5
    go_wp2_with fail
    rw [rounds_succ]
    have bk := back_text own5
    go_wp2_with fail
    try rw [bk]
    try go_wp2_with fail
    go_ret
    refine ⟨congrArg (fun z : List UInt8 => Ending.returned (.string ⟨z.toArray⟩)) ?_, B1.trans ((Below.trans P0 P5).weak (by omega))⟩
    rw [HL0.out]
    simp [List.append_assoc]
  · skip
    have et : stText y m d h i s = [] ++ pads Y 4 ++ [45] ++ pads m 2 ++ [45] ++ pads d 2 ++ [84] ++ pads h 2 ++ [58] ++ pads i 2 ++ [58] ++ pads s 2 := by unfold stText; rw [if_neg hy, hY]
    rw [et]
    clear et
    have EY := Lib.hid (show y = (Y : Int) by omega)
    have hy2 : 0 ≤ y := by omega
    go_enter Tryd.func52, Tryd.ntmps52
    go_wp2_with (go_at_call 100; refine (hR _).mono ?_; rintro e w1 ⟨rfl, hb⟩; obtain ⟨hc, hf⟩ := bcell hb; have z := hb.size; (try simp at z); have z0 : w.heap.size < w1.heap.size := (by omega))
    have B1 : Below w.heap.size w w1 := by (focus (repeat' (first | exact Below.refl _ _ | refine Below.alloc ?_ ?_ _ | refine Below.setCell ?_ ?_ _ | refine Below.drew ?_ | refine below_drewN ?_ _ | refine Below.trans ?_ (Below.mono (by assumption) ?_) | refine Below.trans ?_ (Below.mono (BW.below _) ?_) | (simp; done) | (simp; omega) | omega)))
    have S1 : Signs w1 := S.below S.lt B1
    have b0 : w1.cell? ⟨w.heap.size, 0, none⟩ = some (.int .i64 y) := (hb.cell (p := ⟨w.heap.size, 0, none⟩) (by simp)).trans (by go_simp)
    have b1 : w1.cell? ⟨w.heap.size, 1, none⟩ = some (.int .i64 (m : Int)) := (hb.cell (p := ⟨w.heap.size, 1, none⟩) (by simp)).trans (by go_simp)
    have b2 : w1.cell? ⟨w.heap.size, 2, none⟩ = some (.int .i64 (d : Int)) := (hb.cell (p := ⟨w.heap.size, 2, none⟩) (by simp)).trans (by go_simp)
    have b3 : w1.cell? ⟨w.heap.size, 3, none⟩ = some (.int .i64 (h : Int)) := (hb.cell (p := ⟨w.heap.size, 3, none⟩) (by simp)).trans (by go_simp)
    have b4 : w1.cell? ⟨w.heap.size, 4, none⟩ = some (.int .i64 (i : Int)) := (hb.cell (p := ⟨w.heap.size, 4, none⟩) (by simp)).trans (by go_simp)
    have b5 : w1.cell? ⟨w.heap.size, 5, none⟩ = some (.int .i64 (s : Int)) := (hb.cell (p := ⟨w.heap.size, 5, none⟩) (by simp)).trans (by go_simp)
    have l1 : w.heap.size < w1.heap.size := by omega
    clear hb hc hf hR
    obtain ⟨w2, e2⟩ : ∃ w2 : World, w2 = w1 := ⟨_, rfl⟩
    have own2 : BytesAt w2 (w.heap.size + 1) (.slice none 0 0) [] := BytesAt.nil _ _
    have B2 : Below (w.heap.size + 1) w1 w2 := by rw [e2]; exact Below.refl _ _
    rw [← e2]
    clear e2
    have l2 : w.heap.size < w2.heap.size := Nat.lt_of_lt_of_le l1 B2.size
    try rw [EY.out]
    refine (stamp_pad (w.heap.size + 1) _ [] Y 4 (by omega) (by omega) (by simp) w2 own2 (by omega)).mono ?_
    rintro e p0 ⟨u0, rfl, own, hp0⟩
    have P0 : Below (w.heap.size + 1) w1 p0 := B2.trans hp0
    have a1 : p0.cell? ⟨w.heap.size, 1, none⟩ = some (.int .i64 (m : Int)) := (P0.cell (p := ⟨w.heap.size, 1, none⟩) (by simp)).trans b1
    have a2 : p0.cell? ⟨w.heap.size, 2, none⟩ = some (.int .i64 (d : Int)) := (P0.cell (p := ⟨w.heap.size, 2, none⟩) (by simp)).trans b2
    have a3 : p0.cell? ⟨w.heap.size, 3, none⟩ = some (.int .i64 (h : Int)) := (P0.cell (p := ⟨w.heap.size, 3, none⟩) (by simp)).trans b3
    have a4 : p0.cell? ⟨w.heap.size, 4, none⟩ = some (.int .i64 (i : Int)) := (P0.cell (p := ⟨w.heap.size, 4, none⟩) (by simp)).trans b4
    have a5 : p0.cell? ⟨w.heap.size, 5, none⟩ = some (.int .i64 (s : Int)) := (P0.cell (p := ⟨w.heap.size, 5, none⟩) (by simp)).trans b5
    have S2 : Signs p0 := S1.below (Nat.lt_of_lt_of_le S.lt (by omega)) P0
    have lw : w.heap.size < p0.heap.size := Nat.lt_of_lt_of_le l1 P0.size
    have len0 := pads_len (n := Y) (k := 4) (by omega) (by omega)
    clear own2 hp0 B2 l2 b0 b1 b2 b3 b4 b5
    obtain ⟨L0, hL0⟩ : ∃ L0 : List UInt8, L0 = [] ++ pads Y 4 := ⟨_, rfl⟩
    have own0 : BytesAt p0 (w.heap.size + 1) u0 L0 := by rw [hL0]; exact own
    have ll0 : L0.length ≤ 100 := by rw [hL0]; simp; omega
    try rw [← hL0]
    have HL0 := Lib.hid hL0
    clear own hL0 len0
    go_wp2_with fail
    refine wp_loop_rounds 8 ?_
    rw [rounds_succ]
    have sg0 := S2.c0
    go_wp2_with (at_builtin; refine app_byte rfl _ _ rfl (w.heap.size + 1) _ _ rfl (own0.below ?_) _ 45 rfl ?_ ?_ ?_ ?_; (focus (repeat' (first | exact Below.refl _ _ | refine Below.alloc ?_ ?_ _ | refine Below.setCell ?_ ?_ _ | refine Below.drew ?_ | refine below_drewN ?_ _ | refine Below.trans ?_ (Below.mono (by assumption) ?_) | refine Below.trans ?_ (Below.mono (BW.below _) ?_) | (simp; done) | (simp; omega) | omega))); (simp [Addr.add]); (first | (focus (simp; done)) | (focus (simp; omega)) | (focus omega)); (first | (focus (simp; done)) | (focus (simp; omega)) | (focus omega)); intro v0 q0 owq0 hq0; have zq0 := hq0.size; (try simp at zq0))
    have Q0 : Below (w.heap.size + 1) p0 q0 := Below.trans ((Below.refl _ _).alloc (by omega) _) hq0
    refine (stamp_pad (w.heap.size + 1) _ _ m 2 (by omega) (by omega) (by simp; omega) q0 owq0 (by have := Q0.size; omega)).mono ?_
    rintro e p1 ⟨u1, rfl, own1, hp1⟩
    have P1 : Below (w.heap.size + 1) p0 p1 := Q0.trans hp1
    have ln0 := pads_len (n := m) (k := 2) (by omega) (by omega)
    have lp1 := P1.size
    clear hq0 zq0 owq0 hp1
    go_wp2_with fail
    rw [rounds_succ]
    have sg1 := (S2.below (Nat.lt_of_lt_of_le S.lt (by omega)) P1).c1
    go_wp2_with (at_builtin; refine app_byte rfl _ _ rfl (w.heap.size + 1) _ _ rfl (own1.below ?_) _ 45 rfl ?_ ?_ ?_ ?_; (focus (repeat' (first | exact Below.refl _ _ | refine Below.alloc ?_ ?_ _ | refine Below.setCell ?_ ?_ _ | refine Below.drew ?_ | refine below_drewN ?_ _ | refine Below.trans ?_ (Below.mono (by assumption) ?_) | refine Below.trans ?_ (Below.mono (BW.below _) ?_) | (simp; done) | (simp; omega) | omega))); (simp [Addr.add]); (first | (focus (simp; done)) | (focus (simp; omega)) | (focus omega)); (first | (focus (simp; done)) | (focus (simp; omega)) | (focus omega)); intro v1 q1 owq1 hq1; have zq1 := hq1.size; (try simp at zq1))
    have Q1 : Below (w.heap.size + 1) p0 q1 := Below.trans (P1.alloc (by omega) _) hq1
    refine (stamp_pad (w.heap.size + 1) _ _ d 2 (by omega) (by omega) (by simp; omega) q1 owq1 (by have := Q1.size; omega)).mono ?_
    rintro e p2 ⟨u2, rfl, own2, hp2⟩
    have P2 : Below (w.heap.size + 1) p0 p2 := Q1.trans hp2
    have ln1 := pads_len (n := d) (k := 2) (by omega) (by omega)
    have lp2 := P2.size
    clear hq1 zq1 owq1 hp2
    go_wp2_with fail
    rw [rounds_succ]
    have sg2 := (S2.below (Nat.lt_of_lt_of_le S.lt (by omega)) P2).c2
    go_wp2_with (at_builtin; refine app_byte rfl _ _ rfl (w.heap.size + 1) _ _ rfl (own2.below ?_) _ 84 rfl ?_ ?_ ?_ ?_; (focus (repeat' (first | exact Below.refl _ _ | refine Below.alloc ?_ ?_ _ | refine Below.setCell ?_ ?_ _ | refine Below.drew ?_ | refine below_drewN ?_ _ | refine Below.trans ?_ (Below.mono (by assumption) ?_) | refine Below.trans ?_ (Below.mono (BW.below _) ?_) | (simp; done) | (simp; omega) | omega))); (simp [Addr.add]); (first | (focus (simp; done)) | (focus (simp; omega)) | (focus omega)); (first | (focus (simp; done)) | (focus (simp; omega)) | (focus omega)); intro v2 q2 owq2 hq2; have zq2 := hq2.size; (try simp at zq2))
    have Q2 : Below (w.heap.size + 1) p0 q2 := Below.trans (P2.alloc (by omega) _) hq2
    refine (stamp_pad (w.heap.size + 1) _ _ h 2 (by omega) (by omega) (by simp; omega) q2 owq2 (by have := Q2.size; omega)).mono ?_
    rintro e p3 ⟨u3, rfl, own3, hp3⟩
    have P3 : Below (w.heap.size + 1) p0 p3 := Q2.trans hp3
    have ln2 := pads_len (n := h) (k := 2) (by omega) (by omega)
    have lp3 := P3.size
    clear hq2 zq2 owq2 hp3
    go_wp2_with fail
    rw [rounds_succ]
    have sg3 := (S2.below (Nat.lt_of_lt_of_le S.lt (by omega)) P3).c3
    go_wp2_with (at_builtin; refine app_byte rfl _ _ rfl (w.heap.size + 1) _ _ rfl (own3.below ?_) _ 58 rfl ?_ ?_ ?_ ?_; (focus (repeat' (first | exact Below.refl _ _ | refine Below.alloc ?_ ?_ _ | refine Below.setCell ?_ ?_ _ | refine Below.drew ?_ | refine below_drewN ?_ _ | refine Below.trans ?_ (Below.mono (by assumption) ?_) | refine Below.trans ?_ (Below.mono (BW.below _) ?_) | (simp; done) | (simp; omega) | omega))); (simp [Addr.add]); (first | (focus (simp; done)) | (focus (simp; omega)) | (focus omega)); (first | (focus (simp; done)) | (focus (simp; omega)) | (focus omega)); intro v3 q3 owq3 hq3; have zq3 := hq3.size; (try simp at zq3))
    have Q3 : Below (w.heap.size + 1) p0 q3 := Below.trans (P3.alloc (by omega) _) hq3
    refine (stamp_pad (w.heap.size + 1) _ _ i 2 (by omega) (by omega) (by simp; omega) q3 owq3 (by have := Q3.size; omega)).mono ?_
    rintro e p4 ⟨u4, rfl, own4, hp4⟩
    have P4 : Below (w.heap.size + 1) p0 p4 := Q3.trans hp4
    have ln3 := pads_len (n := i) (k := 2) (by omega) (by omega)
    have lp4 := P4.size
    clear hq3 zq3 owq3 hp4
    go_wp2_with fail
    rw [rounds_succ]
    have sg4 := (S2.below (Nat.lt_of_lt_of_le S.lt (by omega)) P4).c4
    go_wp2_with (at_builtin; refine app_byte rfl _ _ rfl (w.heap.size + 1) _ _ rfl (own4.below ?_) _ 58 rfl ?_ ?_ ?_ ?_; (focus (repeat' (first | exact Below.refl _ _ | refine Below.alloc ?_ ?_ _ | refine Below.setCell ?_ ?_ _ | refine Below.drew ?_ | refine below_drewN ?_ _ | refine Below.trans ?_ (Below.mono (by assumption) ?_) | refine Below.trans ?_ (Below.mono (BW.below _) ?_) | (simp; done) | (simp; omega) | omega))); (simp [Addr.add]); (first | (focus (simp; done)) | (focus (simp; omega)) | (focus omega)); (first | (focus (simp; done)) | (focus (simp; omega)) | (focus omega)); intro v4 q4 owq4 hq4; have zq4 := hq4.size; (try simp at zq4))
    have Q4 : Below (w.heap.size + 1) p0 q4 := Below.trans (P4.alloc (by omega) _) hq4
    refine (stamp_pad (w.heap.size + 1) _ _ s 2 (by omega) (by omega) (by simp; omega) q4 owq4 (by have := Q4.size; omega)).mono ?_
    rintro e p5 ⟨u5, rfl, own5, hp5⟩
    have P5 : Below (w.heap.size + 1) p0 p5 := Q4.trans hp5
    have ln4 := pads_len (n := s) (k := 2) (by omega) (by omega)
    have lp5 := P5.size
    clear hq4 zq4 owq4 hp5
    go_wp2_with fail
    rw [rounds_succ]
    have bk := back_text own5
    go_wp2_with fail
    try rw [bk]
    try go_wp2_with fail
    go_ret
    refine ⟨congrArg (fun z : List UInt8 => Ending.returned (.string ⟨z.toArray⟩)) ?_, B1.trans ((Below.trans P0 P5).weak (by omega))⟩
    rw [HL0.out]
    simp [List.append_assoc]
end Go.Proofs.YtblmlglkjmilkacDoor
