/-
  The text of a day by its week.
-/
import Derived.Test.YtblmlglkjmilkacDoorWeeE
import Derived.Test.YtblmlglkjmilkacDoorStmB
import Derived.Test.YtblmlglkjmilkacDoorShf
namespace Go.Proofs.YtblmlglkjmilkacDoor
open Go.RowKit Go.Lib Cal
attribute [local go_sem] BW.cell BW.frozen

/-- What the program's own variables hold, and the library's one number. -/
structure Kept (w : World) : Prop where
  s : Signs w
  m : ∃ m, w.cell? ⟨3, 0, none⟩ = some (.int .i64 m)
theorem Kept.below {w w' : World} (h : Kept w) (hb : Below w.heap.size w w') : Kept w' := by
  obtain ⟨m, hm⟩ := h.m
  exact ⟨h.s.below h.s.lt hb, m, (hb.cell (p := ⟨3, 0, none⟩) (cell_at hm)).trans hm⟩
def bs (l : List UInt8) : ByteArray := ⟨l.toArray⟩
def wkText (Yp : List UInt8) (k d : Int) : ByteArray := bs Yp ++ bs [45, 87] ++ bs (txt (k / 10)) ++ bs (txt (k % 10)) ++ bs [45] ++ bs (txt d)
theorem txt_one {n : Int} (h0 : 0 ≤ n) (h1 : n < 10) : (txt n).length = 1 := by
  unfold txt
  rw [if_neg (by omega), dec_lt (by omega)]
  rfl
theorem st11 {y : Int} (h0 : -40000 ≤ y) (h1 : y ≤ 40000) : StOk y (1 : Nat) (1 : Nat) (0 : Nat) (0 : Nat) (0 : Nat) := ⟨day_14 h0 h1 (by omega) (by omega), by omega, by omega, by omega, by omega, by omega, by omega⟩
theorem week_Text_n (y k d : Int) (h : wkB y k d = false) (w : World) : Calls Tryd.prog 19 #[dat y k d] w fun e w' => e = .returned (.string ⟨#[]⟩) ∧ Below w.heap.size w w' := by
  have hR := fun w => week_Right y k d w
  rw [h] at hR
  clear h
  go_enter Tryd.func19, Tryd.ntmps19
  go_wp2_with (go_at_call 17; refine (hR _).mono ?_; rintro e w1 ⟨rfl, hb⟩; obtain ⟨hc, hf⟩ := bcell hb; have z := hb.size; (try simp at z); have z0 : w.heap.size < w1.heap.size := (by omega))
  go_ret
  exact ⟨rfl, by (focus (repeat' (first | exact Below.refl _ _ | refine Below.alloc ?_ ?_ _ | refine Below.setCell ?_ ?_ _ | refine Below.drew ?_ | refine below_drewN ?_ _ | refine Below.trans ?_ (Below.mono (by assumption) ?_) | refine Below.trans ?_ (Below.mono (BW.below _) ?_) | (simp; done) | (simp; omega) | omega)))⟩
set_option maxRecDepth 100000 in
set_option maxHeartbeats 2000000 in
theorem week_Text (y k d : Int) (h : wkB y k d = true) (Yp R : List UInt8) (hcut : Lib.cut (stText y 1 1 0 0 0) [45, 48, 49, 45, 48, 49, 84] = (Yp, R, true)) (hlen : (stText y 1 1 0 0 0).length ≤ 1000) (hYp : Yp.length ≤ 1000) (w : World) (K : Kept w) :
    Calls Tryd.prog 19 #[dat y k d] w fun e w' => e = .returned (.string (wkText Yp k d)) ∧ Below w.heap.size w w' := by
  have hR := fun w => week_Right y k d w
  rw [h] at hR
  obtain ⟨f0, f1, k0, k1, d0, d1, y0, y1⟩ := wk_small h
  have hT := fun (w : World) (S : Signs w) => stamp_Text (st11 y0 y1) w S
  have hC : ∀ w : World, Kept w → Calls Tryd.prog 51 #[.string (bs (stText y 1 1 0 0 0)), .string ⟨#[45, 48, 49, 45, 48, 49, 84]⟩] w fun e w' => e = .returned (.tuple #[.string (bs Yp), .string (bs R), .bool true]) ∧ Below w.heap.size w w' := by
    intro w K
    obtain ⟨m, hm⟩ := K.m
    have := Tryd.strings_Cut (bs (stText y 1 1 0 0 0)) ⟨#[45, 48, 49, 45, 48, 49, 84]⟩ m w (by show (stText y 1 1 0 0 0).length < _; omega) hm
    have e : Lib.cut (bs (stText y 1 1 0 0 0)).data.toList (⟨#[45, 48, 49, 45, 48, 49, 84]⟩ : ByteArray).data.toList = (Yp, R, true) := hcut
    rw [e] at this
    refine this.mono ?_
    rintro e w' ⟨rfl, n, rfl⟩
    exact ⟨rfl, below_drewN (Below.refl _ _) _⟩
  have n1 := fun w => num_Text (k / 10) (I64.sm (by omega)) w
  have n2 := fun w => num_Text (k % 10) (I64.sm (by omega)) w
  have n3 := fun w => num_Text d (I64.sm (by omega)) w
  have a0 : 0 ≤ k / 10 := by omega
  have a1 : k / 10 ≤ 5 := by omega
  have b0 : 0 ≤ k % 10 := by omega
  have b1 : k % 10 ≤ 9 := by omega
  unfold wkText
  change ∀ w : World, Calls _ _ _ w (fun e w' => e = .returned (.string (bs (txt (k / 10)))) ∧ Below w.heap.size w w') at n1
  change ∀ w : World, Calls _ _ _ w (fun e w' => e = .returned (.string (bs (txt (k % 10)))) ∧ Below w.heap.size w w') at n2
  change ∀ w : World, Calls _ _ _ w (fun e w' => e = .returned (.string (bs (txt d))) ∧ Below w.heap.size w w') at n3
  change ∀ (w : World), Signs w → Calls _ _ _ w (fun e w' => e = .returned (.string (bs (stText y 1 1 0 0 0))) ∧ Below w.heap.size w w') at hT
  have sz0 : (bs Yp).size ≤ 1000 := hYp
  have sz1 : (bs (txt (k / 10))).size ≤ 1 := Nat.le_of_eq (txt_one (by omega) (by omega))
  have sz2 : (bs (txt (k % 10))).size ≤ 1 := Nat.le_of_eq (txt_one (by omega) (by omega))
  have sz3 : (bs (txt d)).size ≤ 1 := Nat.le_of_eq (txt_one (by omega) (by omega))
  clear hcut hlen hYp h f0 f1
  generalize bs (txt (k / 10)) = t1 at *
  generalize bs (txt (k % 10)) = t2 at *
  generalize bs (txt d) = t3 at *
  generalize bs (stText y 1 1 0 0 0) = st at *
  generalize bs Yp = Y at *
  generalize bs R = R at *
  go_enter Tryd.func19, Tryd.ntmps19
  go_wp2_with (go_at_call 17; refine (hR _).mono ?_; rintro e w1 ⟨rfl, hb⟩; obtain ⟨hc, hf⟩ := bcell hb; have z := hb.size; (try simp at z); have z0 : w.heap.size < w1.heap.size := (by omega))
  have B1 : Below w.heap.size w w1 := by (focus (repeat' (first | exact Below.refl _ _ | refine Below.alloc ?_ ?_ _ | refine Below.setCell ?_ ?_ _ | refine Below.drew ?_ | refine below_drewN ?_ _ | refine Below.trans ?_ (Below.mono (by assumption) ?_) | refine Below.trans ?_ (Below.mono (BW.below _) ?_) | (simp; done) | (simp; omega) | omega)))
  have K1 := K.below B1
  have c0 : w1.cell? ⟨w.heap.size, 0, none⟩ = some (.int .i64 y) := (hb.cell (p := ⟨w.heap.size, 0, none⟩) (by simp)).trans (by go_simp)
  have c1 : w1.cell? ⟨w.heap.size, 1, none⟩ = some (.int .i64 k) := (hb.cell (p := ⟨w.heap.size, 1, none⟩) (by simp)).trans (by go_simp)
  have c2 : w1.cell? ⟨w.heap.size, 2, none⟩ = some (.int .i64 d) := (hb.cell (p := ⟨w.heap.size, 2, none⟩) (by simp)).trans (by go_simp)
  have z1 : w.heap.size < w1.heap.size := by omega
  clear hb hc hf hR
  go_wp2_with fail
  refine (hT _ K1.s).mono ?_
  rintro e w2 ⟨rfl, hb2⟩
  have K2 := K1.below hb2
  go_wp2_with fail
  refine (hC _ K2).mono ?_
  rintro e w3 ⟨rfl, hb3⟩
  have hb13 : Below w1.heap.size w1 w3 := hb2.trans (hb3.mono hb2.size)
  have d1' : w3.cell? ⟨w.heap.size, 1, none⟩ = some (.int .i64 k) := (hb13.cell (p := ⟨w.heap.size, 1, none⟩) z1).trans c1
  have d2' : w3.cell? ⟨w.heap.size, 2, none⟩ = some (.int .i64 d) := (hb13.cell (p := ⟨w.heap.size, 2, none⟩) z1).trans c2
  have z3 : w.heap.size < w3.heap.size := Nat.lt_of_lt_of_le z1 hb13.size
  have B3 : Below w.heap.size w w3 := B1.trans (hb13.mono (by omega))
  clear c0 c1 c2 hb2 hb3 hb13 hT hC
  go_wp2_with fail
  refine wp_region_bw (by kernel_rfl) (by kernel_rfl) ?_; (repeat (go_big_quiet_step ((go_at_call 26; first | with_reducible exact bw_call (n1 _) | with_reducible exact bw_call (n2 _) | with_reducible exact bw_call (n3 _))))); refine wpQuiet_nil ?_; intro _ hw'; obtain ⟨xq, hw''⟩ := hw'; subst hw''
  go_wp2_with fail
  go_ret
  exact ⟨rfl, by (focus (repeat' (first | exact Below.refl _ _ | refine Below.alloc ?_ ?_ _ | refine Below.setCell ?_ ?_ _ | refine Below.drew ?_ | refine below_drewN ?_ _ | refine Below.trans ?_ (Below.mono (by assumption) ?_) | refine Below.trans ?_ (Below.mono (BW.below _) ?_) | (simp; done) | (simp; omega) | omega)))⟩
end Go.Proofs.YtblmlglkjmilkacDoor
