/-
  Stamps: their parts, and their texts.
-/
import Derived.Test.YtblmlglkjmilkacDoorTxtB
import Derived.Test.YtblmlglkjmilkacDoorCivE
namespace Go.Proofs.YtblmlglkjmilkacDoor
open Go.RowKit Go.Lib Cal
attribute [local go_sem] BW.cell BW.frozen

abbrev stp (y m d h i s : Int) : Value := .agg #[.int .i64 y, .int .i64 m, .int .i64 d, .int .i64 h, .int .i64 i, .int .i64 s]
/-- A stamp that may be. -/
structure StOk (y m d h i s : Int) : Prop where
  r : rightB y m d = true
  h0 : 0 ≤ h
  h1 : h < 24
  i0 : 0 ≤ i
  i1 : i < 60
  s0 : 0 ≤ s
  s1 : s < 60
theorem stamp_below (n k : Int) (h0 : 0 ≤ n) (h1 : n < k) (w : World) : Calls Tryd.prog 148 #[.int .i64 n, .int .i64 k] w fun e w' => e = .returned (.bool true) ∧ w = w' := by
  go_enter Tryd.func148, Tryd.ntmps148
  go_wp2
  go_ret
  exact ⟨rfl, rfl⟩
theorem rightB_I64 {y m d : Int} (h : rightB y m d = true) : I64 y := by
  have := (right_iff y m d).1 h
  exact I64.sm (by omega)
theorem stamp_Right {y m d h i s : Int} (ok : StOk y m d h i s) (w : World) : Calls Tryd.prog 100 #[stp y m d h i s] w fun e w' => e = .returned (.bool true) ∧ Below w.heap.size w w' := by
  obtain ⟨r, h0, h1, i0, i1, s0, s1⟩ := ok
  have hR := fun w => civil_Right y m d (rightB_I64 r) w
  rw [r] at hR
  clear r
  go_enter Tryd.func100, Tryd.ntmps100
  go_wp2_with (first
    | (go_at_call 55; refine (hR _).mono ?_; rintro e w1 ⟨rfl, hb⟩; obtain ⟨hc, hf⟩ := bcell hb; have z := hb.size; (try simp at z); have z0 : w.heap.size < w1.heap.size := (by omega))
    | (go_at_call 148; with_reducible refine (stamp_below h 24 h0 h1 _).mono ?_; rintro e w' ⟨rfl, rfl⟩)
    | (go_at_call 148; with_reducible refine (stamp_below i 60 i0 i1 _).mono ?_; rintro e w' ⟨rfl, rfl⟩)
    | (go_at_call 148; with_reducible refine (stamp_below s 60 s0 s1 _).mono ?_; rintro e w' ⟨rfl, rfl⟩))
  go_ret
  exact ⟨rfl, by (focus (repeat' (first | exact Below.refl _ _ | refine Below.alloc ?_ ?_ _ | refine Below.setCell ?_ ?_ _ | refine Below.drew ?_ | refine below_drewN ?_ _ | refine Below.trans ?_ (Below.mono (by assumption) ?_) | refine Below.trans ?_ (Below.mono (BW.below _) ?_) | (simp; done) | (simp; omega) | omega)))⟩
/-- Written with so many digits, at least. -/
def pads (n : Nat) (k : Nat) : List UInt8 := List.replicate (k - (dec n).length) 48 ++ dec n
/-- A call that hands back a slice of bytes, in memory from block B on. -/
def GivesB (w : World) (B : Nat) (l : List UInt8) (e : Ending) (w' : World) : Prop := ∃ v, e = .returned v ∧ BytesAt w' B v l ∧ Below B w w'
theorem txt_nat (n : Nat) : txt (n : Int) = dec n := by
  unfold txt
  rw [if_neg (by omega)]
  rfl
set_option maxRecDepth 100000 in
set_option maxHeartbeats 1000000 in
theorem stamp_pad (B : Nat) (v : Value) (l : List UInt8) (n k : Nat) (hn : n ≤ 1000000) (hk : k ≤ 9) (hl : l.length ≤ 1000) (w : World) (own : BytesAt w B v l) (hB : B ≤ w.heap.size) :
    Calls Tryd.prog 101 #[v, .int .i64 (n : Int), .int .i64 (k : Int)] w (GivesB w B (l ++ pads n k)) := by
  have hT := fun w => num_Text (n : Int) (by unfold I64; omega) w
  rw [txt_nat] at hT
  have dl := dec_len 7 n (by omega)
  have hs : (⟨(dec n).toArray⟩ : ByteArray).size = (dec n).length := rfl
  unfold pads
  generalize dec n = d at *
  have n1 : (n : Int) ≤ 1000000 := by omega
  have k1 : (k : Int) ≤ 9 := by omega
  have d1 : (d.length : Int) ≤ 8 := by omega
  go_enter Tryd.func101, Tryd.ntmps101
  go_wp2_with (go_at_call 26; refine (hT _).mono ?_; rintro e w1 ⟨rfl, hb⟩; obtain ⟨hc, hf⟩ := bcell hb; have z := hb.size; (try simp at z))
  have B1 : Below w.heap.size w w1 := by assumption
  have z1 : w.heap.size ≤ w1.heap.size := B1.size
  clear hb hc hf hT
  go_loopw [0, 14] (fun u t wr => ∃ j : Nat, t = .int .i64 (j : Int) ∧ j ≤ k - d.length ∧ BytesAt wr B u (l ++ List.replicate j 48) ∧ Below B w wr) (fun _ t _ => 9 - (RowKit.intOf t).toNat)
  case atStart => exact ⟨0, rfl, by omega, by rw [List.replicate_zero, List.append_nil]; exact own.below B1, B1.mono hB⟩
  case round =>
    obtain ⟨j, rfl, hj, ownj, Bj⟩ := hrel
    have zj := Bj.size
    by_cases hlt : j < k - d.length
    · have g : (j : Int) < (k : Int) - (d.length : Int) := by omega
      clear own
      go_wp2_with (at_builtin; refine app_byte rfl _ _ rfl B _ _ rfl (ownj.below ?_) _ 48 rfl ?_ ?_ ?_ ?_; (focus (repeat' (first | exact Below.refl _ _ | refine Below.alloc ?_ ?_ _ | refine Below.setCell ?_ ?_ _ | refine Below.drew ?_ | refine below_drewN ?_ _ | refine Below.trans ?_ (Below.mono (by assumption) ?_) | refine Below.trans ?_ (Below.mono (BW.below _) ?_) | (simp; done) | (simp; omega) | omega))); (simp [Addr.add]); (first | (simp; done) | (simp; omega)); (first | (simp; done) | (simp; omega)); intro v3 w3 own3 hb3; have z3 := hb3.size; (try simp at z3))
      go_roundw
      case rel =>
        refine ⟨j + 1, by simp, by omega, ?_, Bj.trans (Below.trans ((Below.refl _ _).alloc (by omega) _) hb3)⟩
        rw [List.replicate_succ', ← List.append_assoc]
        exact own3
      case measure => simp [RowKit.intOf]; omega
    · have g : decide ((j : Int) < (k : Int) - (d.length : Int)) = false := decide_eq_false (by omega)
      have ej : j = k - d.length := by omega
      subst ej
      clear own
      go_wp2_with (at_builtin; refine app_text rfl _ _ rfl B _ _ d rfl ownj rfl ?_ ?_ ?_; (simp; omega); omega; intro v3 w3 own3 hb3)
      go_ret
      exact ⟨_, rfl, by rw [← List.append_assoc]; exact own3, Bj.trans hb3⟩
end Go.Proofs.YtblmlglkjmilkacDoor
