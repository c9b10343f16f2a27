/-
  amount.Read of texts of digits and colons.
-/
import Derived.Test.YtjddmcecllhlhaaDoorAmtB
import Derived.Test.YtjddmcecllhlhaaDoorShk
namespace Go.Proofs.YtjddmcecllhlhaaDoor
open Go.RowKit Go.Lib
/-- What the program's variables hold. -/
structure AKept (w : World) : Prop where
  c0 : w.cell? ⟨0, 0, none⟩ = some (.int .i64 1)
  c1 : w.cell? ⟨0, 1, none⟩ = some (.int .i64 3)
  c2 : w.cell? ⟨0, 2, none⟩ = some (.int .i64 3600)
  c3 : w.cell? ⟨0, 3, none⟩ = some (.int .i64 2)
  c4 : w.cell? ⟨0, 4, none⟩ = some (.int .i64 2)
  c5 : w.cell? ⟨0, 5, none⟩ = some (.int .i64 60)
  c6 : w.cell? ⟨0, 6, none⟩ = some (.int .i64 2)
  c7 : w.cell? ⟨0, 7, none⟩ = some (.int .i64 2)
  c8 : w.cell? ⟨0, 8, none⟩ = some (.int .i64 1)
  m : ∃ m, w.cell? ⟨1, 0, none⟩ = some (.int .i64 m)
theorem AKept.below {w w' : World} (h : AKept w) (hb : Below w.heap.size w w') : AKept w' := by
  have l0 := cell_in h.c0
  obtain ⟨m, hm⟩ := h.m
  have l1 := cell_in hm
  exact ⟨(hb.cell (p := ⟨_, 0, none⟩) l0).trans h.c0, (hb.cell (p := ⟨_, 1, none⟩) l0).trans h.c1, (hb.cell (p := ⟨_, 2, none⟩) l0).trans h.c2, (hb.cell (p := ⟨_, 3, none⟩) l0).trans h.c3, (hb.cell (p := ⟨_, 4, none⟩) l0).trans h.c4,
    (hb.cell (p := ⟨_, 5, none⟩) l0).trans h.c5, (hb.cell (p := ⟨_, 6, none⟩) l0).trans h.c6, (hb.cell (p := ⟨_, 7, none⟩) l0).trans h.c7, (hb.cell (p := ⟨_, 8, none⟩) l0).trans h.c8, m, (hb.cell (p := ⟨_, 0, none⟩) l1).trans hm⟩
theorem cut_minus (l : List UInt8) (w : World) : Calls Tryd.prog 32 #[.string (bts (45 :: l)), .string ⟨#[45]⟩] w fun e w' => e = .returned (.tuple #[.string (bts l), .bool true]) ∧ w = w' := by
  refine (Tryd.strings_CutPrefix _ _ _).mono ?_
  rintro e w' ⟨rfl, rfl⟩
  exact ⟨by simp [bts, Lib.trimPrefix, Lib.hasPrefix], rfl⟩
theorem cut_plain (b : UInt8) (l : List UInt8) (h : isDig b) (w : World) : Calls Tryd.prog 32 #[.string (bts (b :: l)), .string ⟨#[45]⟩] w fun e w' => e = .returned (.tuple #[.string (bts (b :: l)), .bool false]) ∧ w = w' := by
  have hb : (45 == b) = false := by
    simp
    rintro rfl
    unfold isDig at h
    simp at h
  have hp : Lib.hasPrefix (b :: l) [45] = false := by
    unfold Lib.hasPrefix
    simp only [List.isPrefixOf]
    rw [hb]
    rfl
  have ht : Lib.trimPrefix (b :: l) [45] = b :: l := by
    unfold Lib.trimPrefix
    rw [hp]
    rfl
  refine (Tryd.strings_CutPrefix _ _ _).mono ?_
  rintro e w' ⟨rfl, rfl⟩
  exact ⟨by simp only [bts, hp, ht], rfl⟩
/-- A text, its sign ahead. -/
def sgn (neg : Bool) (l : List UInt8) : List UInt8 := if neg = true then 45 :: l else l
theorem cut_sgn (neg : Bool) (b : UInt8) (l : List UInt8) (h : isDig b) (w : World) : Calls Tryd.prog 32 #[.string (bts (sgn neg (b :: l))), .string ⟨#[45]⟩] w fun e w' => e = .returned (.tuple #[.string (bts (b :: l)), .bool neg]) ∧ w = w' := by
  cases neg
  · exact cut_plain b l h w
  · exact cut_minus _ w
/-- What is said of a sum. -/
def sumV (neg : Bool) (n : Int) : Int := if neg = true then -n else n
set_option maxRecDepth 100000 in
set_option maxHeartbeats 2000000 in
theorem amount_Read1 (neg : Bool) (b : UInt8) (l : List UInt8) (hd : ∀ x ∈ b :: l, isDig x) (hl : (b :: l).length ≤ 3) (hN : natOf (b :: l) ≤ 99) (w : World) (K : AKept w) : Calls Tryd.prog 12 #[.string (bts (sgn neg (b :: l)))] w fun e w' => e = .returned (.tuple #[.int .i64 (sumV neg (natOf (b :: l) * 3600)), .int .i64 0]) ∧ Below w.heap.size w w' := by
  have hC := fun w => cut_sgn neg b l (hd b (by simp)) w
  obtain ⟨m, hm⟩ := K.m
  have hS := Tryd.strings_Split (bts (b :: l)) ⟨#[58]⟩ m w (by show (b :: l).length < _; omega) hm (by decide)
  have hsp := split_one (x := b :: l) (fun c hc => dig_ne (hd c hc))
  unfold bts at hS hsp
  rw [hsp.1, hsp.2] at hS
  have hP := fun w => part_read 1 3 3600 (b :: l) hd (by simp; omega) (by omega) hl w
  have hne : (b :: l) ≠ [] := by simp
  unfold bts at hC ⊢
  generalize (⟨(sgn neg (b :: l)).toArray⟩ : ByteArray) = S at *
  generalize hs : (⟨(b :: l).toArray⟩ : ByteArray) = s at *
  have hse : s.toList.isEmpty = false := by rw [← hs, toList_data]; rfl
  generalize natOf (b :: l) = N at *
  obtain ⟨R, hR⟩ : ∃ R : Int, (N : Int) * 3600 = R := ⟨_, rfl⟩
  have r0 : 0 ≤ R := by omega
  have r1 : R < 604800 := by omega
  have n0 : 0 ≤ (N : Int) := by omega
  have n1 : (N : Int) ≤ 99 := by omega
  rw [hR]
  have c0 := K.c0
  have c1 := K.c1
  have c2 := K.c2
  have lg := cell_in c0
  clear hs hd hl hne hsp K hm
  simp only [List.map_cons, List.map_nil] at hS
  cases neg
  all_goals
    go_enter Tryd.func12, Tryd.ntmps12
    go_wp2_with (go_at_call 32; with_reducible refine (hC _).mono ?_; rintro e w' ⟨rfl, rfl⟩)
    refine hS.mono ?_
    rintro e w1 ⟨rfl, rfl⟩
    go_wp2_with fail
    refine wp_loop_rounds 2 ?_
    rw [rounds_succ]
    go_wp2_with (go_at_call 34; refine (hP _).mono ?_; rintro e w2 ⟨rfl, hb⟩; obtain ⟨hc, hf⟩ := bcell hb; have z := hb.size; (try simp at z))
    rw [rounds_succ]
    go_wp2_with fail
    go_ret2
    exact ⟨rfl, by (focus (repeat' (first | exact Below.refl _ _ | refine Below.alloc ?_ ?_ _ | refine Below.setCell ?_ ?_ _ | refine Below.drew ?_ | refine below_drewN ?_ _ | refine Below.trans ?_ (Below.mono (by assumption) ?_) | refine Below.trans ?_ (Below.mono (BW.below _) ?_) | (simp; done) | (simp; omega) | omega)))⟩
end Go.Proofs.YtjddmcecllhlhaaDoor
