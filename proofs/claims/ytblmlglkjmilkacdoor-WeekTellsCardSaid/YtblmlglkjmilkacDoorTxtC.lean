/-
  The number of a number's text: num.cut, num.Read.
-/
import Derived.Test.YtblmlglkjmilkacDoorTxtB
import Derived.Test.YtblmlglkjmilkacDoorShf
namespace Go.Proofs.YtblmlglkjmilkacDoor
open Go.RowKit Go.Lib

def isDig (b : UInt8) : Prop := 48 ≤ b.toNat ∧ b.toNat ≤ 57
theorem dig_of {k : Nat} (h : k < 10) : isDig (UInt8.ofNat (48 + k)) := by
  unfold isDig
  rw [UInt8.toNat_ofNat']
  omega
theorem dec_digs : ∀ u : Nat, ∀ b ∈ dec u, isDig b := by
  intro u
  induction u using Nat.strongRecOn with
  | ind u ih =>
    by_cases hu : u < 10
    · rw [dec_lt hu]
      intro b hb
      rw [List.mem_singleton] at hb
      subst hb
      exact dig_of hu
    · rw [dec_ge (by omega)]
      intro b hb
      rw [List.mem_append] at hb
      rcases hb with hb | hb
      · exact ih (u / 10) (by omega) b hb
      · rw [List.mem_singleton] at hb
        subst hb
        exact dig_of (by omega)
/-- The first digit. -/
theorem dec_head : ∀ u : Nat, ∃ c t, dec u = c :: t ∧ (0 < u → 49 ≤ c.toNat) ∧ (u = 0 → c = 48 ∧ t = []) := by
  intro u
  induction u using Nat.strongRecOn with
  | ind u ih =>
    by_cases hu : u < 10
    · refine ⟨UInt8.ofNat (48 + u), [], dec_lt hu, fun h => ?_, fun h => ?_⟩
      · rw [UInt8.toNat_ofNat']
        omega
      · subst h
        exact ⟨rfl, rfl⟩
    · obtain ⟨c, t, e, h1, _⟩ := ih (u / 10) (by omega)
      refine ⟨c, t ++ [UInt8.ofNat (48 + u % 10)], by rw [dec_ge (by omega), e]; rfl, fun _ => h1 (by omega), fun h => by omega⟩
def natOf (l : List UInt8) : Nat := l.foldl (fun a c => a * 10 + (c.toNat - 48)) 0
theorem natOf_snoc (l : List UInt8) (c : UInt8) : natOf (l ++ [c]) = natOf l * 10 + (c.toNat - 48) := by simp [natOf]
theorem natOf_dec : ∀ u : Nat, natOf (dec u) = u := by
  intro u
  induction u using Nat.strongRecOn with
  | ind u ih =>
    by_cases hu : u < 10
    · rw [dec_lt hu]
      show 0 * 10 + ((UInt8.ofNat (48 + u)).toNat - 48) = u
      rw [UInt8.toNat_ofNat']
      omega
    · rw [dec_ge (by omega), natOf_snoc, ih (u / 10) (by omega), UInt8.toNat_ofNat']
      omega
theorem natOf_take (l : List UInt8) : ∀ k, natOf (l.take k) ≤ natOf l := by
  intro k
  have h : ∀ (m : List UInt8) (a : Nat), a ≤ m.foldl (fun a c => a * 10 + (c.toNat - 48)) a := by
    intro m
    induction m with
    | nil => intro a; exact Nat.le_refl _
    | cons c m ih =>
      intro a
      exact Nat.le_trans (by omega) (ih (a * 10 + (c.toNat - 48)))
  have e : natOf l = (l.drop k).foldl (fun a c => a * 10 + (c.toNat - 48)) (natOf (l.take k)) := by
    unfold natOf
    rw [← List.foldl_append, List.take_append_drop]
  rw [e]
  exact h _ _
theorem drop_all {p : UInt8 → Bool} : ∀ l : List UInt8, (∀ b ∈ l, p b = true) → l.dropWhile p = []
  | [], _ => rfl
  | b :: l, h => by
    rw [List.dropWhile_cons, if_pos (h b (by simp))]
    exact drop_all l fun c hc => h c (by simp [hc])
theorem trim_digs {l : List UInt8} (h : ∀ b ∈ l, isDig b) : Lib.trimS l [48, 49, 50, 51, 52, 53, 54, 55, 56, 57] = [] := by
  have hd : ∀ b : UInt8, isDig b → ([48, 49, 50, 51, 52, 53, 54, 55, 56, 57] : List UInt8).contains b = true := by
    rintro b ⟨h1, h2⟩
    have : b = UInt8.ofNat b.toNat := by simp
    rw [this]
    generalize b.toNat = k at *
    rcases (show k = 48 ∨ k = 49 ∨ k = 50 ∨ k = 51 ∨ k = 52 ∨ k = 53 ∨ k = 54 ∨ k = 55 ∨ k = 56 ∨ k = 57 by omega) with e | e | e | e | e | e | e | e | e | e <;> subst e <;> rfl
  have e : Lib.trimRightS l [48, 49, 50, 51, 52, 53, 54, 55, 56, 57] = [] := by
    unfold Lib.trimRightS
    rw [drop_all l.reverse fun b hb => hd b (h b (List.mem_reverse.1 hb))]
    rfl
  unfold Lib.trimS
  rw [e]
  rfl
/-- The sign, and what is behind it. -/
theorem cut_sign (n : Int) (w : World) : Calls Tryd.prog 77 #[.string ⟨(txt n).toArray⟩, .string ⟨#[45]⟩] w fun e w' => e = .returned (.tuple #[.string ⟨(dec n.natAbs).toArray⟩, .bool (decide (n < 0))]) ∧ w = w' := by
  have h := Tryd.strings_CutPrefix ⟨(txt n).toArray⟩ ⟨#[45]⟩ w
  have e : Lib.hasPrefix (txt n) [45] = decide (n < 0) ∧ Lib.trimPrefix (txt n) [45] = dec n.natAbs := by
    by_cases hn : n < 0
    · have et : txt n = 45 :: dec n.natAbs := by unfold txt; rw [if_pos hn]; rfl
      rw [et, decide_eq_true hn]
      simp [Lib.hasPrefix, Lib.trimPrefix]
    · have et : txt n = dec n.natAbs := by unfold txt; rw [if_neg hn]; rfl
      have ep : Lib.hasPrefix (dec n.natAbs) [45] = false := by
        obtain ⟨c, t, e, _⟩ := dec_head n.natAbs
        have hc := dec_digs n.natAbs c (by rw [e]; simp)
        rw [e]
        unfold Lib.hasPrefix
        simp only [List.isPrefixOf]
        have : (45 == c) = false := by
          rw [beq_eq_false_iff_ne]
          rintro rfl
          exact absurd hc.1 (by decide)
        rw [this]
        rfl
      rw [et, decide_eq_false hn, ep]
      refine ⟨rfl, ?_⟩
      unfold Lib.trimPrefix
      rw [ep]
      rfl
  have e1 : Lib.hasPrefix (⟨(txt n).toArray⟩ : ByteArray).data.toList (⟨#[45]⟩ : ByteArray).data.toList = decide (n < 0) := e.1
  have e2 : Lib.trimPrefix (⟨(txt n).toArray⟩ : ByteArray).data.toList (⟨#[45]⟩ : ByteArray).data.toList = dec n.natAbs := e.2
  rw [e1, e2] at h
  exact h.mono fun e w' ⟨h1, h2⟩ => ⟨h1, h2.symm⟩
theorem trim_dec (u : Nat) (hu : u ≤ 9223372036854775808) (w : World) : Calls Tryd.prog 107 #[.string ⟨(dec u).toArray⟩, .string ⟨#[48, 49, 50, 51, 52, 53, 54, 55, 56, 57]⟩] w fun e w' => e = .returned (.string ⟨#[]⟩) ∧ Below w.heap.size w w' := by
  have hl := dec_len 19 u (by omega)
  have h := Any.strings_Trim_laid Tryd.lays160 (by kernel_rfl) ⟨(dec u).toArray⟩ ⟨#[48, 49, 50, 51, 52, 53, 54, 55, 56, 57]⟩ w (by show (dec u).length ≤ _; omega) (by decide) (ascii_of_all (by decide))
  have e : Lib.trimS (⟨(dec u).toArray⟩ : ByteArray).data.toList (⟨#[48, 49, 50, 51, 52, 53, 54, 55, 56, 57]⟩ : ByteArray).data.toList = [] := trim_digs (dec_digs u)
  rw [e] at h
  exact h
set_option maxRecDepth 100000 in
theorem num_cut (n : Int) (kn : I64 n) (w : World) : Calls Tryd.prog 58 #[.string ⟨(txt n).toArray⟩] w fun e w' => e = .returned (.tuple #[.bool (decide (n < 0)), .string ⟨(dec n.natAbs).toArray⟩, .bool true]) ∧ Below w.heap.size w w' := by
  have hu : n.natAbs ≤ 9223372036854775808 := by unfold I64 at kn; omega
  have hC := fun w => cut_sign n w
  have hT := fun w => trim_dec n.natAbs hu w
  obtain ⟨c, t, e, h1, h0⟩ := dec_head n.natAbs
  have hc := dec_digs n.natAbs c (by rw [e]; simp)
  have hx : ∀ w, (Instr.index 9 (.string ⟨(dec n.natAbs).toArray⟩) (.int .i64 0)).run Tryd.prog w = .ok (.int .u8 (c.toNat : Int)) w := by
    intro w
    rw [e]
    kernel_rfl
  have hs : (⟨(dec n.natAbs).toArray⟩ : ByteArray).size = t.length + 1 := by rw [e]; rfl
  have hl : (⟨(dec n.natAbs).toArray⟩ : ByteArray).toList = dec n.natAbs := Lib.toList_data _
  have hne1 : (⟨(dec n.natAbs).toArray⟩ : ByteArray).toList.isEmpty = false := by rw [hl, e]; rfl
  have hne2 : ¬ (⟨(dec n.natAbs).toArray⟩ : ByteArray).toList = [] := by rw [hl, e]; simp
  clear hl
  by_cases hn : n.natAbs = 0
  · obtain ⟨c0, t0⟩ := h0 hn
    subst c0
    subst t0
    have n0 : decide (n < 0) = false := decide_eq_false (by omega)
    rw [n0]
    rw [n0] at hC
    clear h1 h0 hc e hu kn hn n0
    generalize (⟨(dec n.natAbs).toArray⟩ : ByteArray) = d at *
    generalize (⟨(txt n).toArray⟩ : ByteArray) = s at *
    go_enter Tryd.func58, Tryd.ntmps58
    go_wp2_with (first
      | (go_at_call 77; refine (hC _).mono ?_; rintro e w' ⟨rfl, rfl⟩)
      | (go_at_call 107; refine (hT _).mono ?_; rintro e w1 ⟨rfl, hb⟩; obtain ⟨hc, hf⟩ := bcell hb; have z := hb.size; (try simp at z)))
    go_ret3
    exact ⟨rfl, by (focus (repeat' (first | exact Below.refl _ _ | refine Below.alloc ?_ ?_ _ | refine Below.setCell ?_ ?_ _ | refine Below.drew ?_ | refine below_drewN ?_ _ | refine Below.trans ?_ (Below.mono (by assumption) ?_) | refine Below.trans ?_ (Below.mono (BW.below _) ?_) | (simp; done) | (simp; omega) | omega)))⟩
  · have h49 := h1 (by omega)
    have hne3 : (((c.toNat : Int)) != 48) = true := by simp; omega
    clear h1 h0 hc e hu kn hn
    generalize (⟨(dec n.natAbs).toArray⟩ : ByteArray) = d at *
    generalize (⟨(txt n).toArray⟩ : ByteArray) = s at *
    generalize (c.toNat : Int) = C at *
    generalize decide (n < 0) = B at *
    go_enter Tryd.func58, Tryd.ntmps58
    go_wp2_with (first
      | (go_at_call 77; refine (hC _).mono ?_; rintro e w' ⟨rfl, rfl⟩)
      | (go_at_call 107; refine (hT _).mono ?_; rintro e w1 ⟨rfl, hb⟩; obtain ⟨hc, hf⟩ := bcell hb; have z := hb.size; (try simp at z)))
    go_ret3
    exact ⟨rfl, by (focus (repeat' (first | exact Below.refl _ _ | refine Below.alloc ?_ ?_ _ | refine Below.setCell ?_ ?_ _ | refine Below.drew ?_ | refine below_drewN ?_ _ | refine Below.trans ?_ (Below.mono (by assumption) ?_) | refine Below.trans ?_ (Below.mono (BW.below _) ?_) | (simp; done) | (simp; omega) | omega)))⟩
end Go.Proofs.YtblmlglkjmilkacDoor
