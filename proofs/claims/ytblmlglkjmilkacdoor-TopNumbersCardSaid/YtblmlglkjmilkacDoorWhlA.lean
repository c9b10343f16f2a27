/-
  Whole numbers as floats, alone and added up; what the first stage begins with.
-/
import Derived.Test.YtblmlglkjmilkacDoorTxtD
import Derived.Test.YtblmlglkjmilkacDoorReaG
import Derived.Test.YtblmlglkjmilkacDoorReaD
import Derived.Test.YtblmlglkjmilkacDoorFloO
namespace Go.Proofs.YtblmlglkjmilkacDoor
open Go.RowKit Flo Ieee

theorem Is.pos {b : Nat} {s : Bool} {z : Int} (h : Is b s z) (hz : z ≠ 0 ∨ s = false) : Is b false z := by
  refine ⟨h.lt, h.fin, h.val, ?_⟩
  rw [h.sg]
  rcases hz with hz | hz
  · rw [if_neg hz, if_neg hz]
  · rw [hz]
theorem int_add {a b : Int} (ha : a.natAbs ≤ 9007199254740992) (hb : b.natAbs ≤ 9007199254740992) (hs : (a + b).natAbs ≤ 9007199254740992) : fop .add (some (floatOfInt .f64 a)) (some (floatOfInt .f64 b)) = some (floatOfInt .f64 (a + b)) := by
  have ia := int_is ha
  have ib := int_is hb
  have is := int_is hs
  have e : val (floatOfInt .f64 a) + val (floatOfInt .f64 b) = (a + b) * U := by rw [ia.val, ib.val, Int.add_mul]
  obtain ⟨r, hr, ir⟩ := add_is ia.fin ib.fin (by rw [e]; exact rep_int hs)
  rw [e] at ir
  have : r = floatOfInt .f64 (a + b) := by
    refine (Is.pos ir ?_).eq is
    by_cases hz : (a + b) * (U : Int) = 0
    · right
      have h0 := int_mul_zero.1 hz
      rw [ia.sg, ib.sg]
      by_cases h : a * (U : Int) = 0
      · rw [if_pos h]; rfl
      · rw [if_neg h]
        have ha0 : a ≠ 0 := fun h' => h (int_mul_zero.2 h')
        have hb0 : ¬ b * (U : Int) = 0 := fun h' => by have := int_mul_zero.1 h'; omega
        rw [if_neg hb0]
        have k1 : decide (a * (U : Int) < 0) = decide (a < 0) := decide_eq_decide.2 int_mul_lt
        have k2 : decide (b * (U : Int) < 0) = decide (b < 0) := decide_eq_decide.2 int_mul_lt
        rw [k1, k2]
        by_cases hh : a < 0
        · rw [decide_eq_false (show ¬ b < 0 by omega)]; simp
        · rw [decide_eq_false hh]; rfl
    · exact .inl hz
  rw [← this]
  exact hr
def total (l : List Int) : Int := l.foldl (· + ·) 0
theorem total_snoc (l : List Int) (x : Int) : total (l ++ [x]) = total l + x := by simp [total]
theorem nz_int (n : Int) : nz (floatOfInt .f64 n) = some (floatOfInt .f64 n) := nz_some (int_rnd n).nan
/-- As long as no part sum is too great. -/
theorem sum_ints : ∀ k : Nat, ∀ l : List Int, l.length = k → (∀ x ∈ l, x.natAbs ≤ 1099511627776) → k ≤ 1000 → sumX (l.map (floatOfInt .f64)) = some (floatOfInt .f64 (total l)) ∧ (total l).natAbs ≤ k * 1099511627776 := by
  intro k
  induction k with
  | zero =>
    intro l hl _ _
    rw [List.length_eq_zero_iff.1 hl]
    exact ⟨by kernel_rfl, by simp [total]⟩
  | succ k ih =>
    intro l hl hx hk
    have hne : l ≠ [] := by rintro rfl; simp at hl
    obtain ⟨m, x, rfl⟩ : ∃ m x, l = m ++ [x] := ⟨l.dropLast, l.getLast hne, (List.dropLast_concat_getLast hne).symm⟩
    have hm : m.length = k := by simpa using hl
    obtain ⟨h1, h2⟩ := ih m hm (fun y hy => hx y (by simp [hy])) (by omega)
    have hxx := hx x (by simp)
    rw [total_snoc]
    refine ⟨?_, by omega⟩
    by_cases h0 : 0 < k
    · have e := sumX_take (l := (m ++ [x]).map (floatOfInt .f64)) (k := k) (by simp; omega) h0
      have t1 : ((m ++ [x]).map (floatOfInt .f64)).take (k + 1) = (m ++ [x]).map (floatOfInt .f64) := List.take_of_length_le (by simp; omega)
      have t2 : ((m ++ [x]).map (floatOfInt .f64)).take k = m.map (floatOfInt .f64) := by
        rw [List.map_append, List.take_append_of_le_length (by simp; omega), List.take_of_length_le (by simp; omega)]
      have t3 : ((m ++ [x]).map (floatOfInt .f64))[k]'(by simp; omega) = floatOfInt .f64 x := by
        subst hm
        simp
      rw [t1, t2, t3, h1, nz_int] at e
      rw [e]
      exact int_add (by omega) (by omega) (by omega)
    · have : m = [] := List.length_eq_zero_iff.1 (by omega)
      subst this
      show nz (floatOfInt .f64 x) = _
      rw [nz_int]
      congr 2
      simp [total]
theorem whole_big {k m : Int} (hk : k.natAbs ≤ 9007199254740992) (hm : 1 ≤ m ∧ m ≤ 4) : whE (floatOfInt .f64 k) m = 0 ∧ whV (floatOfInt .f64 k) m = k := by
  have i := int_is hk
  have lt : floatOfInt .f64 k < 18446744073709551616 := (int_rnd k).lt
  have r : rndI (wayM m) (floatOfInt .f64 k) = k := by
    have hmz : mag (floatOfInt .f64 k) % U = 0 := by
      have h := val_nat (floatOfInt .f64 k)
      rw [i.val, Int.natAbs_mul, Int.natAbs_natCast] at h
      rw [← h]
      exact Nat.mul_mod_left _ _
    have hs := round_self lt i.fin (wayM m) hmz
    obtain ⟨y', e, _, _, _, _, hv, _⟩ := round_word i.fin (wayM m)
    rw [hs] at e
    subst e
    rw [i.val] at hv
    exact (mul_U_eq.1 hv).symm
  have hr : isinf (floatOfInt .f64 k) = false := by
    have := i.fin
    unfold isinf; unfold fin at this; simp at *; omega
  have := whE_y (m := m) (decide_eq_true hm) (fin_nan i.fin) ⟨hr, by rw [r]; omega⟩
  rwa [r] at this
theorem begins1 (w : World) : Calls Tryd.prog 27 #[] w fun e w' => e = .returned (.bool true) ∧ Below w.heap.size w w' := by
  have hR := fun w => num_Read (-12) (by unfold I64; omega) w
  have hT := fun w => num_Text 7 (by unfold I64; omega) w
  have hK := fun w => real_Kind 4602678819172646912 (by omega) w
  rw [show (⟨(txt (-12)).toArray⟩ : ByteArray) = ⟨#[45, 49, 50]⟩ from by decide +kernel] at hR
  rw [show (⟨(txt 7).toArray⟩ : ByteArray) = ⟨#[55]⟩ from by decide +kernel] at hT
  rw [show knd 4602678819172646912 = 5 from by decide +kernel] at hK
  go_enter Tryd.func27, Tryd.ntmps27
  go_wp2_with (first
    | (go_at_call 25; refine (hR _).mono ?_; rintro e w1 ⟨rfl, hb⟩; obtain ⟨hc, hf⟩ := bcell hb; have z := hb.size; (try simp at z))
    | (go_at_call 26; refine (hT _).mono ?_; rintro e w2 ⟨rfl, hb⟩; obtain ⟨hc, hf⟩ := bcell hb; have z := hb.size; (try simp at z))
    | (go_at_call 61; refine (hK _).mono ?_; rintro e w' ⟨rfl, rfl⟩))
  go_ret
  exact ⟨rfl, by (focus (repeat' (first | exact Below.refl _ _ | refine Below.alloc ?_ ?_ _ | refine Below.setCell ?_ ?_ _ | refine Below.drew ?_ | refine below_drewN ?_ _ | refine Below.trans ?_ (Below.mono (by assumption) ?_) | refine Below.trans ?_ (Below.mono (BW.below _) ?_) | (simp; done) | (simp; omega) | omega)))⟩
end Go.Proofs.YtblmlglkjmilkacDoor
