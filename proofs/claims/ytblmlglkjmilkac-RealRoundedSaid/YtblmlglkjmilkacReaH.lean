/-
  Contracts of the least of a list of numbers.
-/
import Derived.Test.YtblmlglkjmilkacReaG
namespace Go.Proofs.Ytblmlglkjmilkac
open Go.RowKit Flo

def cmpL (a b : Int) : Int := if a < b then -1 else if b < a then 1 else 0
theorem cmpL_neg (a b : Int) : decide (cmpL a b < 0) = decide (a < b) := by
  unfold cmpL
  by_cases h : a < b
  · rw [if_pos h, decide_eq_true h]; rfl
  · rw [if_neg h, decide_eq_false h]
    split <;> rfl
theorem cmp_isNaN64 (a : Int) (w : World) : Calls Try.prog 57 #[.int .i64 a] w fun e w' => e = .returned (.bool false) ∧ w = w' := by
  go_enter Try.func57, Try.ntmps57
  go_wp2
  go_ret
  exact ⟨rfl, rfl⟩
theorem cmp_Compare64 (a b : Int) (w : World) : Calls Try.prog 32 #[.int .i64 a, .int .i64 b] w fun e w' => e = .returned (.int .i64 (cmpL a b)) ∧ w = w' := by
  have hN := fun x w => cmp_isNaN64 x w
  by_cases h1 : a < b
  · rw [show cmpL a b = -1 from if_pos h1]
    go_enter Try.func32, Try.ntmps32
    go_wp2_with (go_at_call 57; refine (hN _ _).mono ?_; rintro e w' ⟨rfl, rfl⟩)
    go_ret
    exact ⟨rfl, rfl⟩
  · have h1' : decide (a < b) = false := decide_eq_false h1
    by_cases h2 : b < a
    · rw [show cmpL a b = 1 by unfold cmpL; rw [if_neg h1, if_pos h2]]
      clear h1
      go_enter Try.func32, Try.ntmps32
      go_wp2_with (go_at_call 57; refine (hN _ _).mono ?_; rintro e w' ⟨rfl, rfl⟩)
      go_ret
      exact ⟨rfl, rfl⟩
    · rw [show cmpL a b = 0 by unfold cmpL; rw [if_neg h1, if_neg h2]]
      have h2' : decide (b < a) = false := decide_eq_false h2
      clear h1 h2
      go_enter Try.func32, Try.ntmps32
      go_wp2_with (go_at_call 57; refine (hN _ _).mono ?_; rintro e w' ⟨rfl, rfl⟩)
      go_ret
      exact ⟨rfl, rfl⟩
theorem least_cmp (a b : Nat) (ha : a < 18446744073709551616) (hb : b < 18446744073709551616) (w : World) : Calls Try.prog 31 #[.float .f64 a, .float .f64 b] w fun e w' => e = .returned (.int .i64 (cmpL (plc a) (plc b))) ∧ w = w' := by
  have h1 := fun w => real_place a ha w
  have h2 := fun w => real_place b hb w
  clear ha hb
  go_enter Try.func31, Try.ntmps31
  go_wp2_with (first
    | (go_at_call 29; ((with_reducible first | refine (h1 _).mono ?_ | refine (h2 _).mono ?_); rintro e w' ⟨rfl, rfl⟩))
    | (go_at_call 32; refine (cmp_Compare64 _ _ _).mono ?_; rintro e w' ⟨rfl, rfl⟩))
  go_ret
  exact ⟨rfl, rfl⟩
theorem leastF_lt (m : Nat) (l : List Nat) (hm : m < 18446744073709551616) (hl : ∀ x ∈ l, x < 18446744073709551616) : leastF m l < 18446744073709551616 := by
  induction l generalizing m with
  | nil => exact hm
  | cons y l ih =>
    refine ih _ ?_ (fun x hx => hl x (by simp [hx]))
    show (if plc y < plc m then y else m) < _
    split
    · exact hl y (by simp)
    · exact hm
set_option maxRecDepth 100000 in
theorem slices_MinFunc (b off cap x : Nat) (l : List Nat) (hx : x < 18446744073709551616) (hw : ∀ y ∈ l, y < 18446744073709551616) (hc : l.length + 1 ≤ cap) (hc2 : cap ≤ 9223372036854775807) (w : World) (hf : w.cell? ⟨b, off, none⟩ = some (.float .f64 x)) (hl : ∀ k (hk : k < l.length), w.cell? ⟨b, off + (k + 1), none⟩ = some (.float .f64 l[k])) :
    Calls Try.prog 30 #[.slice (some ⟨b, off, none⟩) (l.length + 1 : Nat) cap, .func (.func 31) #[] #[]] w fun e w' => e = .returned (.float .f64 (leastF x l)) ∧ w = w' := by
  have HL := Lib.hid hl
  have HW := Lib.hid hw
  have h1 : decide ((l.length : Int) + 1 < 1) = false := decide_eq_false (by omega)
  clear hl hw
  go_enter Try.func30, Try.ntmps30
  go_wp2
  go_loop [5, 6] (fun m i => ∃ k : Nat, k ≤ l.length ∧ i = .int .i64 ((k : Int) + 1) ∧ m = .float .f64 (leastF x (l.take k))) (fun _ i => l.length + 1 - (intOf i).toNat)
  case atStart => exact ⟨0, Nat.zero_le _, rfl, rfl⟩
  case round =>
    obtain ⟨k, hk, rfl, rfl⟩ := hrel
    by_cases hlt : k < l.length
    · have c0 := HL.out k hlt
      have b0 : (k : Int) + 1 < (l.length : Int) + 1 := by omega
      have b1 : 0 ≤ (k : Int) := by omega
      have hy := HW.out _ (List.getElem_mem hlt)
      have hm := leastF_lt x (l.take k) hx (fun y hy => HW.out y (List.mem_of_mem_take hy))
      have hC := fun w => least_cmp l[k] (leastF x (l.take k)) hy hm w
      have hd := cmpL_neg (plc l[k]) (plc (leastF x (l.take k)))
      have hE : leastF x (l.take (k + 1)) = if plc l[k] < plc (leastF x (l.take k)) then l[k] else leastF x (l.take k) := by rw [take_get hlt, leastF_snoc]
      clear hy hm
      generalize leastF x (l.take k) = m at *
      generalize l[k] = y at *
      generalize cmpL (plc y) (plc m) = c at *
      by_cases hp : plc y < plc m
      · rw [decide_eq_true hp] at hd
        rw [if_pos hp] at hE
        have E := Lib.hid hE
        clear hp hE
        go_wp2_with (go_at_call 31; refine (hC _).mono ?_; rintro e w' ⟨rfl, rfl⟩)
        go_round
        case rel => exact ⟨k + 1, by omega, by go_num, by rw [E.out]⟩
        case measure => simp [intOf]; omega
      · rw [decide_eq_false hp] at hd
        rw [if_neg hp] at hE
        have E := Lib.hid hE
        clear hp hE
        go_wp2_with (go_at_call 31; refine (hC _).mono ?_; rintro e w' ⟨rfl, rfl⟩)
        go_round
        case rel => exact ⟨k + 1, by omega, by go_num, by rw [E.out]⟩
        case measure => simp [intOf]; omega
    · have hk' : k = l.length := by omega
      have E := Lib.hid (show leastF x (l.take k) = leastF x l by rw [hk', List.take_length])
      clear hk'
      go_wp2
      go_ret
      exact ⟨ret_fl E.out, rfl⟩
theorem real_Least_nil (p : Option Addr) (cap : Nat) (w : World) : Calls Try.prog 10 #[.slice p 0 cap] w fun e w' => e = .returned (.tuple #[.float .f64 0, .bool false]) ∧ w = w' := by
  go_enter Try.func10, Try.ntmps10
  go_wp2
  go_ret2
  exact ⟨rfl, rfl⟩
def leastL : List Nat → Nat
  | [] => 0
  | x :: l => leastF x l
theorem real_Least {w : World} {b off cap : Nat} {l : List Nat} (h : FlAt w b off cap l) (hw : ∀ x ∈ l, x < 18446744073709551616) : Calls Try.prog 10 #[.slice (some ⟨b, off, none⟩) l.length cap] w fun e w' => e = .returned (.tuple #[.float .f64 (leastL l), .bool true]) ∧ w = w' := by
  obtain ⟨h0, h1, h2, h3⟩ := h
  match l with
  | [] => simp at h0
  | x :: l =>
    have hM := slices_MinFunc b off cap x l (hw x (by simp)) (fun y hy => hw y (by simp [hy])) h1 h2 w (h3 0 (by simp)) (fun k hk => h3 (k + 1) (by simp; omega))
    have hz : (((x :: l).length : Int) == 0) = false := by simp; omega
    rw [show l.length + 1 = (x :: l).length from rfl] at hM
    have E : leastL (x :: l) = leastF x l := rfl
    rw [E]
    clear h0 h1 h2 h3 hw E
    generalize (x :: l).length = n at *
    generalize leastF x l = m at *
    go_enter Try.func10, Try.ntmps10
    go_wp2_with (go_at_call 30; refine hM.mono ?_; rintro e w' ⟨rfl, rfl⟩)
    go_ret2
    exact ⟨rfl, rfl⟩
end Go.Proofs.Ytblmlglkjmilkac
