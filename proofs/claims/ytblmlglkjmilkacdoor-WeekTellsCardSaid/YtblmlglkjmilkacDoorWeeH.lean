/-
  The document's texts of numbers.
-/
import Derived.Test.YtblmlglkjmilkacDoorWeeF
namespace Go.Proofs.YtblmlglkjmilkacDoor
open Go.RowKit Go.Lib Cal
attribute [local go_sem] BW.cell BW.frozen
theorem bs_app (a b : List UInt8) : bs a ++ bs b = bs (a ++ b) := by
  apply ByteArray.ext
  simp [bs]
theorem bs_size (a : List UInt8) : (bs a).size = a.length := rfl
set_option maxRecDepth 100000 in
theorem ref01_dig (u : Int) (h0 : 0 ≤ u) (h1 : u < 10) (w : World) : Calls Tryd.prog 104 #[.int .u64 u] w fun e w' => e = .returned (.string (bs (dec u.toNat))) ∧ Below w.heap.size w w' := by
  have hu : dec u.toNat = [UInt8.ofNat (48 + u.toNat)] := dec_lt (by omega)
  rw [hu]
  clear hu
  rcases (show u = 0 ∨ u = 1 ∨ u = 2 ∨ u = 3 ∨ u = 4 ∨ u = 5 ∨ u = 6 ∨ u = 7 ∨ u = 8 ∨ u = 9 by omega) with rfl | rfl | rfl | rfl | rfl | rfl | rfl | rfl | rfl | rfl
  all_goals
    clear h0 h1
    go_enter Tryd.func104, Tryd.ntmps104
    go_wp2_with fail
    go_ret
    exact ⟨rfl, by (focus (repeat' (first | exact Below.refl _ _ | refine Below.alloc ?_ ?_ _ | refine Below.setCell ?_ ?_ _ | refine Below.drew ?_ | refine below_drewN ?_ _ | refine Below.trans ?_ (Below.mono (by assumption) ?_) | refine Below.trans ?_ (Below.mono (BW.below _) ?_) | (simp; done) | (simp; omega) | omega)))⟩
set_option maxRecDepth 100000 in
set_option maxHeartbeats 1000000 in
theorem ref01_digits : ∀ (k : Nat) (u : Int), k ≤ 6 → 0 ≤ u → u < 10 ^ (k + 1) → ∀ w : World, Calls Tryd.prog 104 #[.int .u64 u] w fun e w' => e = .returned (.string (bs (dec u.toNat))) ∧ Below w.heap.size w w'
  | 0, u, _, h0, h1, w => ref01_dig u h0 (by omega) w
  | k + 1, u, hk, h0, h1, w => by
    by_cases h : u < 10
    · exact ref01_dig u h0 h w
    · have hx : (10 : Int) ^ (k + 1 + 1) = 10 * 10 ^ (k + 1) := by rw [Int.pow_succ]; omega
      have hy : (10 : Int) ^ (k + 1) ≤ 10000000 := by
        rcases (show k = 0 ∨ k = 1 ∨ k = 2 ∨ k = 3 ∨ k = 4 ∨ k = 5 by omega) with rfl | rfl | rfl | rfl | rfl | rfl <;> decide
      have hu : u < 100000000 := by omega
      have hA := fun w => ref01_digits k (u / 10) (by omega) (by omega) (by omega) w
      have hB := fun w => ref01_dig (u % 10) (by omega) (by omega) w
      have e : bs (dec u.toNat) = bs (dec (u / 10).toNat) ++ bs (dec (u % 10).toNat) := by
        rw [bs_app, dec_ge (by omega), dec_lt (u := (u % 10).toNat) (by omega), show u.toNat / 10 = (u / 10).toNat by omega, show u.toNat % 10 = (u % 10).toNat by omega]
      have z1 : (bs (dec (u / 10).toNat)).size ≤ 20 := by
        have := dec_len 8 (u / 10).toNat (by omega)
        rw [bs_size]
        omega
      have z2 : (bs (dec (u % 10).toNat)).size ≤ 20 := by
        have := dec_len 8 (u % 10).toNat (by omega)
        rw [bs_size]
        omega
      rw [e]
      generalize bs (dec (u / 10).toNat) = A at *
      generalize bs (dec (u % 10).toNat) = B at *
      clear hx hy e h1
      have hA' : ∀ v : Int, v = u / 10 → ∀ w : World, Calls Tryd.prog 104 #[.int .u64 v] w fun e w' => e = .returned (.string (A)) ∧ Below w.heap.size w w' := fun v hv w => by rw [hv]; exact hA w
      have hB' : ∀ v : Int, v = u % 10 → ∀ w : World, Calls Tryd.prog 104 #[.int .u64 v] w fun e w' => e = .returned (.string (B)) ∧ Below w.heap.size w w' := fun v hv w => by rw [hv]; exact hB w
      clear hA hB
      go_enter Tryd.func104, Tryd.ntmps104
      go_wp2_with (go_at_call 104; first
        | (refine (hA' _ (by first | rfl | omega) _).mono ?_; rintro e w1 ⟨rfl, hb1⟩; clear hA')
        | (refine (hB' _ (by first | rfl | omega) _).mono ?_; rintro e w2 ⟨rfl, hb2⟩; clear hB'))
      go_ret
      exact ⟨rfl, hb1.trans (hb2.mono hb1.size)⟩
theorem txt_len {n : Int} (h0 : -100000 ≤ n) (h1 : n ≤ 100000) : 1 ≤ (txt n).length ∧ (txt n).length ≤ 10 := by
  have a := dec_len 7 n.natAbs (by omega)
  have b : 1 ≤ (dec n.natAbs).length := by rw [dec]; split <;> simp
  unfold txt
  rw [List.length_append]
  split <;> simp <;> omega
theorem ref01_Text (n : Int) (h0 : -100000 ≤ n) (h1 : n ≤ 100000) (w : World) : Calls Tryd.prog 54 #[.int .i64 n] w fun e w' => e = .returned (.string (bs (txt n))) ∧ Below w.heap.size w w' := by
  by_cases hn : n < 0
  · have hD : ∀ v : Int, v = -n → ∀ w : World, Calls Tryd.prog 104 #[.int .u64 v] w fun e w' => e = .returned (.string (bs (dec n.natAbs))) ∧ Below w.heap.size w w' := fun v hv w => by
      have := ref01_digits 6 v (by omega) (by omega) (by omega) w
      rwa [show v.toNat = n.natAbs by omega] at this
    have e : bs (txt n) = ⟨#[45]⟩ ++ bs (dec n.natAbs) := by
      unfold txt
      rw [if_pos hn]
      exact (bs_app [45] _).symm
    have z : (bs (dec n.natAbs)).size ≤ 20 := by
      have := dec_len 8 n.natAbs (by omega)
      rw [bs_size]
      omega
    rw [e]
    clear e
    generalize bs (dec n.natAbs) = A at *
    go_enter Tryd.func54, Tryd.ntmps54
    go_wp2_with (go_at_call 104; refine (hD _ (by omega) _).mono ?_; rintro e w1 ⟨rfl, hb1⟩; skip)
    go_ret
    exact ⟨rfl, hb1⟩
  · have hD := fun w => ref01_digits 6 n (by omega) (by omega) (by omega) w
    have e : bs (txt n) = bs (dec n.toNat) := by
      unfold txt
      rw [if_neg hn, show n.natAbs = n.toNat by omega]
      rfl
    rw [e]
    clear e
    generalize bs (dec n.toNat) = A at *
    go_enter Tryd.func54, Tryd.ntmps54
    go_wp2_with (go_at_call 104; refine (hD _).mono ?_; rintro e w1 ⟨rfl, hb1⟩; skip)
    go_ret
    exact ⟨rfl, hb1⟩
theorem wide_21 (n : Int) (A : ByteArray) (hT : ∀ w : World, Calls Tryd.prog 54 #[.int .i64 n] w fun e w' => e = .returned (.string (A)) ∧ Below w.heap.size w w') (hs : A.size = 1) (hz : A.size ≤ 20) (w : World) : Calls Tryd.prog 103 #[.int .i64 n, .int .i64 2] w fun e w' => e = .returned (.string ((⟨#[48]⟩ ++ A))) ∧ Below w.heap.size w w' := by
  go_enter Tryd.func103, Tryd.ntmps103
  go_wp2_with (go_at_call 54; refine (hT _).mono ?_; rintro e w1 ⟨rfl, hb1⟩; skip)
  refine wp_loop_rounds 6 ?_
  rw [rounds_succ]
  go_wp2_with fail
  rw [rounds_succ]
  go_wp2_with fail
  go_ret
  exact ⟨rfl, hb1⟩
theorem wide_20 (n : Int) (A : ByteArray) (hT : ∀ w : World, Calls Tryd.prog 54 #[.int .i64 n] w fun e w' => e = .returned (.string (A)) ∧ Below w.heap.size w w') (hs : 2 ≤ A.size) (hz : A.size ≤ 20) (w : World) : Calls Tryd.prog 103 #[.int .i64 n, .int .i64 2] w fun e w' => e = .returned (.string (A)) ∧ Below w.heap.size w w' := by
  go_enter Tryd.func103, Tryd.ntmps103
  go_wp2_with (go_at_call 54; refine (hT _).mono ?_; rintro e w1 ⟨rfl, hb1⟩; skip)
  refine wp_loop_rounds 6 ?_
  rw [rounds_succ]
  go_wp2_with fail
  go_ret
  exact ⟨rfl, hb1⟩
theorem wide_41 (n : Int) (A : ByteArray) (hT : ∀ w : World, Calls Tryd.prog 54 #[.int .i64 n] w fun e w' => e = .returned (.string (A)) ∧ Below w.heap.size w w') (hs : A.size = 1) (hz : A.size ≤ 20) (w : World) : Calls Tryd.prog 103 #[.int .i64 n, .int .i64 4] w fun e w' => e = .returned (.string ((⟨#[48]⟩ ++ (⟨#[48]⟩ ++ (⟨#[48]⟩ ++ A))))) ∧ Below w.heap.size w w' := by
  go_enter Tryd.func103, Tryd.ntmps103
  go_wp2_with (go_at_call 54; refine (hT _).mono ?_; rintro e w1 ⟨rfl, hb1⟩; skip)
  refine wp_loop_rounds 6 ?_
  rw [rounds_succ]
  go_wp2_with fail
  rw [rounds_succ]
  go_wp2_with fail
  rw [rounds_succ]
  go_wp2_with fail
  rw [rounds_succ]
  go_wp2_with fail
  go_ret
  exact ⟨rfl, hb1⟩
theorem wide_42 (n : Int) (A : ByteArray) (hT : ∀ w : World, Calls Tryd.prog 54 #[.int .i64 n] w fun e w' => e = .returned (.string (A)) ∧ Below w.heap.size w w') (hs : A.size = 2) (hz : A.size ≤ 20) (w : World) : Calls Tryd.prog 103 #[.int .i64 n, .int .i64 4] w fun e w' => e = .returned (.string ((⟨#[48]⟩ ++ (⟨#[48]⟩ ++ A)))) ∧ Below w.heap.size w w' := by
  go_enter Tryd.func103, Tryd.ntmps103
  go_wp2_with (go_at_call 54; refine (hT _).mono ?_; rintro e w1 ⟨rfl, hb1⟩; skip)
  refine wp_loop_rounds 6 ?_
  rw [rounds_succ]
  go_wp2_with fail
  rw [rounds_succ]
  go_wp2_with fail
  rw [rounds_succ]
  go_wp2_with fail
  go_ret
  exact ⟨rfl, hb1⟩
theorem wide_43 (n : Int) (A : ByteArray) (hT : ∀ w : World, Calls Tryd.prog 54 #[.int .i64 n] w fun e w' => e = .returned (.string (A)) ∧ Below w.heap.size w w') (hs : A.size = 3) (hz : A.size ≤ 20) (w : World) : Calls Tryd.prog 103 #[.int .i64 n, .int .i64 4] w fun e w' => e = .returned (.string ((⟨#[48]⟩ ++ A))) ∧ Below w.heap.size w w' := by
  go_enter Tryd.func103, Tryd.ntmps103
  go_wp2_with (go_at_call 54; refine (hT _).mono ?_; rintro e w1 ⟨rfl, hb1⟩; skip)
  refine wp_loop_rounds 6 ?_
  rw [rounds_succ]
  go_wp2_with fail
  rw [rounds_succ]
  go_wp2_with fail
  go_ret
  exact ⟨rfl, hb1⟩
theorem wide_40 (n : Int) (A : ByteArray) (hT : ∀ w : World, Calls Tryd.prog 54 #[.int .i64 n] w fun e w' => e = .returned (.string (A)) ∧ Below w.heap.size w w') (hs : 4 ≤ A.size) (hz : A.size ≤ 20) (w : World) : Calls Tryd.prog 103 #[.int .i64 n, .int .i64 4] w fun e w' => e = .returned (.string (A)) ∧ Below w.heap.size w w' := by
  go_enter Tryd.func103, Tryd.ntmps103
  go_wp2_with (go_at_call 54; refine (hT _).mono ?_; rintro e w1 ⟨rfl, hb1⟩; skip)
  refine wp_loop_rounds 6 ?_
  rw [rounds_succ]
  go_wp2_with fail
  go_ret
  exact ⟨rfl, hb1⟩
theorem ref04_wide (n k : Int) (hk : k = 2 ∨ k = 4) (h0 : -100000 ≤ n) (h1 : n ≤ 100000) (w : World) : Calls Tryd.prog 103 #[.int .i64 n, .int .i64 k] w fun e w' => e = .returned (.string (bs (List.replicate (k.toNat - (txt n).length) 48 ++ txt n))) ∧ Below w.heap.size w w' := by
  have hT := fun w => ref01_Text n h0 h1 w
  obtain ⟨l0, l1⟩ := txt_len h0 h1
  have hz : (bs (txt n)).size ≤ 20 := by rw [bs_size]; omega
  rcases hk with rfl | rfl
  · by_cases c1 : (txt n).length = 1
    · have := wide_21 n _ hT (by rw [bs_size]; exact c1) hz w
      rw [show (bs (List.replicate ((2 : Int).toNat - (txt n).length) 48 ++ txt n)) = ⟨#[48]⟩ ++ bs (txt n) by rw [c1]; exact (bs_app [48] _).symm]
      exact this
    · have := wide_20 n _ hT (by rw [bs_size]; omega) hz w
      rw [show (2 : Int).toNat - (txt n).length = 0 by omega]
      exact this
  · by_cases c1 : (txt n).length = 1
    · have := wide_41 n _ hT (by rw [bs_size]; exact c1) hz w
      rw [show (bs (List.replicate ((4 : Int).toNat - (txt n).length) 48 ++ txt n)) = ⟨#[48]⟩ ++ (⟨#[48]⟩ ++ (⟨#[48]⟩ ++ bs (txt n))) by rw [c1]; exact (bs_app [48] _ ▸ bs_app [48] _ ▸ (bs_app [48] _).symm)]
      exact this
    by_cases c2 : (txt n).length = 2
    · have := wide_42 n _ hT (by rw [bs_size]; exact c2) hz w
      rw [show (bs (List.replicate ((4 : Int).toNat - (txt n).length) 48 ++ txt n)) = ⟨#[48]⟩ ++ (⟨#[48]⟩ ++ bs (txt n)) by rw [c2]; exact (bs_app [48] _ ▸ (bs_app [48] _).symm)]
      exact this
    by_cases c3 : (txt n).length = 3
    · have := wide_43 n _ hT (by rw [bs_size]; exact c3) hz w
      rw [show (bs (List.replicate ((4 : Int).toNat - (txt n).length) 48 ++ txt n)) = ⟨#[48]⟩ ++ bs (txt n) by rw [c3]; exact (bs_app [48] _).symm]
      exact this
    · have := wide_40 n _ hT (by rw [bs_size]; omega) hz w
      rw [show (4 : Int).toNat - (txt n).length = 0 by omega]
      exact this
end Go.Proofs.YtblmlglkjmilkacDoor
