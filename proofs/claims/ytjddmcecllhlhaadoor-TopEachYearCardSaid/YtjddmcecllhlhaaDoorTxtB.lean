/-
  The text of a number: num.Text.
-/
import Derived.Test.YtjddmcecllhlhaaDoorTxtA
import Derived.Test.YtjddmcecllhlhaaDoorMul
namespace Go.Proofs.YtjddmcecllhlhaaDoor
open Go.RowKit Go.Lib

/-- The decimal digits. -/
def dec (u : Nat) : List UInt8 := if u < 10 then [UInt8.ofNat (48 + u)] else dec (u / 10) ++ [UInt8.ofNat (48 + u % 10)]
theorem dec_lt {u : Nat} (h : u < 10) : dec u = [UInt8.ofNat (48 + u)] := by rw [dec, if_pos h]
theorem dec_ge {u : Nat} (h : 10 ≤ u) : dec u = dec (u / 10) ++ [UInt8.ofNat (48 + u % 10)] := by rw [dec, if_neg (by omega)]
theorem dec_len (k : Nat) : ∀ u, u < 10 ^ (k + 1) → (dec u).length ≤ k + 1 := by
  induction k with
  | zero => intro u h; rw [dec_lt (by simpa using h)]; simp
  | succ k ih =>
    intro u h
    by_cases hu : u < 10
    · rw [dec_lt hu]; simp
    · rw [dec_ge (by omega)]
      have := ih (u / 10) (by
        rw [Nat.pow_succ] at h
        omega)
      simp
      omega
/-- The digits down to a power of 10. -/
def upto (u p : Nat) : List UInt8 := if u / p = 0 then [] else dec (u / p)
theorem upto_one (u : Nat) (h : 0 < u) : upto u 1 = dec u := by unfold upto; rw [Nat.div_one, if_neg (by omega)]
/-- The next digit. -/
theorem upto_next {u p : Nat} (hp : 0 < p) (h : p ≤ u) : upto u p = upto u (p * 10) ++ [UInt8.ofNat (48 + u / p % 10)] := by
  have e : u / (p * 10) = u / p / 10 := (Nat.div_div_eq_div_mul u p 10).symm
  have h1 : 0 < u / p := Nat.div_pos h hp
  unfold upto
  rw [e, if_neg (by omega)]
  by_cases hu : u / p < 10
  · rw [if_pos (by omega), dec_lt hu, Nat.mod_eq_of_lt hu]; rfl
  · rw [if_neg (by omega), dec_ge (by omega)]
theorem upto_len {u q : Nat} (hu : u ≤ 9223372036854775808) : (upto u q).length ≤ 20 := by
  unfold upto
  split
  · simp
  · exact dec_len 19 _ (Nat.lt_of_le_of_lt (Nat.div_le_self u q) (by omega))
/-- The text of a number. -/
def txt (n : Int) : List UInt8 := (if n < 0 then [45] else []) ++ dec n.natAbs
theorem digit_byte {k : Nat} (h : k < 10) : ((UInt8.ofNat (48 + k)).toNat : Int) = 48 + k := by
  rw [UInt8.toNat_ofNat']
  omega
set_option maxRecDepth 100000 in
set_option maxHeartbeats 1000000 in
/-- From the sign on. -/
theorem num_Text (n : Int) (kn : I64 n) (w : World) : Calls Tryd.prog 65 #[.int .i64 n] w fun e w' => e = .returned (.string ⟨(txt n).toArray⟩) ∧ Below w.heap.size w w' := by
  have hf := fun w => num_far n kn w
  obtain ⟨k0, k1⟩ := kn
  have hu : n.natAbs ≤ 9223372036854775808 := by omega
  obtain ⟨w1, m1, own1, B1⟩ := make_bytes w 20 (by omega)
  have m1' : (Instr.makeSlice 70 (.int .i64 0) (.int .i64 20)).run Tryd.prog w = .ok (.slice (some ⟨w.heap.size, 0, none⟩) 0 20) w1 := m1
  clear m1
  have z1 := B1.size
  by_cases h : n < 0
  · have et : txt n = [45] ++ dec n.natAbs := by unfold txt; rw [if_pos h]
    rw [et]
    clear et
    generalize n.natAbs = u at *
    go_enter Tryd.func65, Tryd.ntmps65
    go_wp2_with (first
      | (at_builtin; refine app_byte rfl _ _ rfl w.heap.size _ [] rfl (own1.below ?_) _ 45 rfl ?_ (by simp) ?_ ?_; (focus (repeat' (first | exact Below.refl _ _ | refine Below.alloc ?_ ?_ _ | refine Below.setCell ?_ ?_ _ | refine Below.drew ?_ | refine below_drewN ?_ _ | refine Below.trans ?_ (Below.mono (by assumption) ?_) | refine Below.trans ?_ (Below.mono (BW.below _) ?_) | (simp; done) | (simp; omega) | omega))); (simp [Addr.add]); (first | (simp; done) | (simp; omega)); intro v2 w2 own2 hb2; have z2 := hb2.size; (try simp at z2))
      | (go_at_call 99; refine (hf _).mono ?_; rintro e w' ⟨rfl, rfl⟩))
    have own : BytesAt w2 w.heap.size v2 [45] := own2
    have B2 : Below w.heap.size w w2 := by (focus (repeat' (first | exact Below.refl _ _ | refine Below.alloc ?_ ?_ _ | refine Below.setCell ?_ ?_ _ | refine Below.drew ?_ | refine below_drewN ?_ _ | refine Below.trans ?_ (Below.mono (by assumption) ?_) | refine Below.trans ?_ (Below.mono (BW.below _) ?_) | (simp; done) | (simp; omega) | omega)))
    have y2 : w.heap.size ≤ w2.heap.size := B2.size
    clear own2 hb2 z2 own1 B1 m1' z1 hf h
    go_loop [5] (fun t => ∃ j : Nat, (10 ^ j ≤ u ∨ j = 0) ∧ t = .int .u64 ((10 ^ j : Nat) : Int)) (fun t => u + 10 - (intOf t).toNat)
    case atStart => exact ⟨0, .inr rfl, rfl⟩
    case round =>
      obtain ⟨j, hj, rfl⟩ := hrel
      have hp : 0 < 10 ^ j := Nat.pos_of_ne_zero (by simp)
      have hP1 : 10 ^ j ≤ u ∨ 10 ^ j = 1 := hj.imp id (fun h => by rw [h])
      have hs : 10 ^ (j + 1) = 10 ^ j * 10 := Nat.pow_succ 10 j
      have hj0 : ∃ k : Nat, 10 ^ j = 10 ^ k := ⟨j, rfl⟩
      clear hj
      generalize 10 ^ j = P at *
      have p0 : (0 : Int) < P := by omega
      have p1 : (P : Int) ≤ 9223372036854775808 := by omega
      have v0 : (0 : Int) ≤ u := by omega
      have v1 : (u : Int) ≤ 9223372036854775808 := by omega
      have q0 : 0 ≤ (u : Int) / P := Int.ediv_nonneg v0 (by omega)
      have q1 : (u : Int) / P ≤ 9223372036854775808 := Int.le_trans (Int.ediv_le_self _ v0) v1
      by_cases hq : 10 ≤ (u : Int) / P
      · have hm : P * 10 ≤ u := by
          have : 10 ≤ u / P := by exact_mod_cast hq
          rw [Nat.le_div_iff_mul_le (by omega)] at this
          omega
        go_wp2_with fail
        go_round
        case rel => exact ⟨j + 1, .inl (by omega), by rw [hs, Int.natCast_mul]; rfl⟩
        case measure => simp [intOf]; try omega
      · have hz : u / (P * 10) = 0 := by
          rw [Nat.div_eq_zero_iff]
          right
          apply Classical.byContradiction
          intro hh
          apply hq
          have : 10 ≤ u / P := (Nat.le_div_iff_mul_le (by omega)).2 (by omega)
          exact_mod_cast this
        have hPu : P ≤ u ∨ (u = 0 ∧ P = 1) := by omega
        have st : upto u (P * 10) = [] := by unfold upto; rw [if_pos hz]
        have hj' : ∃ k : Nat, P = 10 ^ k := hj0
        have hq' : decide (10 ≤ (u : Int) / P) = false := decide_eq_false hq
        clear hP1 hz hj0
        go_wp2_with fail
        clear hq hq' q0 q1 hs
        go_loopw [3, 5] (fun v t wr => ∃ p : Nat, t = .int .u64 (p : Int) ∧ p ≤ 9223372036854775808 ∧ ((p = 0 ∧ BytesAt wr w.heap.size v ([45] ++ dec u)) ∨ ((∃ k, p = 10 ^ k) ∧ (p ≤ u ∨ (u = 0 ∧ p = 1)) ∧ BytesAt wr w.heap.size v ([45] ++ upto u (p * 10)))) ∧ Below w.heap.size w wr) (fun _ t _ => (intOf t).toNat)
        case atStart => exact ⟨P, rfl, by omega, .inr ⟨hj', hPu, by rw [st]; exact own⟩, B2⟩
        case round =>
          clear own B2 y2 st hj' hPu p0 p1 hp
          obtain ⟨p, rfl, pb, hc, Br⟩ := hrel
          have sz := Br.size
          rcases hc with ⟨rfl, own⟩ | ⟨hk, hpu, own⟩
          · have bk := back_text own
            go_wp2_with fail
            go_ret
            exact ⟨rfl, by (focus (repeat' (first | exact Below.refl _ _ | refine Below.alloc ?_ ?_ _ | refine Below.setCell ?_ ?_ _ | refine Below.drew ?_ | refine below_drewN ?_ _ | refine Below.trans ?_ (Below.mono (by assumption) ?_) | refine Below.trans ?_ (Below.mono (BW.below _) ?_) | (simp; done) | (simp; omega) | omega)))⟩
          · have hp : 0 < p := by
              obtain ⟨k, hk⟩ := hk
              rw [hk]
              exact Nat.pos_of_ne_zero (by simp)
            have HK := Lib.hid hk
            have HU := Lib.hid hpu
            clear hk hpu
            have p0 : (0 : Int) < p := by omega
            have p1 : (p : Int) ≤ 9223372036854775808 := by omega
            have q0 : 0 ≤ (u : Int) / p := Int.ediv_nonneg v0 (by omega)
            have q1 : (u : Int) / p ≤ 9223372036854775808 := Int.le_trans (Int.ediv_le_self _ v0) v1
            have r0 : 0 ≤ (u : Int) / p % 10 := by omega
            have r1 : (u : Int) / p % 10 ≤ 9 := by omega
            have eb : ((UInt8.ofNat (48 + u / p % 10)).toNat : Int) = 48 + (u : Int) / p % 10 := by rw [digit_byte (by omega)]; simp
            have ln := upto_len (q := p * 10) hu
            go_wp2_with (at_builtin; refine app_byte rfl _ _ rfl w.heap.size _ _ rfl (own.below ?_) _ (UInt8.ofNat (48 + u / p % 10)) rfl ?_ ?_ ?_ ?_; (focus (repeat' (first | exact Below.refl _ _ | refine Below.alloc ?_ ?_ _ | refine Below.setCell ?_ ?_ _ | refine Below.drew ?_ | refine below_drewN ?_ _ | refine Below.trans ?_ (Below.mono (by assumption) ?_) | refine Below.trans ?_ (Below.mono (BW.below _) ?_) | (simp; done) | (simp; omega) | omega))); (rw [eb]; simp [Addr.add]); (first | (simp; done) | (simp; omega)); (first | (simp; done) | (simp; omega)); intro v3 w3 own3 hb3; have z3 := hb3.size; (try simp at z3))
            go_roundw
            case rel =>
              refine ⟨p / 10, by simp, by omega, ?_, by (focus (repeat' (first | exact Below.refl _ _ | refine Below.alloc ?_ ?_ _ | refine Below.setCell ?_ ?_ _ | refine Below.drew ?_ | refine below_drewN ?_ _ | refine Below.trans ?_ (Below.mono (by assumption) ?_) | refine Below.trans ?_ (Below.mono (BW.below _) ?_) | (simp; done) | (simp; omega) | omega)))⟩
              have nx : BytesAt w3 w.heap.size v3 ([45] ++ (upto u (p * 10) ++ [UInt8.ofNat (48 + u / p % 10)])) := by rw [← List.append_assoc]; exact own3
              clear own3
              rcases HU.out with h | ⟨rfl, rfl⟩
              · rw [← upto_next hp h] at nx
                obtain ⟨k, hk⟩ := HK.out
                match k, hk with
                | 0, hk =>
                  left
                  have : p = 1 := by rw [hk]
                  subst this
                  rw [upto_one u (by omega)] at nx
                  exact ⟨rfl, nx⟩
                | k + 1, hk =>
                  right
                  have e : p = 10 ^ k * 10 := by rw [hk, Nat.pow_succ]
                  have e2 : p / 10 = 10 ^ k := by rw [e]; exact Nat.mul_div_cancel _ (by omega)
                  refine ⟨⟨k, e2⟩, .inl (by omega), ?_⟩
                  rw [e2, ← e]
                  exact nx
              · left
                refine ⟨rfl, ?_⟩
                have e : upto 0 (1 * 10) ++ [UInt8.ofNat (48 + 0 / 1 % 10)] = dec 0 := by
                  rw [dec_lt (by omega)]
                  rfl
                rw [e] at nx
                exact nx
            case measure => simp [intOf]; omega
  · have et : txt n = [] ++ dec n.natAbs := by unfold txt; rw [if_neg h]
    have h' : 0 ≤ n := by omega
    rw [et]
    clear et
    generalize n.natAbs = u at *
    go_enter Tryd.func65, Tryd.ntmps65
    go_wp2_with (go_at_call 99; refine (hf _).mono ?_; rintro e w' ⟨rfl, rfl⟩)
    have own : BytesAt w1 w.heap.size (.slice (some ⟨w.heap.size, 0, none⟩) 0 20) [] := own1
    have B2 : Below w.heap.size w w1 := B1
    have y2 : w.heap.size ≤ w1.heap.size := B2.size
    clear own1 B1 m1' z1 hf h h'
    go_loop [5] (fun t => ∃ j : Nat, (10 ^ j ≤ u ∨ j = 0) ∧ t = .int .u64 ((10 ^ j : Nat) : Int)) (fun t => u + 10 - (intOf t).toNat)
    case atStart => exact ⟨0, .inr rfl, rfl⟩
    case round =>
      obtain ⟨j, hj, rfl⟩ := hrel
      have hp : 0 < 10 ^ j := Nat.pos_of_ne_zero (by simp)
      have hP1 : 10 ^ j ≤ u ∨ 10 ^ j = 1 := hj.imp id (fun h => by rw [h])
      have hs : 10 ^ (j + 1) = 10 ^ j * 10 := Nat.pow_succ 10 j
      have hj0 : ∃ k : Nat, 10 ^ j = 10 ^ k := ⟨j, rfl⟩
      clear hj
      generalize 10 ^ j = P at *
      have p0 : (0 : Int) < P := by omega
      have p1 : (P : Int) ≤ 9223372036854775808 := by omega
      have v0 : (0 : Int) ≤ u := by omega
      have v1 : (u : Int) ≤ 9223372036854775808 := by omega
      have q0 : 0 ≤ (u : Int) / P := Int.ediv_nonneg v0 (by omega)
      have q1 : (u : Int) / P ≤ 9223372036854775808 := Int.le_trans (Int.ediv_le_self _ v0) v1
      by_cases hq : 10 ≤ (u : Int) / P
      · have hm : P * 10 ≤ u := by
          have : 10 ≤ u / P := by exact_mod_cast hq
          rw [Nat.le_div_iff_mul_le (by omega)] at this
          omega
        go_wp2_with fail
        go_round
        case rel => exact ⟨j + 1, .inl (by omega), by rw [hs, Int.natCast_mul]; rfl⟩
        case measure => simp [intOf]; try omega
      · have hz : u / (P * 10) = 0 := by
          rw [Nat.div_eq_zero_iff]
          right
          apply Classical.byContradiction
          intro hh
          apply hq
          have : 10 ≤ u / P := (Nat.le_div_iff_mul_le (by omega)).2 (by omega)
          exact_mod_cast this
        have hPu : P ≤ u ∨ (u = 0 ∧ P = 1) := by omega
        have st : upto u (P * 10) = [] := by unfold upto; rw [if_pos hz]
        have hj' : ∃ k : Nat, P = 10 ^ k := hj0
        have hq' : decide (10 ≤ (u : Int) / P) = false := decide_eq_false hq
        clear hP1 hz hj0
        go_wp2_with fail
        clear hq hq' q0 q1 hs
        go_loopw [3, 5] (fun v t wr => ∃ p : Nat, t = .int .u64 (p : Int) ∧ p ≤ 9223372036854775808 ∧ ((p = 0 ∧ BytesAt wr w.heap.size v ([] ++ dec u)) ∨ ((∃ k, p = 10 ^ k) ∧ (p ≤ u ∨ (u = 0 ∧ p = 1)) ∧ BytesAt wr w.heap.size v ([] ++ upto u (p * 10)))) ∧ Below w.heap.size w wr) (fun _ t _ => (intOf t).toNat)
        case atStart => exact ⟨P, rfl, by omega, .inr ⟨hj', hPu, by rw [st]; exact own⟩, B2⟩
        case round =>
          clear own B2 y2 st hj' hPu p0 p1 hp
          obtain ⟨p, rfl, pb, hc, Br⟩ := hrel
          have sz := Br.size
          rcases hc with ⟨rfl, own⟩ | ⟨hk, hpu, own⟩
          · have bk := back_text own
            go_wp2_with fail
            go_ret
            exact ⟨rfl, by (focus (repeat' (first | exact Below.refl _ _ | refine Below.alloc ?_ ?_ _ | refine Below.setCell ?_ ?_ _ | refine Below.drew ?_ | refine below_drewN ?_ _ | refine Below.trans ?_ (Below.mono (by assumption) ?_) | refine Below.trans ?_ (Below.mono (BW.below _) ?_) | (simp; done) | (simp; omega) | omega)))⟩
          · have hp : 0 < p := by
              obtain ⟨k, hk⟩ := hk
              rw [hk]
              exact Nat.pos_of_ne_zero (by simp)
            have HK := Lib.hid hk
            have HU := Lib.hid hpu
            clear hk hpu
            have p0 : (0 : Int) < p := by omega
            have p1 : (p : Int) ≤ 9223372036854775808 := by omega
            have q0 : 0 ≤ (u : Int) / p := Int.ediv_nonneg v0 (by omega)
            have q1 : (u : Int) / p ≤ 9223372036854775808 := Int.le_trans (Int.ediv_le_self _ v0) v1
            have r0 : 0 ≤ (u : Int) / p % 10 := by omega
            have r1 : (u : Int) / p % 10 ≤ 9 := by omega
            have eb : ((UInt8.ofNat (48 + u / p % 10)).toNat : Int) = 48 + (u : Int) / p % 10 := by rw [digit_byte (by omega)]; simp
            have ln := upto_len (q := p * 10) hu
            go_wp2_with (at_builtin; refine app_byte rfl _ _ rfl w.heap.size _ _ rfl (own.below ?_) _ (UInt8.ofNat (48 + u / p % 10)) rfl ?_ ?_ ?_ ?_; (focus (repeat' (first | exact Below.refl _ _ | refine Below.alloc ?_ ?_ _ | refine Below.setCell ?_ ?_ _ | refine Below.drew ?_ | refine below_drewN ?_ _ | refine Below.trans ?_ (Below.mono (by assumption) ?_) | refine Below.trans ?_ (Below.mono (BW.below _) ?_) | (simp; done) | (simp; omega) | omega))); (rw [eb]; simp [Addr.add]); (first | (simp; done) | (simp; omega)); (first | (simp; done) | (simp; omega)); intro v3 w3 own3 hb3; have z3 := hb3.size; (try simp at z3))
            go_roundw
            case rel =>
              refine ⟨p / 10, by simp, by omega, ?_, by (focus (repeat' (first | exact Below.refl _ _ | refine Below.alloc ?_ ?_ _ | refine Below.setCell ?_ ?_ _ | refine Below.drew ?_ | refine below_drewN ?_ _ | refine Below.trans ?_ (Below.mono (by assumption) ?_) | refine Below.trans ?_ (Below.mono (BW.below _) ?_) | (simp; done) | (simp; omega) | omega)))⟩
              have nx : BytesAt w3 w.heap.size v3 ([] ++ (upto u (p * 10) ++ [UInt8.ofNat (48 + u / p % 10)])) := by rw [← List.append_assoc]; exact own3
              clear own3
              rcases HU.out with h | ⟨rfl, rfl⟩
              · rw [← upto_next hp h] at nx
                obtain ⟨k, hk⟩ := HK.out
                match k, hk with
                | 0, hk =>
                  left
                  have : p = 1 := by rw [hk]
                  subst this
                  rw [upto_one u (by omega)] at nx
                  exact ⟨rfl, nx⟩
                | k + 1, hk =>
                  right
                  have e : p = 10 ^ k * 10 := by rw [hk, Nat.pow_succ]
                  have e2 : p / 10 = 10 ^ k := by rw [e]; exact Nat.mul_div_cancel _ (by omega)
                  refine ⟨⟨k, e2⟩, .inl (by omega), ?_⟩
                  rw [e2, ← e]
                  exact nx
              · left
                refine ⟨rfl, ?_⟩
                have e : upto 0 (1 * 10) ++ [UInt8.ofNat (48 + 0 / 1 % 10)] = dec 0 := by
                  rw [dec_lt (by omega)]
                  rfl
                rw [e] at nx
                exact nx
            case measure => simp [intOf]; omega
end Go.Proofs.YtjddmcecllhlhaaDoor
