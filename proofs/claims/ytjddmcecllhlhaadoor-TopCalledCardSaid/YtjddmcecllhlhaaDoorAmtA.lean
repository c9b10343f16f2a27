/-
  A part of an amount's text, read.
-/
import Derived.Test.YtjddmcecllhlhaaDoorTxtA
import Derived.Lib.ConvBytes
namespace Go.Proofs.YtjddmcecllhlhaaDoor
open Go.RowKit Go.Lib
def isDig (b : UInt8) : Prop := 48 ≤ b.toNat ∧ b.toNat ≤ 57
theorem dig_of {k : Nat} (h : k < 10) : isDig (UInt8.ofNat (48 + k)) := by
  unfold isDig
  rw [UInt8.toNat_ofNat']
  omega
def natOf (l : List UInt8) : Nat := l.foldl (fun a c => a * 10 + (c.toNat - 48)) 0
theorem natOf_snoc (l : List UInt8) (c : UInt8) : natOf (l ++ [c]) = natOf l * 10 + (c.toNat - 48) := by simp [natOf]
theorem take_step {l : List UInt8} {k : Nat} (hk : k < l.length) : natOf (l.take (k + 1)) = natOf (l.take k) * 10 + (l[k].toNat - 48) := by
  rw [List.take_succ_eq_append_getElem hk, natOf_snoc]
theorem natOf_bd {l : List UInt8} (hd : ∀ b ∈ l, isDig b) : ∀ k, k ≤ l.length → k ≤ 3 → natOf (l.take k) ≤ 999 ∧ (k = 0 → natOf (l.take k) = 0) ∧ (k = 1 → natOf (l.take k) ≤ 9) ∧ (k = 2 → natOf (l.take k) ≤ 99) := by
  have g : ∀ k (hk : k < l.length), l[k].toNat - 48 ≤ 9 := fun k hk => by
    have := hd l[k] (List.getElem_mem hk)
    unfold isDig at this
    omega
  have s0 : natOf (l.take 0) = 0 := rfl
  intro k hk h3
  rcases (show k = 0 ∨ k = 1 ∨ k = 2 ∨ k = 3 by omega) with rfl | rfl | rfl | rfl
  · omega
  · have e1 : natOf (l.take 1) = natOf (l.take 0) * 10 + _ := take_step (l := l) (k := 0) (by omega)
    have := g 0 (by omega)
    rw [s0] at e1
    omega
  · have e1 : natOf (l.take 1) = natOf (l.take 0) * 10 + _ := take_step (l := l) (k := 0) (by omega)
    have e2 : natOf (l.take 2) = natOf (l.take 1) * 10 + _ := take_step (l := l) (k := 1) (by omega)
    have := g 0 (by omega)
    have := g 1 (by omega)
    rw [s0] at e1
    omega
  · have e1 : natOf (l.take 1) = natOf (l.take 0) * 10 + _ := take_step (l := l) (k := 0) (by omega)
    have e2 : natOf (l.take 2) = natOf (l.take 1) * 10 + _ := take_step (l := l) (k := 1) (by omega)
    have e3 : natOf (l.take 3) = natOf (l.take 2) * 10 + _ := take_step (l := l) (k := 2) (by omega)
    have := g 0 (by omega)
    have := g 1 (by omega)
    have := g 2 (by omega)
    rw [s0] at e1
    omega
/-- []byte(s). -/
theorem to_bytes (w : World) (l : List UInt8) : ∃ cap w', (convert 9 70 (.string ⟨l.toArray⟩)).run Tryd.prog w = .ok (.slice (some ⟨w.heap.size, 0, none⟩) l.length cap) w' ∧
    (∀ j (hj : j < l.length), w'.cell? ⟨w.heap.size, j, none⟩ = some (.int .u8 (l[j].toNat : Int))) ∧ Below w.heap.size w w' := by
  refine ⟨_, _, Go.Lib.run_convert_string_bytes w _ _ _ _ Tryd.underlying9 Tryd.underlying70 Tryd.underlying5, fun j hj => ?_, ?_⟩
  · have h := bytesWorld_at_new w 5 ⟨l.toArray⟩
    simp only [World.cell?, h]
    simp [bytesCells]
    rw [Array.getElem?_append_left (by simpa using hj)]
    simp [hj]
  · exact ⟨rfl, rfl, rfl, by simp [bytesWorld, World.freeze, World.alloc, World.drew, -World.alloc_eq, -World.drew_eq], fun j hj => bytesWorld_at_old w _ _ j hj⟩
theorem cell_in {w : World} {b o : Nat} {v : Value} (h : w.cell? ⟨b, o, none⟩ = some v) : b < w.heap.size := by
  apply Classical.byContradiction
  intro hh
  have : w.heap[b]? = none := Array.getElem?_eq_none (by omega)
  simp [World.cell?, this] at h
abbrev prt (a b c : Int) : Value := .agg #[.int .i64 a, .int .i64 b, .int .i64 c]
set_option maxRecDepth 100000 in
set_option maxHeartbeats 1000000 in
theorem part_read (a b c : Int) (l : List UInt8) (hd : ∀ x ∈ l, isDig x) (h0 : a ≤ l.length) (h1 : (l.length : Int) ≤ b) (h3 : l.length ≤ 3) (w : World) : Calls Tryd.prog 34 #[prt a b c, .string ⟨l.toArray⟩] w fun e w' => e = .returned (.tuple #[.int .i64 (natOf l), .bool true]) ∧ Below w.heap.size w w' := by
  have TC := fun w => to_bytes w l
  have hsz : (⟨l.toArray⟩ : ByteArray).size = l.length := rfl
  have hb := fun k hk => natOf_bd hd k hk (by omega)
  have hfull : natOf (l.take l.length) = natOf l := by rw [List.take_length]
  have g0 : ¬ (l.length : Int) < a := by omega
  have g1 : ¬ b < (l.length : Int) := by omega
  generalize (⟨l.toArray⟩ : ByteArray) = s at *
  go_enter Tryd.func34, Tryd.ntmps34
  go_wp2_with fail
  obtain ⟨cap, wb, e1, c1, B1⟩ := TC (w.alloc (.cells #[.int .i64 a, .int .i64 b, .int .i64 c] 89))
  have Bb : Below w.heap.size w wb := ((Below.refl _ w).alloc (Nat.le_refl _) _).trans (B1.mono (by simp))
  have zb : w.heap.size < wb.heap.size := Nat.lt_of_lt_of_le (by simp) B1.size
  simp only [World.size_alloc] at e1 c1
  clear TC B1
  rw [e1]
  go_wp2_with fail
  go_loop [6, 8, 24] (fun n _ t => ∃ k : Nat, k ≤ l.length ∧ t = .int .i64 (k : Int) ∧ n = .int .i64 (natOf (l.take k) : Int)) (fun _ _ t => l.length - (RowKit.intOf t).toNat)
  case atStart => exact ⟨0, by omega, rfl, rfl⟩
  case round =>
    obtain ⟨k, hk, rfl, rfl⟩ := hrel
    have tk := (hb k hk).1
    by_cases hlt : k < l.length
    · have st := take_step hlt
      have dg := hd l[k] (List.getElem_mem hlt)
      unfold isDig at dg
      have ck := c1 k hlt
      have bl : (k : Int) < (l.length : Int) := by omega
      have b0 : 0 ≤ (k : Int) := by omega
      have zz := cell_in ck
      generalize hA : natOf (l.take k) = A at *
      generalize hD : l[k].toNat = D at *
      obtain ⟨R, hR⟩ : ∃ R : Int, (A : Int) * 10 + ((D : Int) - 48) = R := ⟨_, rfl⟩
      have eR : R = (natOf (l.take (k + 1)) : Int) := by rw [← hR, st]; omega
      have d0 : 48 ≤ (D : Int) := by omega
      have d1 : (D : Int) ≤ 57 := by omega
      have a0 : (A : Int) ≤ 999 := by omega
      have a1 : 0 ≤ (A : Int) := by omega
      have ST := Lib.hid st
      have HR := Lib.hid hR
      clear st hR tk dg hfull hA hD c1 hb hd
      go_wp2_with fail
      go_round
      case rel => exact ⟨k + 1, by omega, by simp, by rw [← eR, ← HR.out]⟩
      case measure => simp [RowKit.intOf]; omega
    · have ek : k = l.length := by omega
      subst ek
      rw [hfull]
      clear hfull hb hd c1 tk
      go_wp2_with fail
      go_ret2
      exact ⟨rfl, Bb⟩
end Go.Proofs.YtjddmcecllhlhaaDoor
