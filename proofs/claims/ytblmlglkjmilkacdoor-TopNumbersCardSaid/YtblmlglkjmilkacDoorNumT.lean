/-
  noontidetop.TopNumbers: the walk.
-/
import Derived.Test.YtblmlglkjmilkacDoorWhlA
namespace Go.Proofs.YtblmlglkjmilkacDoor
open Go.RowKit

theorem new_cell (w : World) (C : Array Value) (t : TypeId) (j : Nat) : (w.alloc (.cells C t)).cell? ⟨w.heap.size, j, none⟩ = C[j]? := World.cell?_alloc_mark w C t _ j
def errV : Array Value := #[.int .i64 0, .int .i64 1, .int .i64 2, .int .i64 3, .int .i64 4, .int .i64 5, .int .i64 6, .int .i64 7, .int .i64 8, .int .i64 9, .int .i64 10, .int .i64 11, .int .i64 12, .int .i64 13, .int .i64 14, .int .i64 15, .int .i64 16, .int .i64 17, .int .i64 18, .int .i64 19, .int .i64 20, .int .i64 21]
def limV : Array Value := #[.int .i64 (-32767), .int .i64 (-32767), .int .i64 32767, .int .i64 32767, .int .i64 (-1096193779200), .int .i64 (-1096193779200), .int .i64 971890963199, .int .i64 971890963199, .int .i64 86400, .int .i64 86400, .int .i64 54000, .int .i64 54000, .int .i64 10800, .int .i64 10800, .int .i64 172800, .int .i64 172800, .int .i64 345600, .int .i64 345600, .int .i64 172800, .int .i64 172800, .int .i64 511, .int .i64 511, .int .i64 1048576, .int .i64 1048576, .int .i64 16, .int .i64 16, .int .i64 64, .int .i64 64, .int .i64 6, .int .i64 6, .int .i64 16, .int .i64 16, .int .i64 4096, .int .i64 4096, .int .i64 1024, .int .i64 1024, .int .i64 256, .int .i64 256, .int .i64 1024, .int .i64 1024, .int .i64 65536, .int .i64 65536, .int .i64 65536, .int .i64 65536, .int .i64 4000, .int .i64 4000, .int .i64 1125899906842624, .int .i64 1125899906842624]
def kinV : Array Value := #[.int .i64 0, .int .i64 1, .int .i64 2, .int .i64 3, .int .i64 0, .int .i64 1, .int .i64 2, .int .i64 0, .int .i64 1, .int .i64 2, .int .i64 1, .int .i64 2, .int .i64 3, .int .i64 1, .int .i64 2, .int .i64 3, .int .i64 1, .int .i64 2, .int .i64 3, .int .i64 4, .int .i64 1, .int .i64 2, .int .i64 3, .int .i64 4, .int .i64 0, .int .i64 1, .int .i64 2, .int .i64 3, .int .i64 4, .int .i64 5, .int .i64 6, .int .i64 7]
theorem errs_are (j : Nat) (h : j < 22) : errV[j]? = some (.int .i64 (j : Int)) := by
  rcases (show j = 0 ∨ j = 1 ∨ j = 2 ∨ j = 3 ∨ j = 4 ∨ j = 5 ∨ j = 6 ∨ j = 7 ∨ j = 8 ∨ j = 9 ∨ j = 10 ∨ j = 11 ∨ j = 12 ∨ j = 13 ∨ j = 14 ∨ j = 15 ∨ j = 16 ∨ j = 17 ∨ j = 18 ∨ j = 19 ∨ j = 20 ∨ j = 21 by omega) with rfl | rfl | rfl | rfl | rfl | rfl | rfl | rfl | rfl | rfl | rfl | rfl | rfl | rfl | rfl | rfl | rfl | rfl | rfl | rfl | rfl | rfl <;> rfl
def limI : List Int := [-32767, 32767, -1096193779200, 971890963199, 86400, 54000, 10800, 172800, 345600, 172800, 511, 1048576, 16, 64, 6, 16, 4096, 1024, 256, 1024, 65536, 65536, 4000, 1125899906842624]
def kinI : List Int := [0, 1, 2, 3, 0, 1, 2, 0, 1, 2, 1, 2, 3, 1, 2, 3, 1, 2, 3, 4, 1, 2, 3, 4, 0, 1, 2, 3, 4, 5, 6, 7]
theorem lims_are (j : Nat) (h : j < 24) : limV[2 * j]? = some (.int .i64 (limI.getD j 0)) ∧ limV[2 * j + 1]? = some (.int .i64 (limI.getD j 0)) := by
  rcases (show j = 0 ∨ j = 1 ∨ j = 2 ∨ j = 3 ∨ j = 4 ∨ j = 5 ∨ j = 6 ∨ j = 7 ∨ j = 8 ∨ j = 9 ∨ j = 10 ∨ j = 11 ∨ j = 12 ∨ j = 13 ∨ j = 14 ∨ j = 15 ∨ j = 16 ∨ j = 17 ∨ j = 18 ∨ j = 19 ∨ j = 20 ∨ j = 21 ∨ j = 22 ∨ j = 23 by omega) with rfl | rfl | rfl | rfl | rfl | rfl | rfl | rfl | rfl | rfl | rfl | rfl | rfl | rfl | rfl | rfl | rfl | rfl | rfl | rfl | rfl | rfl | rfl | rfl <;> exact ⟨rfl, rfl⟩
theorem kins_are (j : Nat) (h : j < 32) : kinV[j]? = some (.int .i64 (kinI.getD j 0)) := by
  rcases (show j = 0 ∨ j = 1 ∨ j = 2 ∨ j = 3 ∨ j = 4 ∨ j = 5 ∨ j = 6 ∨ j = 7 ∨ j = 8 ∨ j = 9 ∨ j = 10 ∨ j = 11 ∨ j = 12 ∨ j = 13 ∨ j = 14 ∨ j = 15 ∨ j = 16 ∨ j = 17 ∨ j = 18 ∨ j = 19 ∨ j = 20 ∨ j = 21 ∨ j = 22 ∨ j = 23 ∨ j = 24 ∨ j = 25 ∨ j = 26 ∨ j = 27 ∨ j = 28 ∨ j = 29 ∨ j = 30 ∨ j = 31 by omega) with rfl | rfl | rfl | rfl | rfl | rfl | rfl | rfl | rfl | rfl | rfl | rfl | rfl | rfl | rfl | rfl | rfl | rfl | rfl | rfl | rfl | rfl | rfl | rfl | rfl | rfl | rfl | rfl | rfl | rfl | rfl | rfl <;> rfl
set_option maxRecDepth 100000 in
set_option maxHeartbeats 4000000 in
theorem TopNumbers_walk (n : Int) (kn : I64 n) (w : World) : Calls Tryd.prog 6 #[.int .i64 n] w fun e w' => e = .returned (.bool true) ∧ Below w.heap.size w w' := by
  have hT := fun w => num_Text n kn w
  have hR := fun w => num_Read n kn w
  have hB := fun w => begins1 w
  generalize (⟨(txt n).toArray⟩ : ByteArray) = s at *
  go_enter Tryd.func6, Tryd.ntmps6
  go_wp2_with fail
  obtain ⟨W1, hW1⟩ : ∃ W1 : World, W1 = w.alloc (.cells #[.int .i64 0, .int .i64 1, .int .i64 2, .int .i64 3, .int .i64 4, .int .i64 5, .int .i64 6, .int .i64 7, .int .i64 8, .int .i64 9, .int .i64 10, .int .i64 11, .int .i64 12, .int .i64 13, .int .i64 14, .int .i64 15, .int .i64 16, .int .i64 17, .int .i64 18, .int .i64 19, .int .i64 20, .int .i64 21] 26) := ⟨_, rfl⟩
  rw [← hW1]
  have c1 : ∀ j : Nat, j < 22 → W1.cell? ⟨w.heap.size, j, none⟩ = some (.int .i64 (j : Int)) := fun j hj => by
    rw [hW1]
    exact (new_cell w _ _ j).trans (errs_are j hj)
  have z1 : w.heap.size < W1.heap.size := by rw [hW1]; simp
  have B1 : Below w.heap.size w W1 := by rw [hW1]; (focus (repeat' (first | exact Below.refl _ _ | refine Below.alloc ?_ ?_ _ | refine Below.setCell ?_ ?_ _ | refine Below.drew ?_ | refine below_drewN ?_ _ | refine Below.trans ?_ (Below.mono (by assumption) ?_) | refine Below.trans ?_ (Below.mono (BW.below _) ?_) | (simp; done) | (simp; omega) | omega)))
  clear hW1
  go_loop [4, 5, 16] (fun _ _ t => ∃ k : Nat, k ≤ 22 ∧ t = .int .i64 (k : Int)) (fun _ _ t => 22 - (RowKit.intOf t).toNat)
  case atStart => exact ⟨0, by omega, rfl⟩
  case round =>
    obtain ⟨k, hk, rfl⟩ := hrel
    by_cases hlt : k < 22
    · have ck := c1 k hlt
      go_wp2_with fail
      go_round
      case rel => exact ⟨k + 1, by omega, by simp⟩
      case measure => simp [RowKit.intOf]; omega
    · obtain rfl : k = 22 := by omega
      clear c1
      go_wp2_with fail
      obtain ⟨W2, hW2⟩ : ∃ W2 : World, W2 = W1.alloc (.cells #[.int .i64 (-32767), .int .i64 (-32767), .int .i64 32767, .int .i64 32767, .int .i64 (-1096193779200), .int .i64 (-1096193779200), .int .i64 971890963199, .int .i64 971890963199, .int .i64 86400, .int .i64 86400, .int .i64 54000, .int .i64 54000, .int .i64 10800, .int .i64 10800, .int .i64 172800, .int .i64 172800, .int .i64 345600, .int .i64 345600, .int .i64 172800, .int .i64 172800, .int .i64 511, .int .i64 511, .int .i64 1048576, .int .i64 1048576, .int .i64 16, .int .i64 16, .int .i64 64, .int .i64 64, .int .i64 6, .int .i64 6, .int .i64 16, .int .i64 16, .int .i64 4096, .int .i64 4096, .int .i64 1024, .int .i64 1024, .int .i64 256, .int .i64 256, .int .i64 1024, .int .i64 1024, .int .i64 65536, .int .i64 65536, .int .i64 65536, .int .i64 65536, .int .i64 4000, .int .i64 4000, .int .i64 1125899906842624, .int .i64 1125899906842624] 2) := ⟨_, rfl⟩
      rw [← hW2]
      have c2 : ∀ i : Nat, i < 48 → i % 2 = 0 → ∃ c : Int, W2.cell? ⟨W1.heap.size, i, none⟩ = some (.int .i64 c) ∧ W2.cell? ⟨W1.heap.size, i + 1, none⟩ = some (.int .i64 c) := fun i hi h2 => by
        obtain ⟨j, rfl⟩ : ∃ j, i = 2 * j := ⟨i / 2, by omega⟩
        rw [hW2]
        exact ⟨_, (new_cell W1 _ _ _).trans (lims_are j (by omega)).1, (new_cell W1 _ _ _).trans (lims_are j (by omega)).2⟩
      have z2 : W1.heap.size < W2.heap.size := by rw [hW2]; simp
      have B2 : Below w.heap.size w W2 := by rw [hW2]; (focus (repeat' (first | exact Below.refl _ _ | refine Below.alloc ?_ ?_ _ | refine Below.setCell ?_ ?_ _ | refine Below.drew ?_ | refine below_drewN ?_ _ | refine Below.trans ?_ (Below.mono (by assumption) ?_) | refine Below.trans ?_ (Below.mono (BW.below _) ?_) | (simp; done) | (simp; omega) | omega)))
      clear hW2
      go_wp2_with fail
      go_loopw [7] (fun t wr => ∃ i : Nat, i ≤ 48 ∧ i % 2 = 0 ∧ t = .int .i64 (i : Int) ∧ (∀ i : Nat, i < 48 → i % 2 = 0 → ∃ c : Int, wr.cell? ⟨W1.heap.size, i, none⟩ = some (.int .i64 c) ∧ wr.cell? ⟨W1.heap.size, i + 1, none⟩ = some (.int .i64 c)) ∧ W1.heap.size < wr.heap.size ∧ Below w.heap.size w wr) (fun t _ => 48 - (RowKit.intOf t).toNat)
      case atStart => exact ⟨0, by omega, rfl, rfl, c2, z2, B2⟩
      case round =>
        clear c2 z2 B2
        obtain ⟨i, hi, h2, rfl, c2, z2, B2⟩ := hrel
        by_cases hlt2 : i < 48
        · obtain ⟨c, e1, e2⟩ := c2 i hlt2 h2
          have j0 : (i : Int) < 48 := by omega
          have j1 : (i : Int) + 1 < 48 := by omega
          have j2 : ((i : Int) + 1).toNat = i + 1 := by omega
          go_wp2_with fail
          go_quiet (fail)
          go_wp2_with fail
          go_roundw
          case rel => exact ⟨i + 2, by omega, by omega, by simp, c2, z2, ⟨B2.os, B2.tape, B2.output, B2.size, B2.block⟩⟩
          case measure => simp [RowKit.intOf]; omega
        · obtain rfl : i = 48 := by omega
          clear c2
          go_wp2_with fail
          obtain ⟨W3, hW3⟩ : ∃ W3 : World, W3 = (wr.alloc (.cells #[.int .i64 0, .int .i64 1, .int .i64 2, .int .i64 3, .int .i64 0, .int .i64 1, .int .i64 2, .int .i64 0, .int .i64 1, .int .i64 2, .int .i64 1, .int .i64 2, .int .i64 3, .int .i64 1, .int .i64 2, .int .i64 3, .int .i64 1, .int .i64 2, .int .i64 3, .int .i64 4, .int .i64 1, .int .i64 2, .int .i64 3, .int .i64 4, .int .i64 0, .int .i64 1, .int .i64 2, .int .i64 3, .int .i64 4, .int .i64 5, .int .i64 6, .int .i64 7] 3)).alloc (.cells #[.int .i64 0, .int .i64 1, .int .i64 2, .int .i64 3, .int .i64 0, .int .i64 1, .int .i64 2, .int .i64 0, .int .i64 1, .int .i64 2, .int .i64 1, .int .i64 2, .int .i64 3, .int .i64 1, .int .i64 2, .int .i64 3, .int .i64 1, .int .i64 2, .int .i64 3, .int .i64 4, .int .i64 1, .int .i64 2, .int .i64 3, .int .i64 4, .int .i64 0, .int .i64 1, .int .i64 2, .int .i64 3, .int .i64 4, .int .i64 5, .int .i64 6, .int .i64 7] 3) := ⟨_, rfl⟩
          rw [← hW3]
          have c3 : ∀ j : Nat, j < 32 → W3.cell? ⟨wr.heap.size + 1, j, none⟩ = some (.int .i64 (kinI.getD j 0)) ∧ W3.cell? ⟨wr.heap.size, j, none⟩ = some (.int .i64 (kinI.getD j 0)) := fun j hj => by
            have h1 := new_cell (wr.alloc (.cells #[.int .i64 0, .int .i64 1, .int .i64 2, .int .i64 3, .int .i64 0, .int .i64 1, .int .i64 2, .int .i64 0, .int .i64 1, .int .i64 2, .int .i64 1, .int .i64 2, .int .i64 3, .int .i64 1, .int .i64 2, .int .i64 3, .int .i64 1, .int .i64 2, .int .i64 3, .int .i64 4, .int .i64 1, .int .i64 2, .int .i64 3, .int .i64 4, .int .i64 0, .int .i64 1, .int .i64 2, .int .i64 3, .int .i64 4, .int .i64 5, .int .i64 6, .int .i64 7] 3)) #[.int .i64 0, .int .i64 1, .int .i64 2, .int .i64 3, .int .i64 0, .int .i64 1, .int .i64 2, .int .i64 0, .int .i64 1, .int .i64 2, .int .i64 1, .int .i64 2, .int .i64 3, .int .i64 1, .int .i64 2, .int .i64 3, .int .i64 1, .int .i64 2, .int .i64 3, .int .i64 4, .int .i64 1, .int .i64 2, .int .i64 3, .int .i64 4, .int .i64 0, .int .i64 1, .int .i64 2, .int .i64 3, .int .i64 4, .int .i64 5, .int .i64 6, .int .i64 7] 3 j
            have h2 := new_cell wr #[.int .i64 0, .int .i64 1, .int .i64 2, .int .i64 3, .int .i64 0, .int .i64 1, .int .i64 2, .int .i64 0, .int .i64 1, .int .i64 2, .int .i64 1, .int .i64 2, .int .i64 3, .int .i64 1, .int .i64 2, .int .i64 3, .int .i64 1, .int .i64 2, .int .i64 3, .int .i64 4, .int .i64 1, .int .i64 2, .int .i64 3, .int .i64 4, .int .i64 0, .int .i64 1, .int .i64 2, .int .i64 3, .int .i64 4, .int .i64 5, .int .i64 6, .int .i64 7] 3 j
            have h3 := (Below.alloc (Below.refl (wr.alloc (.cells #[.int .i64 0, .int .i64 1, .int .i64 2, .int .i64 3, .int .i64 0, .int .i64 1, .int .i64 2, .int .i64 0, .int .i64 1, .int .i64 2, .int .i64 1, .int .i64 2, .int .i64 3, .int .i64 1, .int .i64 2, .int .i64 3, .int .i64 1, .int .i64 2, .int .i64 3, .int .i64 4, .int .i64 1, .int .i64 2, .int .i64 3, .int .i64 4, .int .i64 0, .int .i64 1, .int .i64 2, .int .i64 3, .int .i64 4, .int .i64 5, .int .i64 6, .int .i64 7] 3)).heap.size _) (Nat.le_refl _) (.cells #[.int .i64 0, .int .i64 1, .int .i64 2, .int .i64 3, .int .i64 0, .int .i64 1, .int .i64 2, .int .i64 0, .int .i64 1, .int .i64 2, .int .i64 1, .int .i64 2, .int .i64 3, .int .i64 1, .int .i64 2, .int .i64 3, .int .i64 1, .int .i64 2, .int .i64 3, .int .i64 4, .int .i64 1, .int .i64 2, .int .i64 3, .int .i64 4, .int .i64 0, .int .i64 1, .int .i64 2, .int .i64 3, .int .i64 4, .int .i64 5, .int .i64 6, .int .i64 7] 3)).cell (p := ⟨wr.heap.size, j, none⟩) (by simp)
            have hz : (wr.alloc (.cells #[.int .i64 0, .int .i64 1, .int .i64 2, .int .i64 3, .int .i64 0, .int .i64 1, .int .i64 2, .int .i64 0, .int .i64 1, .int .i64 2, .int .i64 1, .int .i64 2, .int .i64 3, .int .i64 1, .int .i64 2, .int .i64 3, .int .i64 1, .int .i64 2, .int .i64 3, .int .i64 4, .int .i64 1, .int .i64 2, .int .i64 3, .int .i64 4, .int .i64 0, .int .i64 1, .int .i64 2, .int .i64 3, .int .i64 4, .int .i64 5, .int .i64 6, .int .i64 7] 3)).heap.size = wr.heap.size + 1 := by simp
            rw [hz] at h1
            rw [hW3]
            exact ⟨h1.trans (kins_are j hj), h3.trans (h2.trans (kins_are j hj))⟩
          have B3 : Below w.heap.size w W3 := by rw [hW3]; (focus (repeat' (first | exact Below.refl _ _ | refine Below.alloc ?_ ?_ _ | refine Below.setCell ?_ ?_ _ | refine Below.drew ?_ | refine below_drewN ?_ _ | refine Below.trans ?_ (Below.mono (by assumption) ?_) | refine Below.trans ?_ (Below.mono (BW.below _) ?_) | (simp; done) | (simp; omega) | omega)))
          have y3 := B3.size
          clear hW3
          go_loop [9, 10, 45] (fun _ _ t => ∃ k : Nat, k ≤ 32 ∧ t = .int .i64 (k : Int)) (fun _ _ t => 32 - (RowKit.intOf t).toNat)
          case atStart => exact ⟨0, by omega, rfl⟩
          case round =>
            obtain ⟨k, hk, rfl⟩ := hrel
            by_cases hlt3 : k < 32
            · obtain ⟨e1, e2⟩ := c3 k hlt3
              clear c3
              generalize kinI.getD k 0 = c at *
              have j0 : (k : Int) < 32 := by omega
              go_wp2_with fail
              go_round
              case rel => exact ⟨k + 1, by omega, by simp⟩
              case measure => simp [RowKit.intOf]; omega
            · obtain rfl : k = 32 := by omega
              clear c3
              go_wp2_with (first
                | (go_at_call 26; refine (hT _).mono ?_; rintro e w4 ⟨rfl, hb⟩; obtain ⟨hc, hf⟩ := bcell hb; have z := hb.size; (try simp at z))
                | (go_at_call 25; refine (hR _).mono ?_; rintro e w5 ⟨rfl, hb⟩; obtain ⟨hc, hf⟩ := bcell hb; have z := hb.size; (try simp at z))
                | (go_at_call 27; refine (hB _).mono ?_; rintro e w6 ⟨rfl, hb⟩; obtain ⟨hc, hf⟩ := bcell hb; have z := hb.size; (try simp at z)))
              go_ret
              exact ⟨rfl, by (focus (repeat' (first | exact Below.refl _ _ | refine Below.alloc ?_ ?_ _ | refine Below.setCell ?_ ?_ _ | refine Below.drew ?_ | refine below_drewN ?_ _ | refine Below.trans ?_ (Below.mono (by assumption) ?_) | refine Below.trans ?_ (Below.mono (BW.below _) ?_) | (simp; done) | (simp; omega) | omega)))⟩
end Go.Proofs.YtblmlglkjmilkacDoor
