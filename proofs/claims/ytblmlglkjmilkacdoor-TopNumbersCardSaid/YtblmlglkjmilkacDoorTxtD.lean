/-
  The number of a number's text: num.Read.
-/
import Derived.Test.YtblmlglkjmilkacDoorTxtC
import Derived.Lib.ConvBytes
namespace Go.Proofs.YtblmlglkjmilkacDoor
open Go.RowKit Go.Lib

/-- []byte(s). -/
theorem to_bytes (w : World) (l : List UInt8) : ∃ cap w', (convert 9 100 (.string ⟨l.toArray⟩)).run Tryd.prog w = .ok (.slice (some ⟨w.heap.size, 0, none⟩) l.length cap) w' ∧
    (∀ j (hj : j < l.length), w'.cell? ⟨w.heap.size, j, none⟩ = some (.int .u8 (l[j].toNat : Int))) ∧ Below w.heap.size w w' := by
  refine ⟨_, _, Go.Lib.run_convert_string_bytes w _ _ _ _ Tryd.underlying9 Tryd.underlying100 Tryd.underlying5, fun j hj => ?_, ?_⟩
  · have h := bytesWorld_at_new w 5 ⟨l.toArray⟩
    simp only [World.cell?, h]
    simp [bytesCells]
    rw [Array.getElem?_append_left (by simpa using hj)]
    simp [hj]
  · exact ⟨rfl, rfl, rfl, by simp [bytesWorld, World.freeze, World.alloc, World.drew, -World.alloc_eq, -World.drew_eq], fun j hj => bytesWorld_at_old w _ _ j hj⟩
theorem cell_in {w : World} {b o : Nat} {v : Value} (h : w.cell? ⟨b, o, none⟩ = some v) : b < w.heap.size := by
  apply Classical.byContradiction
  intro hh
  have : w.heap[b]? = none := Array.getElem?_eq_none (by omega)
  simp [World.cell?, this] at h
theorem take_step {l : List UInt8} {k : Nat} (hk : k < l.length) : natOf (l.take (k + 1)) = natOf (l.take k) * 10 + (l[k].toNat - 48) := by
  rw [List.take_succ_eq_append_getElem hk, natOf_snoc]
set_option maxRecDepth 100000 in
set_option maxHeartbeats 1000000 in
theorem num_Read (n : Int) (kn : I64 n) (w : World) : Calls Tryd.prog 25 #[.string ⟨(txt n).toArray⟩] w fun e w' => e = .returned (.tuple #[.int .i64 n, .int .i64 0]) ∧ Below w.heap.size w w' := by
  have hC := fun w => num_cut n kn w
  have hd := dec_digs n.natAbs
  have hn := natOf_dec n.natAbs
  have ht := natOf_take (dec n.natAbs)
  rw [hn] at ht
  have hl := dec_len 19 n.natAbs (by unfold I64 at kn; omega)
  have hfull : natOf ((dec n.natAbs).take (dec n.natAbs).length) = n.natAbs := by rw [List.take_length, hn]
  have TC := fun w => to_bytes w (dec n.natAbs)
  obtain ⟨k0, k1⟩ := kn
  by_cases hs : n < 0
  · rw [decide_eq_true hs] at hC
    generalize (⟨(txt n).toArray⟩ : ByteArray) = s at *
    generalize hU : n.natAbs = U at *
    generalize dec U = l at *
    go_enter Tryd.func25, Tryd.ntmps25
    go_wp2_with (go_at_call 58; refine (hC _).mono ?_; rintro e w1 ⟨rfl, hb⟩; obtain ⟨hc, hf⟩ := bcell hb; have z := hb.size; (try simp at z))
    obtain ⟨cap, wb, e1, c1, B1⟩ := TC w1
    have Bb : Below w.heap.size w wb := Below.trans (by assumption) (B1.mono (by omega))
    clear TC hC
    rw [e1]
    go_wp2_with fail
    go_loop [7, 24] (fun a t => ∃ k : Nat, k ≤ l.length ∧ t = .int .i64 (k : Int) ∧ a = .int .i64 (-(natOf (l.take k) : Int))) (fun _ t => l.length - (RowKit.intOf t).toNat)
    case atStart => exact ⟨0, by omega, rfl, rfl⟩
    case round =>
      obtain ⟨k, hk, rfl, rfl⟩ := hrel
      have tk := ht k
      by_cases hlt : k < l.length
      · have st := take_step hlt
        have tk1 := ht (k + 1)
        have dg := hd l[k] (List.getElem_mem hlt)
        unfold isDig at dg
        have ck := c1 k hlt
        have bl : w1.heap.size < wb.heap.size := cell_in ck
        generalize hA : natOf (l.take k) = A at *
        generalize hD : l[k].toNat = D at *
        have h0 : -9223372036854775808 ≤ -(A : Int) * 10 := by omega
        have h1 : -9223372036854775808 ≤ -(A : Int) * 10 + -((D : Int) - 48) := by omega
        have hM := fun w => num_Mul (-(A : Int)) 10 (by unfold I64; omega) (by unfold I64; omega) w
        rw [(valI_y (okI_y (by omega))).1, (valI_y (okI_y (by omega))).2] at hM
        have hAd := fun w => num_Add (-(A : Int) * 10) (-((D : Int) - 48)) (by unfold I64; omega) (by unfold I64; omega) w
        rw [(valI_y (okI_y (by omega))).1, (valI_y (okI_y (by omega))).2] at hAd
        obtain ⟨R, hR⟩ : ∃ R : Int, -(A : Int) * 10 + -((D : Int) - 48) = R := ⟨_, rfl⟩
        rw [hR] at hAd
        have eR : R = -(natOf (l.take (k + 1)) : Int) := by rw [← hR, st]; omega
        clear hR
        generalize -(A : Int) * 10 = P at *
        have d0 : 48 ≤ (D : Int) := by omega
        have d1 : (D : Int) ≤ 57 := by omega
        have ST := Lib.hid st
        clear st tk tk1 dg ht hd hfull hA hD hn c1
        go_wp2_with (first
          | (go_at_call 59; with_reducible refine (hM _).mono ?_; rintro e w' ⟨rfl, rfl⟩)
          | (go_at_call 32; with_reducible refine (hAd _).mono ?_; rintro e w' ⟨rfl, rfl⟩))
        go_round
        case rel => exact ⟨k + 1, by omega, by simp, by first | rfl | rw [eR]⟩
        case measure => simp [RowKit.intOf]; omega
      · have ek : k = l.length := by omega
        subst ek
        have en : -(natOf (l.take l.length) : Int) = n := by rw [hfull]; omega
        rw [en]
        clear en hfull hd hn ht tk c1 hU
        go_wp2_with fail
        go_ret2
        exact ⟨rfl, by (focus (repeat' (first | exact Below.refl _ _ | refine Below.alloc ?_ ?_ _ | refine Below.setCell ?_ ?_ _ | refine Below.drew ?_ | refine below_drewN ?_ _ | refine Below.trans ?_ (Below.mono (by assumption) ?_) | refine Below.trans ?_ (Below.mono (BW.below _) ?_) | (simp; done) | (simp; omega) | omega)))⟩
  · rw [decide_eq_false hs] at hC
    generalize (⟨(txt n).toArray⟩ : ByteArray) = s at *
    generalize hU : n.natAbs = U at *
    generalize dec U = l at *
    go_enter Tryd.func25, Tryd.ntmps25
    go_wp2_with (go_at_call 58; refine (hC _).mono ?_; rintro e w1 ⟨rfl, hb⟩; obtain ⟨hc, hf⟩ := bcell hb; have z := hb.size; (try simp at z))
    obtain ⟨cap, wb, e1, c1, B1⟩ := TC w1
    have Bb : Below w.heap.size w wb := Below.trans (by assumption) (B1.mono (by omega))
    clear TC hC
    rw [e1]
    go_wp2_with fail
    go_loop [7, 24] (fun a t => ∃ k : Nat, k ≤ l.length ∧ t = .int .i64 (k : Int) ∧ a = .int .i64 ((natOf (l.take k) : Int))) (fun _ t => l.length - (RowKit.intOf t).toNat)
    case atStart => exact ⟨0, by omega, rfl, rfl⟩
    case round =>
      obtain ⟨k, hk, rfl, rfl⟩ := hrel
      have tk := ht k
      by_cases hlt : k < l.length
      · have st := take_step hlt
        have tk1 := ht (k + 1)
        have dg := hd l[k] (List.getElem_mem hlt)
        unfold isDig at dg
        have ck := c1 k hlt
        have bl : w1.heap.size < wb.heap.size := cell_in ck
        generalize hA : natOf (l.take k) = A at *
        generalize hD : l[k].toNat = D at *
        have h0 : (A : Int) * 10 ≤ 9223372036854775807 := by omega
        have h1 : (A : Int) * 10 + ((D : Int) - 48) ≤ 9223372036854775807 := by omega
        have hM := fun w => num_Mul (A : Int) 10 (by unfold I64; omega) (by unfold I64; omega) w
        rw [(valI_y (okI_y (by omega))).1, (valI_y (okI_y (by omega))).2] at hM
        have hAd := fun w => num_Add ((A : Int) * 10) ((D : Int) - 48) (by unfold I64; omega) (by unfold I64; omega) w
        rw [(valI_y (okI_y (by omega))).1, (valI_y (okI_y (by omega))).2] at hAd
        obtain ⟨R, hR⟩ : ∃ R : Int, (A : Int) * 10 + ((D : Int) - 48) = R := ⟨_, rfl⟩
        rw [hR] at hAd
        have eR : R = (natOf (l.take (k + 1)) : Int) := by rw [← hR, st]; omega
        clear hR
        generalize (A : Int) * 10 = P at *
        have d0 : 48 ≤ (D : Int) := by omega
        have d1 : (D : Int) ≤ 57 := by omega
        have ST := Lib.hid st
        clear st tk tk1 dg ht hd hfull hA hD hn c1
        go_wp2_with (first
          | (go_at_call 59; with_reducible refine (hM _).mono ?_; rintro e w' ⟨rfl, rfl⟩)
          | (go_at_call 32; with_reducible refine (hAd _).mono ?_; rintro e w' ⟨rfl, rfl⟩))
        go_round
        case rel => exact ⟨k + 1, by omega, by simp, by first | rfl | rw [eR]⟩
        case measure => simp [RowKit.intOf]; omega
      · have ek : k = l.length := by omega
        subst ek
        have en : (natOf (l.take l.length) : Int) = n := by rw [hfull]; omega
        rw [en]
        clear en hfull hd hn ht tk c1 hU
        go_wp2_with fail
        go_ret2
        exact ⟨rfl, by (focus (repeat' (first | exact Below.refl _ _ | refine Below.alloc ?_ ?_ _ | refine Below.setCell ?_ ?_ _ | refine Below.drew ?_ | refine below_drewN ?_ _ | refine Below.trans ?_ (Below.mono (by assumption) ?_) | refine Below.trans ?_ (Below.mono (BW.below _) ?_) | (simp; done) | (simp; omega) | omega)))⟩
end Go.Proofs.YtblmlglkjmilkacDoor
