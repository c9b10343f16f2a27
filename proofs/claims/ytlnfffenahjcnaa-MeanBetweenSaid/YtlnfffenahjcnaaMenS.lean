/-
  The reference's Same, of two lists that read alike.
-/
import Derived.Test.YtlnfffenahjcnaaMenM
namespace Go.Proofs.Ytlnfffenahjcnaa
open Go.RowKit
attribute [local go_sem] BW.cell BW.frozen
set_option maxRecDepth 100000 in
set_option maxHeartbeats 2000000 in
theorem ref12_Same {w : World} {p q : Option Addr} {l : List Pt} (c1 c2 : Nat) (h1 : PtS w p l) (h2 : PtS w q l) (hl : l.length ≤ 6000000000) : Calls Try.prog 17 #[.slice p l.length c1, .slice q l.length c2] w fun e w' => e = .returned (.bool true) ∧ Below w.heap.size w w' := by
  rcases h1 with rfl | ⟨b1, o1, rfl, hb1, hc1⟩
  · go_enter Try.func17, Try.ntmps17
    go_wp2
    refine wp_loop_rounds 1 ?_
    rw [rounds_succ]
    go_wp2
    go_ret
    exact ⟨rfl, Below.refl _ _⟩
  rcases h2 with rfl | ⟨b2, o2, rfl, hb2, hc2⟩
  · go_enter Try.func17, Try.ntmps17
    go_wp2
    refine wp_loop_rounds 1 ?_
    rw [rounds_succ]
    go_wp2
    go_ret
    exact ⟨rfl, Below.refl _ _⟩
  have H1 := Lib.hid hc1
  have H2 := Lib.hid hc2
  clear hc1 hc2
  go_enter Try.func17, Try.ntmps17
  go_wp2_with fail
  go_loopw [13, 5] (fun i _ wr => ∃ k : Nat, k ≤ l.length ∧ i = .int .i64 k ∧ Below w.heap.size w wr) (fun i _ _ => l.length - (intOf i).toNat)
  case atStart => exact ⟨0, Nat.zero_le _, rfl, Below.refl _ _⟩
  case round =>
    obtain ⟨k, hk, rfl, hB⟩ := hrel
    have hsz := hB.size
    by_cases hlt : k < l.length
    · have k0 : (k : Int) < (l.length : Int) := by omega
      have k1 : 0 ≤ (k : Int) := by omega
      obtain ⟨c0, c1, c2⟩ := H1.out k hlt
      obtain ⟨e0, e1, e2⟩ := H2.out k hlt
      have d0 := (hB.cell (p := ⟨b1, o1 + k * 3, none⟩) hb1).trans c0
      have d1 := (hB.cell (p := ⟨b1, o1 + k * 3 + 1, none⟩) hb1).trans c1
      have d2 := (hB.cell (p := ⟨b1, o1 + k * 3 + 2, none⟩) hb1).trans c2
      have f0 := (hB.cell (p := ⟨b2, o2 + k * 3, none⟩) hb2).trans e0
      have f1 := (hB.cell (p := ⟨b2, o2 + k * 3 + 1, none⟩) hb2).trans e1
      have f2 := (hB.cell (p := ⟨b2, o2 + k * 3 + 2, none⟩) hb2).trans e2
      have z1 : b1 < wr.heap.size := by omega
      have z2 : b2 < wr.heap.size := by omega
      clear c0 c1 c2 e0 e1 e2
      generalize pt l k = P at *
      obtain ⟨f, t, v⟩ := P
      simp only at *
      go_wp2_with fail
      refine wp_region_bw (by kernel_rfl) (by kernel_rfl) ?_; (repeat (go_big_quiet_step (fail))); refine wpQuiet_nil ?_; intro _ hw'; obtain ⟨xq, hw''⟩ := hw'; subst hw''
      have BZ : Below w.heap.size w xq.val := hB.trans (xq.below.mono hB.size)
      go_wp2_with fail
      go_roundw
      case rel => exact ⟨k + 1, by omega, by go_num, BZ⟩
      case measure => simp [intOf]; omega
    · obtain rfl : k = l.length := by omega
      clear H1 H2
      go_wp2_with fail
      go_ret
      exact ⟨rfl, hB⟩
end Go.Proofs.Ytlnfffenahjcnaa
