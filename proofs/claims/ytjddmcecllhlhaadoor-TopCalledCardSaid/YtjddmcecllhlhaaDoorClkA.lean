/-
  clock.Read of the text that the law begins with.
-/
import Derived.Test.YtjddmcecllhlhaaDoorAmtD
namespace Go.Proofs.YtjddmcecllhlhaaDoor
open Go.RowKit Go.Lib
theorem trim_c (cs : ByteArray) (r : List UInt8) (h1 : cs.size < 4294967281) (h2 : ∀ (j : Nat) (b : UInt8), cs.data.toList[j]? = some b → b.toNat < 128) (h : Lib.trimRightS [49, 58, 48, 48, 117] cs.data.toList = r) (w : World) : Calls Tryd.prog 58 #[.string ⟨#[49, 58, 48, 48, 117]⟩, .string cs] w fun e w' => e = .returned (.string ⟨r.toArray⟩) ∧ Below w.heap.size w w' := by
  have := Any.strings_TrimRight_laid Tryd.lays162 (by kernel_rfl) ⟨#[49, 58, 48, 48, 117]⟩ cs w (by decide) h1 h2
  rw [show (⟨#[49, 58, 48, 48, 117]⟩ : ByteArray).data.toList = [49, 58, 48, 48, 117] from rfl, h] at this
  exact this
set_option maxRecDepth 100000 in
theorem clock_base1 (w : World) : Calls Tryd.prog 27 #[.string ⟨#[49, 58, 48, 48, 117]⟩] w fun e w' => e = .returned (.tuple #[.string ⟨#[49, 58, 48, 48]⟩, .int .i64 2]) ∧ Below w.heap.size w w' := by
  have h1 := fun w => trim_c ⟨#[119, 87]⟩ [49, 58, 48, 48, 117] (by decide) (ascii_of_all (by decide)) (by decide) w
  have h2 := fun w => trim_c ⟨#[115, 83]⟩ [49, 58, 48, 48, 117] (by decide) (ascii_of_all (by decide)) (by decide) w
  have h3 := fun w => trim_c ⟨#[117, 85, 103, 71, 122, 90]⟩ [49, 58, 48, 48] (by decide) (ascii_of_all (by decide)) (by decide) w
  have i0 : ∀ w : World, (Instr.index 112 (.agg #[.string ⟨#[119, 87]⟩, .string ⟨#[115, 83]⟩, .string ⟨#[117, 85, 103, 71, 122, 90]⟩]) (.int .i64 0)).run Tryd.prog w = .ok (.string ⟨#[119, 87]⟩) w := fun _ => by kernel_rfl
  have i1 : ∀ w : World, (Instr.index 112 (.agg #[.string ⟨#[119, 87]⟩, .string ⟨#[115, 83]⟩, .string ⟨#[117, 85, 103, 71, 122, 90]⟩]) (.int .i64 1)).run Tryd.prog w = .ok (.string ⟨#[115, 83]⟩) w := fun _ => by kernel_rfl
  have i2 : ∀ w : World, (Instr.index 112 (.agg #[.string ⟨#[119, 87]⟩, .string ⟨#[115, 83]⟩, .string ⟨#[117, 85, 103, 71, 122, 90]⟩]) (.int .i64 2)).run Tryd.prog w = .ok (.string ⟨#[117, 85, 103, 71, 122, 90]⟩) w := fun _ => by kernel_rfl
  go_enter Tryd.func27, Tryd.ntmps27
  go_wp2_with fail
  refine wp_loop_rounds 4 ?_
  rw [rounds_succ]
  go_wp2_with (go_at_call 58; refine (h1 _).mono ?_; rintro e w1 ⟨rfl, hb⟩; obtain ⟨hc, hf⟩ := bcell hb; have z := hb.size; (try simp at z))
  rw [rounds_succ]
  go_wp2_with (go_at_call 58; refine (h2 _).mono ?_; rintro e w2 ⟨rfl, hb⟩; obtain ⟨hc, hf⟩ := bcell hb; have z := hb.size; (try simp at z))
  rw [rounds_succ]
  go_wp2_with (go_at_call 58; refine (h3 _).mono ?_; rintro e w3 ⟨rfl, hb⟩; obtain ⟨hc, hf⟩ := bcell hb; have z := hb.size; (try simp at z))
  have hx : (⟨#[49, 58, 48, 48, 117]⟩ : ByteArray).extract 0 4 = ⟨#[49, 58, 48, 48]⟩ := by decide
  rw [hx]
  go_ret2
  exact ⟨rfl, by (focus (repeat' (first | exact Below.refl _ _ | refine Below.alloc ?_ ?_ _ | refine Below.setCell ?_ ?_ _ | refine Below.drew ?_ | refine below_drewN ?_ _ | refine Below.trans ?_ (Below.mono (by assumption) ?_) | refine Below.trans ?_ (Below.mono (BW.below _) ?_) | (simp; done) | (simp; omega) | omega)))⟩
theorem amount_Read_100 (w : World) (K : AKept w) : Calls Tryd.prog 12 #[.string ⟨#[49, 58, 48, 48]⟩] w fun e w' => e = .returned (.tuple #[.int .i64 3600, .int .i64 0]) ∧ Below w.heap.size w w' :=
  amount_Read2 false 49 [] [48, 48] (by intro x hx; simp at hx; subst hx; exact ⟨by decide, by decide⟩) (by decide) (by decide) (by intro x hx; simp at hx; subst hx; exact ⟨by decide, by decide⟩) rfl (by decide) w K
set_option maxRecDepth 100000 in
theorem clock_Right1 (w : World) : Calls Tryd.prog 28 #[.agg #[.int .i64 3600, .int .i64 2]] w fun e w' => e = .returned (.bool true) ∧ Below w.heap.size w w' := by
  go_enter Tryd.func28, Tryd.ntmps28
  go_wp2_with fail
  go_ret
  exact ⟨rfl, by (focus (repeat' (first | exact Below.refl _ _ | refine Below.alloc ?_ ?_ _ | refine Below.setCell ?_ ?_ _ | refine Below.drew ?_ | refine below_drewN ?_ _ | refine Below.trans ?_ (Below.mono (by assumption) ?_) | refine Below.trans ?_ (Below.mono (BW.below _) ?_) | (simp; done) | (simp; omega) | omega)))⟩
set_option maxRecDepth 100000 in
theorem clock_Read1 (w : World) (K : AKept w) : Calls Tryd.prog 10 #[.string ⟨#[49, 58, 48, 48, 117]⟩] w fun e w' => e = .returned (.tuple #[.agg #[.int .i64 3600, .int .i64 2], .int .i64 0]) ∧ Below w.heap.size w w' := by
  have hA := fun w => amount_Read_100 w
  have hB := fun w => clock_base1 w
  have hR := fun w => clock_Right1 w
  have B0 : Below w.heap.size w (w.alloc (.cells #[.int .i64 0, .int .i64 0] 33)) := (Below.refl _ _).alloc (Nat.le_refl _) _
  have x1 : (w.alloc (.cells #[.int .i64 0, .int .i64 0] 33)).cell? ⟨w.heap.size, 0, none⟩ = some (.int .i64 0) := by go_simp
  have x2 : (w.alloc (.cells #[.int .i64 0, .int .i64 0] 33)).cell? ⟨w.heap.size, 1, none⟩ = some (.int .i64 0) := by go_simp
  have x3 : ∀ j, (w.alloc (.cells #[.int .i64 0, .int .i64 0] 33)).frozen? ⟨w.heap.size, j, none⟩ = false := fun j => by go_simp
  have x4 : w.heap.size < (w.alloc (.cells #[.int .i64 0, .int .i64 0] 33)).heap.size := by simp
  have K := K.below B0
  go_enter Tryd.func10, Tryd.ntmps10
  go_wp2_with fail
  generalize w.alloc (.cells #[.int .i64 0, .int .i64 0] 33) = x0 at *
  refine (hB _).mono ?_
  rintro e w1 ⟨rfl, hb⟩
  have K := K.below hb
  have y1 := (hb.cell (p := ⟨w.heap.size, 0, none⟩) x4).trans x1
  have y2 := (hb.cell (p := ⟨w.heap.size, 1, none⟩) x4).trans x2
  have y3 := fun j => (hb.frozen (p := ⟨w.heap.size, j, none⟩) x4).trans (x3 j)
  have y4 : w.heap.size < w1.heap.size := Nat.lt_of_lt_of_le x4 hb.size
  have B1 := B0.trans (hb.mono B0.size)
  clear hb x1 x2 x3 x4
  go_wp2_with fail
  refine (hA _ K).mono ?_
  rintro e w2 ⟨rfl, hb⟩
  have z1 := (hb.cell (p := ⟨w.heap.size, 0, none⟩) y4).trans y1
  have z2 := (hb.cell (p := ⟨w.heap.size, 1, none⟩) y4).trans y2
  have z3 := (hb.frozen (p := ⟨w.heap.size, 0, none⟩) y4).trans (y3 0)
  have z5 := (hb.frozen (p := ⟨w.heap.size, 1, none⟩) y4).trans (y3 1)
  have z4 : w.heap.size < w2.heap.size := Nat.lt_of_lt_of_le y4 hb.size
  have B2 := B1.trans (hb.mono B1.size)
  clear hb y1 y2 y3 y4
  go_wp2_with fail
  refine (hR _).mono ?_
  rintro e w3 ⟨rfl, hb⟩
  have zz : w2.heap.size < (w2.alloc (.cells #[.int .i64 3600, .int .i64 2] 33)).heap.size := by simp
  have za : w.heap.size < (w2.alloc (.cells #[.int .i64 3600, .int .i64 2] 33)).heap.size := by simp; omega
  have v0 : w3.cell? ⟨w2.heap.size, 0, none⟩ = some (.int .i64 3600) := (hb.cell (p := ⟨w2.heap.size, 0, none⟩) zz).trans (by go_simp)
  have v1 : w3.cell? ⟨w2.heap.size, 1, none⟩ = some (.int .i64 2) := (hb.cell (p := ⟨w2.heap.size, 1, none⟩) zz).trans (by go_simp)
  have u0 : w3.cell? ⟨w.heap.size, 0, none⟩ = some (.int .i64 0) := (hb.cell (p := ⟨w.heap.size, 0, none⟩) za).trans (by go_simp)
  have u1 : w3.cell? ⟨w.heap.size, 1, none⟩ = some (.int .i64 0) := (hb.cell (p := ⟨w.heap.size, 1, none⟩) za).trans (by go_simp)
  have g0 : w3.frozen? ⟨w.heap.size, 0, none⟩ = false := (hb.frozen (p := ⟨w.heap.size, 0, none⟩) za).trans (by go_simp)
  have g1 : w3.frozen? ⟨w.heap.size, 1, none⟩ = false := (hb.frozen (p := ⟨w.heap.size, 1, none⟩) za).trans (by go_simp)
  have z6 : w.heap.size < w3.heap.size := Nat.lt_of_lt_of_le za hb.size
  have B3 := (B2.alloc B2.size (.cells #[.int .i64 3600, .int .i64 2] 33)).trans (hb.mono (B2.alloc B2.size _).size)
  clear hb zz za z1 z2 z3 z4 z5
  go_wp2_with fail
  refine bodyPost_ret (v := .tuple #[.agg #[.int .i64 3600, .int .i64 2], .int .i64 0]) (by simp [results, Tryd.results10, go_sem, *]) rfl ⟨rfl, ?_⟩
  exact (B3.setCell (p := ⟨w.heap.size, 0, none⟩) (Nat.le_refl _) _).setCell (p := ⟨w.heap.size, 1, none⟩) (Nat.le_refl _) _
end Go.Proofs.YtjddmcecllhlhaaDoor
