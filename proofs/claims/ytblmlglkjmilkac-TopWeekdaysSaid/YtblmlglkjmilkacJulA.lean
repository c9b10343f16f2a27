/-
  Contracts of package julian and of the reference.
-/
import Derived.Test.YtblmlglkjmilkacFop
namespace Go.Proofs.Ytblmlglkjmilkac
open Go.RowKit Flo

/-- What a class of numbers is told as, as a whole one. -/
def whNE (X : Option Nat) (m : Int) : Int := match X with | some b => whE b m | none => if modB m = true then 18 else 4
def whNV (X : Option Nat) (m : Int) : Int := match X with | some b => whV b m | none => 0
theorem wh_nz (b : Nat) (m : Int) : whE b m = whNE (nz b) m ∧ whV b m = whNV (nz b) m := by
  cases h : isnan b
  · rw [nz_some h]; exact ⟨rfl, rfl⟩
  · rw [nz_none h]
    have e : whE b m = if modB m = true then 18 else 4 := by simp [whE, h]
    refine ⟨e, ?_⟩
    show whV b m = 0
    unfold whV
    rw [e]
    cases modB m <;> simp
def secX (X : Option Nat) : Option Nat := fop .mul (fop .sub X (some 4702495533095190528)) (some 4680673776000565248)
def ofX (t : Int) : Option Nat := fop .add (fop .quo (some (floatOfInt .f64 t)) (some 4680673776000565248)) (some 4702495533095190528)
def modX (X : Option Nat) : Option Nat := fop .sub X (some 4702408373176369152)
theorem int_nz (n : Int) : nz (floatOfInt .f64 n) = some (floatOfInt .f64 n) := nz_some (int_rnd n).nan
/-- Two numbers that a call hands back. -/
def GF2 (w : World) (X Y : Option Nat) (e : Ending) (w' : World) : Prop := ∃ x y, e = .returned (.tuple #[.float .f64 x, .float .f64 y]) ∧ Hid (x < 18446744073709551616 ∧ nz x = X) ∧ Hid (y < 18446744073709551616 ∧ nz y = Y) ∧ Below w.heap.size w w'
theorem rdV_1 (b : Nat) : rdV b 1 = rdW .down b ∧ rdE 1 = 0 := ⟨rfl, rfl⟩

theorem julian_Of (t : Int) (w : World) : Calls Try.prog 13 #[.int .i64 t] w (GF w (ofX t)) := by
  obtain ⟨q, k1, h1, l1, z1⟩ := run_fop (P := Try.prog) .quo (by simp) 22 (floatOfInt .f64 t) 4680673776000565248 w
  obtain ⟨s, k2, h2, l2, z2⟩ := run_fop (P := Try.prog) .add (by simp) 22 q 4702495533095190528 (w.drewN k1)
  have E := Lib.hid (show s < 18446744073709551616 ∧ nz s = ofX t from ⟨l2, by rw [z2, z1, int_nz]; rfl⟩)
  clear l1 z1 l2 z2
  go_enter Try.func13, Try.ntmps13
  go_wp2_with (go_at_call 27; refine (real_Of t _).mono ?_; rintro e w' ⟨rfl, rfl⟩)
  go_ret
  exact ⟨s, rfl, E, by (focus (repeat' (first | exact Below.refl _ _ | refine Below.alloc ?_ ?_ _ | refine Below.setCell ?_ ?_ _ | refine Below.drew ?_ | refine below_drewN ?_ _ | refine Below.trans ?_ (Below.mono (by assumption) ?_) | refine Below.trans ?_ (Below.mono (BW.below _) ?_) | (simp; done) | (simp; omega) | omega)))⟩
theorem julian_Secs (b : Nat) (m : Int) (w : World) : Calls Try.prog 15 #[.float .f64 b, .int .i64 m] w fun e w' => e = .returned (.tuple #[.int .i64 (whNV (secX (nz b)) m), .int .i64 (whNE (secX (nz b)) m)]) ∧ Below w.heap.size w w' := by
  obtain ⟨q, k1, h1, l1, z1⟩ := run_fop (P := Try.prog) .sub (by simp) 22 b 4702495533095190528 w
  obtain ⟨s, k2, h2, l2, z2⟩ := run_fop (P := Try.prog) .mul (by simp) 22 q 4680673776000565248 (w.drewN k1)
  have hW := fun w => real_Whole s m l2 w
  rw [(wh_nz s m).1, (wh_nz s m).2, show nz s = secX (nz b) by rw [z2, z1]; rfl] at hW
  clear l1 z1 l2 z2
  generalize whNV (secX (nz b)) m = V at *
  generalize whNE (secX (nz b)) m = E at *
  go_enter Try.func15, Try.ntmps15
  go_wp2_with (go_at_call 12; refine (hW _).mono ?_; rintro e w1 ⟨rfl, hb⟩)
  go_ret2
  exact ⟨rfl, by (focus (repeat' (first | exact Below.refl _ _ | refine Below.alloc ?_ ?_ _ | refine Below.setCell ?_ ?_ _ | refine Below.drew ?_ | refine below_drewN ?_ _ | refine Below.trans ?_ (Below.mono (by assumption) ?_) | refine Below.trans ?_ (Below.mono (BW.below _) ?_) | (simp; done) | (simp; omega) | omega)))⟩
theorem julian_Parts (b : Nat) (hb : b < 18446744073709551616) (w : World) : Calls Try.prog 14 #[.float .f64 b] w (GF2 w (rdW .down b) (fop .sub (nz b) (rdW .down b))) := by
  have hR := fun w => real_Round b 1 hb w
  rw [(rdV_1 b).1, (rdV_1 b).2] at hR
  clear hb
  go_enter Try.func14, Try.ntmps14
  go_wp2_with (go_at_call 11; refine (hR _).mono ?_; rintro e w1 ⟨y, rfl, HY, hbw⟩; obtain ⟨q, k1, h1, l1, z1⟩ := run_fop (P := Try.prog) .sub (by simp) 22 b y w1; have E := Lib.hid (show q < 18446744073709551616 ∧ nz q = fop .sub (nz b) (rdW .down b) from ⟨l1, by rw [z1, HY.out.2]⟩); clear l1 z1)
  go_ret2
  exact ⟨y, q, rfl, HY, E, by (focus (repeat' (first | exact Below.refl _ _ | refine Below.alloc ?_ ?_ _ | refine Below.setCell ?_ ?_ _ | refine Below.drew ?_ | refine below_drewN ?_ _ | refine Below.trans ?_ (Below.mono (by assumption) ?_) | refine Below.trans ?_ (Below.mono (BW.below _) ?_) | (simp; done) | (simp; omega) | omega)))⟩
end Go.Proofs.Ytblmlglkjmilkac
