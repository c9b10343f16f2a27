/-
  Contracts of package real's functions on one number and of the reference's: kinds, places, rounding.
-/
import Derived.Test.YtjddmcecllhlhaaReaA
namespace Go.Proofs.Ytjddmcecllhlhaa
open Go.RowKit Flo

/-- A number that a call hands back, by its class. -/
def GF (w : World) (X : Option Nat) (e : Ending) (w' : World) : Prop := ∃ y, e = .returned (.float .f64 y) ∧ Hid (y < 18446744073709551616 ∧ nz y = X) ∧ Below w.heap.size w w'
/-- The same with an error beside it. -/
def GFE (w : World) (X : Option Nat) (E : Int) (e : Ending) (w' : World) : Prop := ∃ y, e = .returned (.tuple #[.float .f64 y, .int .i64 E]) ∧ Hid (y < 18446744073709551616 ∧ nz y = X) ∧ Below w.heap.size w w'

/-- What a number is rounded to, as a class. -/
def rdW (way : Ieee.Toward) (b : Nat) : Option Nat := if isnan b = true then none else some (Ieee.double.write ((Ieee.double.read b).integral way))
theorem write_quiet (s : Bool) (t : Nat) : isnan (Ieee.double.write (.nan s (Ieee.double.quiet t))) = true := by
  show isnan (Ieee.double.word s (Ieee.double.infRung + Ieee.double.quiet t % Ieee.double.binade)) = true
  have h : 2251799813685248 ≤ Ieee.double.quiet t % Ieee.double.binade := by
    have e : Ieee.double.quiet t = t ||| 2 ^ 51 := rfl
    have e2 : Ieee.double.binade = 2 ^ 52 := by decide
    rw [e, e2, Nat.or_mod_two_pow]
    have := @Nat.right_le_or (t % 2 ^ 52) (2 ^ 51 % 2 ^ 52)
    exact Nat.le_trans (by decide) this
  have h2 : Ieee.double.quiet t % Ieee.double.binade < 4503599627370496 := by
    have := Nat.mod_lt (Ieee.double.quiet t) (show 0 < Ieee.double.binade by decide)
    rw [binade_eq] at this ⊢; exact this
  generalize Ieee.double.quiet t % Ieee.double.binade = q at *
  unfold Ieee.Format.word
  rw [inf_eq, sign_eq]
  unfold isnan rg
  cases s <;> simp <;> omega
/-- The answer of a rounding, by what the word stands for. -/
def intQ (way : Ieee.Toward) (b : Nat) (d : Ieee.Datum) : Sem Value :=
  match d with
  | .nan s t => if Ieee.double.quiet t = t then pure (Value.float .f64 b) else (choose (.extern "math.Floor,Ceil,Trunc,RoundToEven.signallingNaN kept" 2)).bind fun kept => pure (Value.float .f64 (if kept == 1 then b else Ieee.double.write (.nan s (Ieee.double.quiet t))))
  | .infinity s => pure (Value.float .f64 (Ieee.double.write (Ieee.Datum.integral way (.infinity s))))
  | .number s m i => pure (Value.float .f64 (Ieee.double.write (Ieee.Datum.integral way (.number s m i))))
theorem intQ_eq (name : String) (way : Ieee.Toward) (b : Nat) : Extern.MathFloor.toIntegral name way #[.float .f64 b] = intQ way b (Ieee.double.read b) := by
  unfold intQ
  change (match Ieee.double.read b with | .nan s t => _ | d => _) = _
  cases Ieee.double.read b <;> rfl
theorem run_integral {P : Program} (name : String) (way : Ieee.Toward) (b : Nat) (hb : b < 18446744073709551616) (w : World) :
    ∃ y n, (Extern.MathFloor.toIntegral name way #[.float .f64 b]).run P w = .ok (.float .f64 y) (w.drewN n) ∧ y < 18446744073709551616 ∧ nz y = rdW way b := by
  rw [intQ_eq]
  cases hn : isnan b
  · refine ⟨Ieee.double.write ((Ieee.double.read b).integral way), 0, ?_, write_lt' _, ?_⟩
    · rcases six b with ⟨h, _⟩ | ⟨_, _, h⟩ | ⟨_, _, _, h⟩
      · rw [hn] at h; cases h
      · rw [read_inf h]; rfl
      · obtain ⟨m, i, e, _⟩ := read_fin h
        rw [e]; rfl
    · have : isnan (Ieee.double.write ((Ieee.double.read b).integral way)) = false := by
        refine isnan_write ?_
        rcases six b with ⟨h, _⟩ | ⟨_, _, h⟩ | ⟨_, _, _, h⟩
        · rw [hn] at h; cases h
        · rw [read_inf h]; rfl
        · rw [integral_fin h]; rfl
      rw [nz_some this]; simp [rdW, hn]
  · have hr : rdW way b = none := by simp [rdW, hn]
    rw [hr, read_nan hn]
    simp only [intQ]
    by_cases hq : Ieee.double.quiet (rg b - 9218868437227405312) = rg b - 9218868437227405312
    · refine ⟨b, 0, ?_, hb, nz_none hn⟩
      rw [if_pos hq]; rfl
    · rw [if_neg hq]
      have hf : (Question.extern "math.Floor,Ceil,Trunc,RoundToEven.signallingNaN kept" 2).forced = false := rfl
      refine ⟨_, 1, by rw [show ∀ (x : Sem Nat) (f : Nat → Sem Value), x.bind f = x >>= f from fun _ _ => rfl, Sem.run_bind, run_choose_drew, hf]; rfl, ?_, ?_⟩
      · split
        · exact hb
        · exact write_lt' _
      · split
        · exact nz_none hn
        · exact nz_none (write_quiet _ _)

/-- The way of a mode. -/
def wayM (m : Int) : Ieee.Toward := if m = 1 then .down else if m = 2 then .up else if m = 3 then .zero else .even
def modB (m : Int) : Bool := decide (1 ≤ m ∧ m ≤ 4)
def rdV (b : Nat) (m : Int) : Option Nat := if modB m = true then rdW (wayM m) b else some 0
def rdE (m : Int) : Int := if modB m = true then 0 else 4
theorem mod_cases (m : Int) : m = 1 ∨ m = 2 ∨ m = 3 ∨ m = 4 ∨ (modB m = false ∧ (m == 1) = false ∧ (m == 2) = false ∧ (m == 3) = false ∧ (m == 4) = false) := by
  by_cases h : 1 ≤ m ∧ m ≤ 4
  · omega
  · refine .inr (.inr (.inr (.inr ⟨by simpa [modB] using h, ?_⟩)))
    simp; omega
end Go.Proofs.Ytjddmcecllhlhaa
