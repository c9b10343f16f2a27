/-
  Stamps: their parts, and their texts.
-/
import Derived.Test.YtjddmcecllhlhaaDoorTxtB
import Derived.Test.YtjddmcecllhlhaaDoorCivE
namespace Go.Proofs.YtjddmcecllhlhaaDoor
open Go.RowKit Go.Lib Cal
attribute [local go_sem] BW.cell BW.frozen
abbrev stp (y m d h i s : Int) : Value := .agg #[.int .i64 y, .int .i64 m, .int .i64 d, .int .i64 h, .int .i64 i, .int .i64 s]
/-- A stamp that may be. -/
structure StOk (y m d h i s : Int) : Prop where
  r : rightB y m d = true
  h0 : 0 ≤ h
  h1 : h < 24
  i0 : 0 ≤ i
  i1 : i < 60
  s0 : 0 ≤ s
  s1 : s < 60
theorem rightB_I64 {y m d : Int} (h : rightB y m d = true) : I64 y := by
  have := (right_iff y m d).1 h
  exact I64.sm (by omega)
/-- Written with so many digits, at least. -/
def pads (n : Nat) (k : Nat) : List UInt8 := List.replicate (k - (dec n).length) 48 ++ dec n
/-- A call that hands back a slice of bytes, in memory from block B on. -/
def GivesB (w : World) (B : Nat) (l : List UInt8) (e : Ending) (w' : World) : Prop := ∃ v, e = .returned v ∧ BytesAt w' B v l ∧ Below B w w'
theorem txt_nat (n : Nat) : txt (n : Int) = dec n := by
  unfold txt
  rw [if_neg (by omega)]
  rfl
end Go.Proofs.YtjddmcecllhlhaaDoor
