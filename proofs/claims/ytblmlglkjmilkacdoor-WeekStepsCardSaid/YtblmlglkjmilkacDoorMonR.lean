/-
  Contracts of the reference's dates moved by months.
-/
import Derived.Test.YtblmlglkjmilkacDoorMonA
namespace Go.Proofs.YtblmlglkjmilkacDoor
open Go.RowKit Cal
attribute [local go_sem] BW.cell BW.frozen

/-- What the reference's clamp gives. -/
def clB (q : Int) : Bool := decide (-40000 ≤ q ∧ q ≤ 40000)
def clY (q : Int) : Int := if clB q = true then q else 0
def clM (q m : Int) : Int := if clB q = true then m else 0
def clD (q m d : Int) : Int := if clB q = true then minI d (mlen q m) else 0
def clE (q : Int) : Int := if clB q = true then 0 else 1
theorem cl_y {q : Int} (m d : Int) (h : clB q = true) : clY q = q ∧ clM q m = m ∧ clD q m d = minI d (mlen q m) ∧ clE q = 0 := by simp [clY, clM, clD, clE, h]
theorem cl_n {q : Int} (m d : Int) (h : clB q = false) : clY q = 0 ∧ clM q m = 0 ∧ clD q m d = 0 ∧ clE q = 1 := by simp [clY, clM, clD, clE, h]

end Go.Proofs.YtblmlglkjmilkacDoor
