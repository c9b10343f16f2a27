/-
  No cell of these rows narrows 'for every input' (looked for: loops, veiled, ifaces, maps, wideKeys, modest, calm, conditions, laid).
  DERIVED. THE GIVEN ROWS OF THIS SEAT. 11 by the template 'for every input the law returns true; each argument reads behind the call as it read before'; 0 by the template 'total and deterministic' (their statements: YtblmlglkjmilkabTotals.lean).
  GIVEN WITH THE SEED: the statements are not yours to turn. If you find one false, say at which input.
  Laid BY PROGRAM, IN A SANDBOX (cutbox-rows.mjs): the forced cells as the released guide's own fill.sh prints them over the translation b0bebcfa0083ea75… (all of the seat's roots in one cut). By AI agents, Wed Nov 11 2026. No macro, syntax, notation, axiom, sorry.
-/
import Derived.Test.YtblmlglkjmilkabChecked
import GoSem.Claim
import GoSem.ClaimJoined
import GoSem.ClaimMapViews
import Derived.JoinedTies
import Derived.KernelRfl
namespace Go.Proofs.Ytblmlglkjmilkab
/- THE CELL 'sum', in the pinned program and in every row, IS THE sha256 OF THE DUMP (.gsa) THAT YtblmlglkjmilkabProg.lean LOADS. Nothing in Lean hashes anything: it is a label: what it is worth is what the hold of that sum in a sandbox is worth. -/
noncomputable def Try.pinned : Pinned := { name := "ytblmlglkjmilkab", sum := "b0bebcfa0083ea7540b5378f53eb1a59da4ac0b7f97ea38668118f41c8fc4698", checked := Try.checked }
namespace Rows
def none {H : Type} : Left H := { results := [], args := [] }

/-- 'noontidelaw12.MeanMerged': WHATEVER THE INPUT: true; the input reads as it did. -/
def meanMergedSpec : ChangeSpec := { name := "meanMerged", fn := fun _ => fun
  | [d1, d2] => { results := [.lit (.bool true)], args := [d1, d2] }
  | _ => none }
def meanMergedRow : OpenClaim := { program := "ytblmlglkjmilkab", sum := "b0bebcfa0083ea7540b5378f53eb1a59da4ac0b7f97ea38668118f41c8fc4698", func := "noontide/noontidelaw12.MeanMerged", spec := "meanMerged", inPlace := ["math.Float64bits", "math.Float64frombits"], unfollowed := true, recurses := true, apart := false }
def MeanMergedSaid : Prop := meanMergedRow.holds Try.pinned (OpenSpec.ofChange meanMergedSpec)

/-- ITS FALSE NEIGHBOUR: 'it returns false'. Refute it at one input. -/
def meanMergedWrong : ChangeSpec := { name := "meanMerged", fn := fun _ => fun
  | [d1, d2] => { results := [.lit (.bool false)], args := [d1, d2] }
  | _ => none }
def MeanMergedWrongFalsely : Prop := meanMergedRow.holds Try.pinned (OpenSpec.ofChange meanMergedWrong)

/-- 'noontidelaw06.MonthlyTells': WHATEVER THE INPUT: true; the input reads as it did. -/
def monthlyTellsSpec : ChangeSpec := { name := "monthlyTells", fn := fun _ => fun
  | [d1, d2, d3] => { results := [.lit (.bool true)], args := [d1, d2, d3] }
  | _ => none }
def monthlyTellsRow : OpenClaim := { program := "ytblmlglkjmilkab", sum := "b0bebcfa0083ea7540b5378f53eb1a59da4ac0b7f97ea38668118f41c8fc4698", func := "noontide/noontidelaw06.MonthlyTells", spec := "monthlyTells", apart := false }
def MonthlyTellsSaid : Prop := monthlyTellsRow.holds Try.pinned (OpenSpec.ofChange monthlyTellsSpec)

/-- ITS FALSE NEIGHBOUR: 'it returns false'. Refute it at one input. -/
def monthlyTellsWrong : ChangeSpec := { name := "monthlyTells", fn := fun _ => fun
  | [d1, d2, d3] => { results := [.lit (.bool false)], args := [d1, d2, d3] }
  | _ => none }
def MonthlyTellsWrongFalsely : Prop := monthlyTellsRow.holds Try.pinned (OpenSpec.ofChange monthlyTellsWrong)

/-- 'noontidelaw06.MonthlyBack': WHATEVER THE INPUT: true; the input reads as it did. -/
def monthlyBackSpec : ChangeSpec := { name := "monthlyBack", fn := fun _ => fun
  | [d1, d2, d3] => { results := [.lit (.bool true)], args := [d1, d2, d3] }
  | _ => none }
def monthlyBackRow : OpenClaim := { program := "ytblmlglkjmilkab", sum := "b0bebcfa0083ea7540b5378f53eb1a59da4ac0b7f97ea38668118f41c8fc4698", func := "noontide/noontidelaw06.MonthlyBack", spec := "monthlyBack", apart := false }
def MonthlyBackSaid : Prop := monthlyBackRow.holds Try.pinned (OpenSpec.ofChange monthlyBackSpec)

/-- ITS FALSE NEIGHBOUR: 'it returns false'. Refute it at one input. -/
def monthlyBackWrong : ChangeSpec := { name := "monthlyBack", fn := fun _ => fun
  | [d1, d2, d3] => { results := [.lit (.bool false)], args := [d1, d2, d3] }
  | _ => none }
def MonthlyBackWrongFalsely : Prop := monthlyBackRow.holds Try.pinned (OpenSpec.ofChange monthlyBackWrong)

/-- 'noontidelaw08.JulianTells': WHATEVER THE INPUT: true; the input reads as it did. -/
def julianTellsSpec : ChangeSpec := { name := "julianTells", fn := fun _ => fun
  | [d1, d2, d3] => { results := [.lit (.bool true)], args := [d1, d2, d3] }
  | _ => none }
def julianTellsRow : OpenClaim := { program := "ytblmlglkjmilkab", sum := "b0bebcfa0083ea7540b5378f53eb1a59da4ac0b7f97ea38668118f41c8fc4698", func := "noontide/noontidelaw08.JulianTells", spec := "julianTells", inPlace := ["math.archFloor", "math.Float64bits", "math.Float64frombits", "math.archTrunc", "math.archCeil", "math.RoundToEven"], apart := false }
def JulianTellsSaid : Prop := julianTellsRow.holds Try.pinned (OpenSpec.ofChange julianTellsSpec)

/-- ITS FALSE NEIGHBOUR: 'it returns false'. Refute it at one input. -/
def julianTellsWrong : ChangeSpec := { name := "julianTells", fn := fun _ => fun
  | [d1, d2, d3] => { results := [.lit (.bool false)], args := [d1, d2, d3] }
  | _ => none }
def JulianTellsWrongFalsely : Prop := julianTellsRow.holds Try.pinned (OpenSpec.ofChange julianTellsWrong)

/-- 'noontidelaw08.JulianBack': WHATEVER THE INPUT: true; the input reads as it did. -/
def julianBackSpec : ChangeSpec := { name := "julianBack", fn := fun _ => fun
  | [d] => { results := [.lit (.bool true)], args := [d] }
  | _ => none }
def julianBackRow : OpenClaim := { program := "ytblmlglkjmilkab", sum := "b0bebcfa0083ea7540b5378f53eb1a59da4ac0b7f97ea38668118f41c8fc4698", func := "noontide/noontidelaw08.JulianBack", spec := "julianBack", inPlace := ["math.archFloor", "math.Float64bits", "math.Float64frombits", "math.archTrunc", "math.archCeil", "math.RoundToEven"], apart := false }
def JulianBackSaid : Prop := julianBackRow.holds Try.pinned (OpenSpec.ofChange julianBackSpec)

/-- ITS FALSE NEIGHBOUR: 'it returns false'. Refute it at one input. -/
def julianBackWrong : ChangeSpec := { name := "julianBack", fn := fun _ => fun
  | [d] => { results := [.lit (.bool false)], args := [d] }
  | _ => none }
def JulianBackWrongFalsely : Prop := julianBackRow.holds Try.pinned (OpenSpec.ofChange julianBackWrong)

/-- 'noontidetop.TopHours': WHATEVER THE INPUT: true; the input reads as it did. -/
def topHoursSpec : ChangeSpec := { name := "topHours", fn := fun _ => fun
  | [d1, d2, d3] => { results := [.lit (.bool true)], args := [d1, d2, d3] }
  | _ => none }
def topHoursRow : OpenClaim := { program := "ytblmlglkjmilkab", sum := "b0bebcfa0083ea7540b5378f53eb1a59da4ac0b7f97ea38668118f41c8fc4698", func := "noontide/noontidetop.TopHours", spec := "topHours", inPlace := ["math.archFloor", "math.Float64bits", "math.Float64frombits", "math.archTrunc", "math.archCeil", "math.RoundToEven"], apart := false }
def TopHoursSaid : Prop := topHoursRow.holds Try.pinned (OpenSpec.ofChange topHoursSpec)

/-- ITS FALSE NEIGHBOUR: 'it returns false'. Refute it at one input. -/
def topHoursWrong : ChangeSpec := { name := "topHours", fn := fun _ => fun
  | [d1, d2, d3] => { results := [.lit (.bool false)], args := [d1, d2, d3] }
  | _ => none }
def TopHoursWrongFalsely : Prop := topHoursRow.holds Try.pinned (OpenSpec.ofChange topHoursWrong)

/-- 'noontidelaw08.JulianOrder': WHATEVER THE INPUT: true; the input reads as it did. -/
def julianOrderSpec : ChangeSpec := { name := "julianOrder", fn := fun _ => fun
  | [d1, d2, d3] => { results := [.lit (.bool true)], args := [d1, d2, d3] }
  | _ => none }
def julianOrderRow : OpenClaim := { program := "ytblmlglkjmilkab", sum := "b0bebcfa0083ea7540b5378f53eb1a59da4ac0b7f97ea38668118f41c8fc4698", func := "noontide/noontidelaw08.JulianOrder", spec := "julianOrder", inPlace := ["math.archFloor", "math.Float64bits", "math.Float64frombits", "math.archTrunc", "math.archCeil", "math.RoundToEven"], apart := false }
def JulianOrderSaid : Prop := julianOrderRow.holds Try.pinned (OpenSpec.ofChange julianOrderSpec)

/-- ITS FALSE NEIGHBOUR: 'it returns false'. Refute it at one input. -/
def julianOrderWrong : ChangeSpec := { name := "julianOrder", fn := fun _ => fun
  | [d1, d2, d3] => { results := [.lit (.bool false)], args := [d1, d2, d3] }
  | _ => none }
def JulianOrderWrongFalsely : Prop := julianOrderRow.holds Try.pinned (OpenSpec.ofChange julianOrderWrong)

/-- 'noontidelaw06.MonthlyOrder': WHATEVER THE INPUT: true; the input reads as it did. -/
def monthlyOrderSpec : ChangeSpec := { name := "monthlyOrder", fn := fun _ => fun
  | [d1, d2, d3, d4] => { results := [.lit (.bool true)], args := [d1, d2, d3, d4] }
  | _ => none }
def monthlyOrderRow : OpenClaim := { program := "ytblmlglkjmilkab", sum := "b0bebcfa0083ea7540b5378f53eb1a59da4ac0b7f97ea38668118f41c8fc4698", func := "noontide/noontidelaw06.MonthlyOrder", spec := "monthlyOrder", apart := false }
def MonthlyOrderSaid : Prop := monthlyOrderRow.holds Try.pinned (OpenSpec.ofChange monthlyOrderSpec)

/-- ITS FALSE NEIGHBOUR: 'it returns false'. Refute it at one input. -/
def monthlyOrderWrong : ChangeSpec := { name := "monthlyOrder", fn := fun _ => fun
  | [d1, d2, d3, d4] => { results := [.lit (.bool false)], args := [d1, d2, d3, d4] }
  | _ => none }
def MonthlyOrderWrongFalsely : Prop := monthlyOrderRow.holds Try.pinned (OpenSpec.ofChange monthlyOrderWrong)

/-- 'noontidelaw06.MonthlyBetween': WHATEVER THE INPUT: true; the input reads as it did. -/
def monthlyBetweenSpec : ChangeSpec := { name := "monthlyBetween", fn := fun _ => fun
  | [d1, d2] => { results := [.lit (.bool true)], args := [d1, d2] }
  | _ => none }
def monthlyBetweenRow : OpenClaim := { program := "ytblmlglkjmilkab", sum := "b0bebcfa0083ea7540b5378f53eb1a59da4ac0b7f97ea38668118f41c8fc4698", func := "noontide/noontidelaw06.MonthlyBetween", spec := "monthlyBetween", apart := false }
def MonthlyBetweenSaid : Prop := monthlyBetweenRow.holds Try.pinned (OpenSpec.ofChange monthlyBetweenSpec)

/-- ITS FALSE NEIGHBOUR: 'it returns false'. Refute it at one input. -/
def monthlyBetweenWrong : ChangeSpec := { name := "monthlyBetween", fn := fun _ => fun
  | [d1, d2] => { results := [.lit (.bool false)], args := [d1, d2] }
  | _ => none }
def MonthlyBetweenWrongFalsely : Prop := monthlyBetweenRow.holds Try.pinned (OpenSpec.ofChange monthlyBetweenWrong)

/-- 'noontidelaw09.LonTells': WHATEVER THE INPUT: true; the input reads as it did. -/
def lonTellsSpec : ChangeSpec := { name := "lonTells", fn := fun _ => fun
  | [d1, d2, d3] => { results := [.lit (.bool true)], args := [d1, d2, d3] }
  | _ => none }
def lonTellsRow : OpenClaim := { program := "ytblmlglkjmilkab", sum := "b0bebcfa0083ea7540b5378f53eb1a59da4ac0b7f97ea38668118f41c8fc4698", func := "noontide/noontidelaw09.LonTells", spec := "lonTells", inPlace := ["math.archFloor", "math.Float64bits", "math.Float64frombits", "math.archTrunc", "math.archCeil", "math.RoundToEven"], apart := false }
def LonTellsSaid : Prop := lonTellsRow.holds Try.pinned (OpenSpec.ofChange lonTellsSpec)

/-- ITS FALSE NEIGHBOUR: 'it returns false'. Refute it at one input. -/
def lonTellsWrong : ChangeSpec := { name := "lonTells", fn := fun _ => fun
  | [d1, d2, d3] => { results := [.lit (.bool false)], args := [d1, d2, d3] }
  | _ => none }
def LonTellsWrongFalsely : Prop := lonTellsRow.holds Try.pinned (OpenSpec.ofChange lonTellsWrong)

/-- 'noontidelaw02.RealTells': WHATEVER THE INPUT: true; the input reads as it did. -/
def realTellsSpec : ChangeSpec := { name := "realTells", fn := fun _ => fun
  | [d1, d2, d3, d4, d5] => { results := [.lit (.bool true)], args := [d1, d2, d3, d4, d5] }
  | _ => none }
def realTellsRow : OpenClaim := { program := "ytblmlglkjmilkab", sum := "b0bebcfa0083ea7540b5378f53eb1a59da4ac0b7f97ea38668118f41c8fc4698", func := "noontide/noontidelaw02.RealTells", spec := "realTells", inPlace := ["math.Float64bits", "math.Float64frombits", "math.archFloor", "math.archTrunc", "math.archCeil", "math.RoundToEven"], unfollowed := true, recurses := true, apart := false }
def RealTellsSaid : Prop := realTellsRow.holds Try.pinned (OpenSpec.ofChange realTellsSpec)

/-- ITS FALSE NEIGHBOUR: 'it returns false'. Refute it at one input. -/
def realTellsWrong : ChangeSpec := { name := "realTells", fn := fun _ => fun
  | [d1, d2, d3, d4, d5] => { results := [.lit (.bool false)], args := [d1, d2, d3, d4, d5] }
  | _ => none }
def RealTellsWrongFalsely : Prop := realTellsRow.holds Try.pinned (OpenSpec.ofChange realTellsWrong)

/- THE SECOND FORM. 'bulk': how many values and letters a reading holds, each counted each time it is reached (what is shared counts as often as it is met; a slice's spare places count too). A statement '..UptoSaid' is the law's where the arguments, and the package variables that the reading takes, are together of bulk at most 1048576: NARROWER than '..Said'. Prove '..Said' where nothing that the law and all that it calls make is longer than what came in: it says more and counts as full. Else prove '..UptoSaid'. A law counts once. -/
mutual
def uptoBulk {H : Type} : DataW H → Nat
  | .lit (.string bytes) => bytes.length + 1
  | .lit _ => 1
  | .nil => 1
  | .ptr d => uptoBulk d + 1
  | .slice elems spare => uptoBulkAll elems + uptoBulkAll spare + 1
  | .agg parts => uptoBulkAll parts + 1
  | .iface _ d => uptoBulk d + 1
  | .map entries => uptoBulkEntries entries + 1
  | .held _ => 1
def uptoBulkAll {H : Type} : List (DataW H) → Nat
  | [] => 0
  | d :: r => uptoBulk d + uptoBulkAll r
def uptoBulkEntries {H : Type} : List (Lit × DataW H) → Nat
  | [] => 0
  | x :: r => uptoBulkEntry x + uptoBulkEntries r
def uptoBulkEntry {H : Type} : Lit × DataW H → Nat
  | (.string bytes, d) => bytes.length + uptoBulk d + 1
  | (_, d) => uptoBulk d + 1
 end
def uptoSmall : (H : Type) → List (DataW H) → Bool := fun _ ds => decide (uptoBulkAll ds ≤ 1048576)
def OpenSpec.upto (s : _root_.Go.ChangeSpec) : _root_.Go.OpenSpec := { _root_.Go.OpenSpec.ofChange s with cond := some uptoSmall }

/-- 'noontidelaw12.MeanMerged', WHERE WHAT IT READS IS OF BULK AT MOST 1048576: true; the input reads as it did. -/
def meanMergedUptoRow : OpenClaim := { program := "ytblmlglkjmilkab", sum := "b0bebcfa0083ea7540b5378f53eb1a59da4ac0b7f97ea38668118f41c8fc4698", func := "noontide/noontidelaw12.MeanMerged", spec := "meanMerged", inPlace := ["math.Float64bits", "math.Float64frombits"], unfollowed := true, recurses := true, apart := false, narrowed := true }
def MeanMergedUptoSaid : Prop := meanMergedUptoRow.holds Try.pinned (OpenSpec.upto meanMergedSpec)

/-- 'noontidelaw06.MonthlyTells', WHERE WHAT IT READS IS OF BULK AT MOST 1048576: true; the input reads as it did. -/
def monthlyTellsUptoRow : OpenClaim := { program := "ytblmlglkjmilkab", sum := "b0bebcfa0083ea7540b5378f53eb1a59da4ac0b7f97ea38668118f41c8fc4698", func := "noontide/noontidelaw06.MonthlyTells", spec := "monthlyTells", apart := false, narrowed := true }
def MonthlyTellsUptoSaid : Prop := monthlyTellsUptoRow.holds Try.pinned (OpenSpec.upto monthlyTellsSpec)

/-- 'noontidelaw06.MonthlyBack', WHERE WHAT IT READS IS OF BULK AT MOST 1048576: true; the input reads as it did. -/
def monthlyBackUptoRow : OpenClaim := { program := "ytblmlglkjmilkab", sum := "b0bebcfa0083ea7540b5378f53eb1a59da4ac0b7f97ea38668118f41c8fc4698", func := "noontide/noontidelaw06.MonthlyBack", spec := "monthlyBack", apart := false, narrowed := true }
def MonthlyBackUptoSaid : Prop := monthlyBackUptoRow.holds Try.pinned (OpenSpec.upto monthlyBackSpec)

/-- 'noontidelaw08.JulianTells', WHERE WHAT IT READS IS OF BULK AT MOST 1048576: true; the input reads as it did. -/
def julianTellsUptoRow : OpenClaim := { program := "ytblmlglkjmilkab", sum := "b0bebcfa0083ea7540b5378f53eb1a59da4ac0b7f97ea38668118f41c8fc4698", func := "noontide/noontidelaw08.JulianTells", spec := "julianTells", inPlace := ["math.archFloor", "math.Float64bits", "math.Float64frombits", "math.archTrunc", "math.archCeil", "math.RoundToEven"], apart := false, narrowed := true }
def JulianTellsUptoSaid : Prop := julianTellsUptoRow.holds Try.pinned (OpenSpec.upto julianTellsSpec)

/-- 'noontidelaw08.JulianBack', WHERE WHAT IT READS IS OF BULK AT MOST 1048576: true; the input reads as it did. -/
def julianBackUptoRow : OpenClaim := { program := "ytblmlglkjmilkab", sum := "b0bebcfa0083ea7540b5378f53eb1a59da4ac0b7f97ea38668118f41c8fc4698", func := "noontide/noontidelaw08.JulianBack", spec := "julianBack", inPlace := ["math.archFloor", "math.Float64bits", "math.Float64frombits", "math.archTrunc", "math.archCeil", "math.RoundToEven"], apart := false, narrowed := true }
def JulianBackUptoSaid : Prop := julianBackUptoRow.holds Try.pinned (OpenSpec.upto julianBackSpec)

/-- 'noontidetop.TopHours', WHERE WHAT IT READS IS OF BULK AT MOST 1048576: true; the input reads as it did. -/
def topHoursUptoRow : OpenClaim := { program := "ytblmlglkjmilkab", sum := "b0bebcfa0083ea7540b5378f53eb1a59da4ac0b7f97ea38668118f41c8fc4698", func := "noontide/noontidetop.TopHours", spec := "topHours", inPlace := ["math.archFloor", "math.Float64bits", "math.Float64frombits", "math.archTrunc", "math.archCeil", "math.RoundToEven"], apart := false, narrowed := true }
def TopHoursUptoSaid : Prop := topHoursUptoRow.holds Try.pinned (OpenSpec.upto topHoursSpec)

/-- 'noontidelaw08.JulianOrder', WHERE WHAT IT READS IS OF BULK AT MOST 1048576: true; the input reads as it did. -/
def julianOrderUptoRow : OpenClaim := { program := "ytblmlglkjmilkab", sum := "b0bebcfa0083ea7540b5378f53eb1a59da4ac0b7f97ea38668118f41c8fc4698", func := "noontide/noontidelaw08.JulianOrder", spec := "julianOrder", inPlace := ["math.archFloor", "math.Float64bits", "math.Float64frombits", "math.archTrunc", "math.archCeil", "math.RoundToEven"], apart := false, narrowed := true }
def JulianOrderUptoSaid : Prop := julianOrderUptoRow.holds Try.pinned (OpenSpec.upto julianOrderSpec)

/-- 'noontidelaw06.MonthlyOrder', WHERE WHAT IT READS IS OF BULK AT MOST 1048576: true; the input reads as it did. -/
def monthlyOrderUptoRow : OpenClaim := { program := "ytblmlglkjmilkab", sum := "b0bebcfa0083ea7540b5378f53eb1a59da4ac0b7f97ea38668118f41c8fc4698", func := "noontide/noontidelaw06.MonthlyOrder", spec := "monthlyOrder", apart := false, narrowed := true }
def MonthlyOrderUptoSaid : Prop := monthlyOrderUptoRow.holds Try.pinned (OpenSpec.upto monthlyOrderSpec)

/-- 'noontidelaw06.MonthlyBetween', WHERE WHAT IT READS IS OF BULK AT MOST 1048576: true; the input reads as it did. -/
def monthlyBetweenUptoRow : OpenClaim := { program := "ytblmlglkjmilkab", sum := "b0bebcfa0083ea7540b5378f53eb1a59da4ac0b7f97ea38668118f41c8fc4698", func := "noontide/noontidelaw06.MonthlyBetween", spec := "monthlyBetween", apart := false, narrowed := true }
def MonthlyBetweenUptoSaid : Prop := monthlyBetweenUptoRow.holds Try.pinned (OpenSpec.upto monthlyBetweenSpec)

/-- 'noontidelaw09.LonTells', WHERE WHAT IT READS IS OF BULK AT MOST 1048576: true; the input reads as it did. -/
def lonTellsUptoRow : OpenClaim := { program := "ytblmlglkjmilkab", sum := "b0bebcfa0083ea7540b5378f53eb1a59da4ac0b7f97ea38668118f41c8fc4698", func := "noontide/noontidelaw09.LonTells", spec := "lonTells", inPlace := ["math.archFloor", "math.Float64bits", "math.Float64frombits", "math.archTrunc", "math.archCeil", "math.RoundToEven"], apart := false, narrowed := true }
def LonTellsUptoSaid : Prop := lonTellsUptoRow.holds Try.pinned (OpenSpec.upto lonTellsSpec)

/-- 'noontidelaw02.RealTells', WHERE WHAT IT READS IS OF BULK AT MOST 1048576: true; the input reads as it did. -/
def realTellsUptoRow : OpenClaim := { program := "ytblmlglkjmilkab", sum := "b0bebcfa0083ea7540b5378f53eb1a59da4ac0b7f97ea38668118f41c8fc4698", func := "noontide/noontidelaw02.RealTells", spec := "realTells", inPlace := ["math.Float64bits", "math.Float64frombits", "math.archFloor", "math.archTrunc", "math.archCeil", "math.RoundToEven"], unfollowed := true, recurses := true, apart := false, narrowed := true }
def RealTellsUptoSaid : Prop := realTellsUptoRow.holds Try.pinned (OpenSpec.upto realTellsSpec)

end Rows
end Go.Proofs.Ytblmlglkjmilkab
