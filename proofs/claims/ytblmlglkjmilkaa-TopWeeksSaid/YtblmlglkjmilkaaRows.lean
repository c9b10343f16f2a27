/-
  No cell of these rows narrows 'for every input' (looked for: loops, veiled, ifaces, maps, wideKeys, modest, calm, conditions, laid).
  DERIVED. THE GIVEN ROWS OF THIS SEAT. 12 by the template 'for every input the law returns true; each argument reads behind the call as it read before'; 0 by the template 'total and deterministic' (their statements: YtblmlglkjmilkaaTotals.lean).
  GIVEN WITH THE SEED: the statements are not yours to turn. If you find one false, say at which input.
  Laid BY PROGRAM, IN A SANDBOX (cutbox-rows.mjs): the forced cells as the released guide's own fill.sh prints them over the translation 3110ddc179be34cb… (all of the seat's roots in one cut). By AI agents, Wed Nov 11 2026. No macro, syntax, notation, axiom, sorry.
-/
import Derived.Test.YtblmlglkjmilkaaChecked
import GoSem.Claim
import GoSem.ClaimJoined
import GoSem.ClaimMapViews
import Derived.JoinedTies
import Derived.KernelRfl
namespace Go.Proofs.Ytblmlglkjmilkaa
/- THE CELL 'sum', in the pinned program and in every row, IS THE sha256 OF THE DUMP (.gsa) THAT YtblmlglkjmilkaaProg.lean LOADS. Nothing in Lean hashes anything: it is a label: what it is worth is what the hold of that sum in a sandbox is worth. -/
noncomputable def Try.pinned : Pinned := { name := "ytblmlglkjmilkaa", sum := "3110ddc179be34cb5e29301176ff94ba70a51ee9549f69b021410278f94009d4", checked := Try.checked }
namespace Rows
def none {H : Type} : Left H := { results := [], args := [] }

/-- 'noontidelaw10.SpanTells': WHATEVER THE INPUT: true; the input reads as it did. -/
def spanTellsSpec : ChangeSpec := { name := "spanTells", fn := fun _ => fun
  | [d1, d2, d3] => { results := [.lit (.bool true)], args := [d1, d2, d3] }
  | _ => none }
def spanTellsRow : OpenClaim := { program := "ytblmlglkjmilkaa", sum := "3110ddc179be34cb5e29301176ff94ba70a51ee9549f69b021410278f94009d4", func := "noontide/noontidelaw10.SpanTells", spec := "spanTells", apart := false }
def SpanTellsSaid : Prop := spanTellsRow.holds Try.pinned (OpenSpec.ofChange spanTellsSpec)

/-- ITS FALSE NEIGHBOUR: 'it returns false'. Refute it at one input. -/
def spanTellsWrong : ChangeSpec := { name := "spanTells", fn := fun _ => fun
  | [d1, d2, d3] => { results := [.lit (.bool false)], args := [d1, d2, d3] }
  | _ => none }
def SpanTellsWrongFalsely : Prop := spanTellsRow.holds Try.pinned (OpenSpec.ofChange spanTellsWrong)

/-- 'noontidelaw10.SpanSeconds': WHATEVER THE INPUT: true; the input reads as it did. -/
def spanSecondsSpec : ChangeSpec := { name := "spanSeconds", fn := fun _ => fun
  | [d1, d2, d3] => { results := [.lit (.bool true)], args := [d1, d2, d3] }
  | _ => none }
def spanSecondsRow : OpenClaim := { program := "ytblmlglkjmilkaa", sum := "3110ddc179be34cb5e29301176ff94ba70a51ee9549f69b021410278f94009d4", func := "noontide/noontidelaw10.SpanSeconds", spec := "spanSeconds", apart := false }
def SpanSecondsSaid : Prop := spanSecondsRow.holds Try.pinned (OpenSpec.ofChange spanSecondsSpec)

/-- ITS FALSE NEIGHBOUR: 'it returns false'. Refute it at one input. -/
def spanSecondsWrong : ChangeSpec := { name := "spanSeconds", fn := fun _ => fun
  | [d1, d2, d3] => { results := [.lit (.bool false)], args := [d1, d2, d3] }
  | _ => none }
def SpanSecondsWrongFalsely : Prop := spanSecondsRow.holds Try.pinned (OpenSpec.ofChange spanSecondsWrong)

/-- 'noontidelaw10.SpanParts': WHATEVER THE INPUT: true; the input reads as it did. -/
def spanPartsSpec : ChangeSpec := { name := "spanParts", fn := fun _ => fun
  | [d1, d2, d3] => { results := [.lit (.bool true)], args := [d1, d2, d3] }
  | _ => none }
def spanPartsRow : OpenClaim := { program := "ytblmlglkjmilkaa", sum := "3110ddc179be34cb5e29301176ff94ba70a51ee9549f69b021410278f94009d4", func := "noontide/noontidelaw10.SpanParts", spec := "spanParts", apart := false }
def SpanPartsSaid : Prop := spanPartsRow.holds Try.pinned (OpenSpec.ofChange spanPartsSpec)

/-- ITS FALSE NEIGHBOUR: 'it returns false'. Refute it at one input. -/
def spanPartsWrong : ChangeSpec := { name := "spanParts", fn := fun _ => fun
  | [d1, d2, d3] => { results := [.lit (.bool false)], args := [d1, d2, d3] }
  | _ => none }
def SpanPartsWrongFalsely : Prop := spanPartsRow.holds Try.pinned (OpenSpec.ofChange spanPartsWrong)

/-- 'noontidelaw05.DayruleTells': WHATEVER THE INPUT: true; the input reads as it did. -/
def dayruleTellsSpec : ChangeSpec := { name := "dayruleTells", fn := fun _ => fun
  | [d1, d2, d3] => { results := [.lit (.bool true)], args := [d1, d2, d3] }
  | _ => none }
def dayruleTellsRow : OpenClaim := { program := "ytblmlglkjmilkaa", sum := "3110ddc179be34cb5e29301176ff94ba70a51ee9549f69b021410278f94009d4", func := "noontide/noontidelaw05.DayruleTells", spec := "dayruleTells", apart := false }
def DayruleTellsSaid : Prop := dayruleTellsRow.holds Try.pinned (OpenSpec.ofChange dayruleTellsSpec)

/-- ITS FALSE NEIGHBOUR: 'it returns false'. Refute it at one input. -/
def dayruleTellsWrong : ChangeSpec := { name := "dayruleTells", fn := fun _ => fun
  | [d1, d2, d3] => { results := [.lit (.bool false)], args := [d1, d2, d3] }
  | _ => none }
def DayruleTellsWrongFalsely : Prop := dayruleTellsRow.holds Try.pinned (OpenSpec.ofChange dayruleTellsWrong)

/-- 'noontidelaw03.CivilTells': WHATEVER THE INPUT: true; the input reads as it did. -/
def civilTellsSpec : ChangeSpec := { name := "civilTells", fn := fun _ => fun
  | [d1, d2, d3, d4, d5] => { results := [.lit (.bool true)], args := [d1, d2, d3, d4, d5] }
  | _ => none }
def civilTellsRow : OpenClaim := { program := "ytblmlglkjmilkaa", sum := "3110ddc179be34cb5e29301176ff94ba70a51ee9549f69b021410278f94009d4", func := "noontide/noontidelaw03.CivilTells", spec := "civilTells", apart := false }
def CivilTellsSaid : Prop := civilTellsRow.holds Try.pinned (OpenSpec.ofChange civilTellsSpec)

/-- ITS FALSE NEIGHBOUR: 'it returns false'. Refute it at one input. -/
def civilTellsWrong : ChangeSpec := { name := "civilTells", fn := fun _ => fun
  | [d1, d2, d3, d4, d5] => { results := [.lit (.bool false)], args := [d1, d2, d3, d4, d5] }
  | _ => none }
def CivilTellsWrongFalsely : Prop := civilTellsRow.holds Try.pinned (OpenSpec.ofChange civilTellsWrong)

/-- 'noontidelaw03.CivilBack': WHATEVER THE INPUT: true; the input reads as it did. -/
def civilBackSpec : ChangeSpec := { name := "civilBack", fn := fun _ => fun
  | [d1, d2] => { results := [.lit (.bool true)], args := [d1, d2] }
  | _ => none }
def civilBackRow : OpenClaim := { program := "ytblmlglkjmilkaa", sum := "3110ddc179be34cb5e29301176ff94ba70a51ee9549f69b021410278f94009d4", func := "noontide/noontidelaw03.CivilBack", spec := "civilBack", apart := false }
def CivilBackSaid : Prop := civilBackRow.holds Try.pinned (OpenSpec.ofChange civilBackSpec)

/-- ITS FALSE NEIGHBOUR: 'it returns false'. Refute it at one input. -/
def civilBackWrong : ChangeSpec := { name := "civilBack", fn := fun _ => fun
  | [d1, d2] => { results := [.lit (.bool false)], args := [d1, d2] }
  | _ => none }
def CivilBackWrongFalsely : Prop := civilBackRow.holds Try.pinned (OpenSpec.ofChange civilBackWrong)

/-- 'noontidelaw03.CivilSteps': WHATEVER THE INPUT: true; the input reads as it did. -/
def civilStepsSpec : ChangeSpec := { name := "civilSteps", fn := fun _ => fun
  | [d1, d2] => { results := [.lit (.bool true)], args := [d1, d2] }
  | _ => none }
def civilStepsRow : OpenClaim := { program := "ytblmlglkjmilkaa", sum := "3110ddc179be34cb5e29301176ff94ba70a51ee9549f69b021410278f94009d4", func := "noontide/noontidelaw03.CivilSteps", spec := "civilSteps", apart := false }
def CivilStepsSaid : Prop := civilStepsRow.holds Try.pinned (OpenSpec.ofChange civilStepsSpec)

/-- ITS FALSE NEIGHBOUR: 'it returns false'. Refute it at one input. -/
def civilStepsWrong : ChangeSpec := { name := "civilSteps", fn := fun _ => fun
  | [d1, d2] => { results := [.lit (.bool false)], args := [d1, d2] }
  | _ => none }
def CivilStepsWrongFalsely : Prop := civilStepsRow.holds Try.pinned (OpenSpec.ofChange civilStepsWrong)

/-- 'noontidelaw05.DayruleLies': WHATEVER THE INPUT: true; the input reads as it did. -/
def dayruleLiesSpec : ChangeSpec := { name := "dayruleLies", fn := fun _ => fun
  | [d1, d2, d3] => { results := [.lit (.bool true)], args := [d1, d2, d3] }
  | _ => none }
def dayruleLiesRow : OpenClaim := { program := "ytblmlglkjmilkaa", sum := "3110ddc179be34cb5e29301176ff94ba70a51ee9549f69b021410278f94009d4", func := "noontide/noontidelaw05.DayruleLies", spec := "dayruleLies", apart := false }
def DayruleLiesSaid : Prop := dayruleLiesRow.holds Try.pinned (OpenSpec.ofChange dayruleLiesSpec)

/-- ITS FALSE NEIGHBOUR: 'it returns false'. Refute it at one input. -/
def dayruleLiesWrong : ChangeSpec := { name := "dayruleLies", fn := fun _ => fun
  | [d1, d2, d3] => { results := [.lit (.bool false)], args := [d1, d2, d3] }
  | _ => none }
def DayruleLiesWrongFalsely : Prop := dayruleLiesRow.holds Try.pinned (OpenSpec.ofChange dayruleLiesWrong)

/-- 'noontidelaw05.DayruleWeek': WHATEVER THE INPUT: true; the input reads as it did. -/
def dayruleWeekSpec : ChangeSpec := { name := "dayruleWeek", fn := fun _ => fun
  | [d1, d2, d3, d4] => { results := [.lit (.bool true)], args := [d1, d2, d3, d4] }
  | _ => none }
def dayruleWeekRow : OpenClaim := { program := "ytblmlglkjmilkaa", sum := "3110ddc179be34cb5e29301176ff94ba70a51ee9549f69b021410278f94009d4", func := "noontide/noontidelaw05.DayruleWeek", spec := "dayruleWeek", apart := false }
def DayruleWeekSaid : Prop := dayruleWeekRow.holds Try.pinned (OpenSpec.ofChange dayruleWeekSpec)

/-- ITS FALSE NEIGHBOUR: 'it returns false'. Refute it at one input. -/
def dayruleWeekWrong : ChangeSpec := { name := "dayruleWeek", fn := fun _ => fun
  | [d1, d2, d3, d4] => { results := [.lit (.bool false)], args := [d1, d2, d3, d4] }
  | _ => none }
def DayruleWeekWrongFalsely : Prop := dayruleWeekRow.holds Try.pinned (OpenSpec.ofChange dayruleWeekWrong)

/-- 'noontidetop.TopWeeks': WHATEVER THE INPUT: true; the input reads as it did. -/
def topWeeksSpec : ChangeSpec := { name := "topWeeks", fn := fun _ => fun
  | [d1, d2, d3] => { results := [.lit (.bool true)], args := [d1, d2, d3] }
  | _ => none }
def topWeeksRow : OpenClaim := { program := "ytblmlglkjmilkaa", sum := "3110ddc179be34cb5e29301176ff94ba70a51ee9549f69b021410278f94009d4", func := "noontide/noontidetop.TopWeeks", spec := "topWeeks", apart := false }
def TopWeeksSaid : Prop := topWeeksRow.holds Try.pinned (OpenSpec.ofChange topWeeksSpec)

/-- ITS FALSE NEIGHBOUR: 'it returns false'. Refute it at one input. -/
def topWeeksWrong : ChangeSpec := { name := "topWeeks", fn := fun _ => fun
  | [d1, d2, d3] => { results := [.lit (.bool false)], args := [d1, d2, d3] }
  | _ => none }
def TopWeeksWrongFalsely : Prop := topWeeksRow.holds Try.pinned (OpenSpec.ofChange topWeeksWrong)

/-- 'noontidelaw12.MeanTells': WHATEVER THE INPUT: true; the input reads as it did. -/
def meanTellsSpec : ChangeSpec := { name := "meanTells", fn := fun _ => fun
  | [d1, d2] => { results := [.lit (.bool true)], args := [d1, d2] }
  | _ => none }
def meanTellsRow : OpenClaim := { program := "ytblmlglkjmilkaa", sum := "3110ddc179be34cb5e29301176ff94ba70a51ee9549f69b021410278f94009d4", func := "noontide/noontidelaw12.MeanTells", spec := "meanTells", inPlace := ["math.Float64bits", "math.Float64frombits"], unfollowed := true, recurses := true, apart := false }
def MeanTellsSaid : Prop := meanTellsRow.holds Try.pinned (OpenSpec.ofChange meanTellsSpec)

/-- ITS FALSE NEIGHBOUR: 'it returns false'. Refute it at one input. -/
def meanTellsWrong : ChangeSpec := { name := "meanTells", fn := fun _ => fun
  | [d1, d2] => { results := [.lit (.bool false)], args := [d1, d2] }
  | _ => none }
def MeanTellsWrongFalsely : Prop := meanTellsRow.holds Try.pinned (OpenSpec.ofChange meanTellsWrong)

/-- 'noontidelaw12.MeanBetween': WHATEVER THE INPUT: true; the input reads as it did. -/
def meanBetweenSpec : ChangeSpec := { name := "meanBetween", fn := fun _ => fun
  | [d1, d2] => { results := [.lit (.bool true)], args := [d1, d2] }
  | _ => none }
def meanBetweenRow : OpenClaim := { program := "ytblmlglkjmilkaa", sum := "3110ddc179be34cb5e29301176ff94ba70a51ee9549f69b021410278f94009d4", func := "noontide/noontidelaw12.MeanBetween", spec := "meanBetween", inPlace := ["math.Float64bits", "math.Float64frombits"], unfollowed := true, recurses := true, apart := false }
def MeanBetweenSaid : Prop := meanBetweenRow.holds Try.pinned (OpenSpec.ofChange meanBetweenSpec)

/-- ITS FALSE NEIGHBOUR: 'it returns false'. Refute it at one input. -/
def meanBetweenWrong : ChangeSpec := { name := "meanBetween", fn := fun _ => fun
  | [d1, d2] => { results := [.lit (.bool false)], args := [d1, d2] }
  | _ => none }
def MeanBetweenWrongFalsely : Prop := meanBetweenRow.holds Try.pinned (OpenSpec.ofChange meanBetweenWrong)

/- THE SECOND FORM. 'bulk': how many values and letters a reading holds, each counted each time it is reached (what is shared counts as often as it is met; a slice's spare places count too). A statement '..UptoSaid' is the law's where the arguments, and the package variables that the reading takes, are together of bulk at most 1048576: NARROWER than '..Said'. Prove '..Said' where nothing that the law and all that it calls make is longer than what came in: it says more and counts as full. Else prove '..UptoSaid'. A law counts once. -/
mutual
def uptoBulk {H : Type} : DataW H → Nat
  | .lit (.string bytes) => bytes.length + 1
  | .lit _ => 1
  | .nil => 1
  | .ptr d => uptoBulk d + 1
  | .slice elems spare => uptoBulkAll elems + uptoBulkAll spare + 1
  | .agg parts => uptoBulkAll parts + 1
  | .iface _ d => uptoBulk d + 1
  | .map entries => uptoBulkEntries entries + 1
  | .held _ => 1
def uptoBulkAll {H : Type} : List (DataW H) → Nat
  | [] => 0
  | d :: r => uptoBulk d + uptoBulkAll r
def uptoBulkEntries {H : Type} : List (Lit × DataW H) → Nat
  | [] => 0
  | x :: r => uptoBulkEntry x + uptoBulkEntries r
def uptoBulkEntry {H : Type} : Lit × DataW H → Nat
  | (.string bytes, d) => bytes.length + uptoBulk d + 1
  | (_, d) => uptoBulk d + 1
 end
def uptoSmall : (H : Type) → List (DataW H) → Bool := fun _ ds => decide (uptoBulkAll ds ≤ 1048576)
def OpenSpec.upto (s : _root_.Go.ChangeSpec) : _root_.Go.OpenSpec := { _root_.Go.OpenSpec.ofChange s with cond := some uptoSmall }

/-- 'noontidelaw10.SpanTells', WHERE WHAT IT READS IS OF BULK AT MOST 1048576: true; the input reads as it did. -/
def spanTellsUptoRow : OpenClaim := { program := "ytblmlglkjmilkaa", sum := "3110ddc179be34cb5e29301176ff94ba70a51ee9549f69b021410278f94009d4", func := "noontide/noontidelaw10.SpanTells", spec := "spanTells", apart := false, narrowed := true }
def SpanTellsUptoSaid : Prop := spanTellsUptoRow.holds Try.pinned (OpenSpec.upto spanTellsSpec)

/-- 'noontidelaw10.SpanSeconds', WHERE WHAT IT READS IS OF BULK AT MOST 1048576: true; the input reads as it did. -/
def spanSecondsUptoRow : OpenClaim := { program := "ytblmlglkjmilkaa", sum := "3110ddc179be34cb5e29301176ff94ba70a51ee9549f69b021410278f94009d4", func := "noontide/noontidelaw10.SpanSeconds", spec := "spanSeconds", apart := false, narrowed := true }
def SpanSecondsUptoSaid : Prop := spanSecondsUptoRow.holds Try.pinned (OpenSpec.upto spanSecondsSpec)

/-- 'noontidelaw10.SpanParts', WHERE WHAT IT READS IS OF BULK AT MOST 1048576: true; the input reads as it did. -/
def spanPartsUptoRow : OpenClaim := { program := "ytblmlglkjmilkaa", sum := "3110ddc179be34cb5e29301176ff94ba70a51ee9549f69b021410278f94009d4", func := "noontide/noontidelaw10.SpanParts", spec := "spanParts", apart := false, narrowed := true }
def SpanPartsUptoSaid : Prop := spanPartsUptoRow.holds Try.pinned (OpenSpec.upto spanPartsSpec)

/-- 'noontidelaw05.DayruleTells', WHERE WHAT IT READS IS OF BULK AT MOST 1048576: true; the input reads as it did. -/
def dayruleTellsUptoRow : OpenClaim := { program := "ytblmlglkjmilkaa", sum := "3110ddc179be34cb5e29301176ff94ba70a51ee9549f69b021410278f94009d4", func := "noontide/noontidelaw05.DayruleTells", spec := "dayruleTells", apart := false, narrowed := true }
def DayruleTellsUptoSaid : Prop := dayruleTellsUptoRow.holds Try.pinned (OpenSpec.upto dayruleTellsSpec)

/-- 'noontidelaw03.CivilTells', WHERE WHAT IT READS IS OF BULK AT MOST 1048576: true; the input reads as it did. -/
def civilTellsUptoRow : OpenClaim := { program := "ytblmlglkjmilkaa", sum := "3110ddc179be34cb5e29301176ff94ba70a51ee9549f69b021410278f94009d4", func := "noontide/noontidelaw03.CivilTells", spec := "civilTells", apart := false, narrowed := true }
def CivilTellsUptoSaid : Prop := civilTellsUptoRow.holds Try.pinned (OpenSpec.upto civilTellsSpec)

/-- 'noontidelaw03.CivilBack', WHERE WHAT IT READS IS OF BULK AT MOST 1048576: true; the input reads as it did. -/
def civilBackUptoRow : OpenClaim := { program := "ytblmlglkjmilkaa", sum := "3110ddc179be34cb5e29301176ff94ba70a51ee9549f69b021410278f94009d4", func := "noontide/noontidelaw03.CivilBack", spec := "civilBack", apart := false, narrowed := true }
def CivilBackUptoSaid : Prop := civilBackUptoRow.holds Try.pinned (OpenSpec.upto civilBackSpec)

/-- 'noontidelaw03.CivilSteps', WHERE WHAT IT READS IS OF BULK AT MOST 1048576: true; the input reads as it did. -/
def civilStepsUptoRow : OpenClaim := { program := "ytblmlglkjmilkaa", sum := "3110ddc179be34cb5e29301176ff94ba70a51ee9549f69b021410278f94009d4", func := "noontide/noontidelaw03.CivilSteps", spec := "civilSteps", apart := false, narrowed := true }
def CivilStepsUptoSaid : Prop := civilStepsUptoRow.holds Try.pinned (OpenSpec.upto civilStepsSpec)

/-- 'noontidelaw05.DayruleLies', WHERE WHAT IT READS IS OF BULK AT MOST 1048576: true; the input reads as it did. -/
def dayruleLiesUptoRow : OpenClaim := { program := "ytblmlglkjmilkaa", sum := "3110ddc179be34cb5e29301176ff94ba70a51ee9549f69b021410278f94009d4", func := "noontide/noontidelaw05.DayruleLies", spec := "dayruleLies", apart := false, narrowed := true }
def DayruleLiesUptoSaid : Prop := dayruleLiesUptoRow.holds Try.pinned (OpenSpec.upto dayruleLiesSpec)

/-- 'noontidelaw05.DayruleWeek', WHERE WHAT IT READS IS OF BULK AT MOST 1048576: true; the input reads as it did. -/
def dayruleWeekUptoRow : OpenClaim := { program := "ytblmlglkjmilkaa", sum := "3110ddc179be34cb5e29301176ff94ba70a51ee9549f69b021410278f94009d4", func := "noontide/noontidelaw05.DayruleWeek", spec := "dayruleWeek", apart := false, narrowed := true }
def DayruleWeekUptoSaid : Prop := dayruleWeekUptoRow.holds Try.pinned (OpenSpec.upto dayruleWeekSpec)

/-- 'noontidetop.TopWeeks', WHERE WHAT IT READS IS OF BULK AT MOST 1048576: true; the input reads as it did. -/
def topWeeksUptoRow : OpenClaim := { program := "ytblmlglkjmilkaa", sum := "3110ddc179be34cb5e29301176ff94ba70a51ee9549f69b021410278f94009d4", func := "noontide/noontidetop.TopWeeks", spec := "topWeeks", apart := false, narrowed := true }
def TopWeeksUptoSaid : Prop := topWeeksUptoRow.holds Try.pinned (OpenSpec.upto topWeeksSpec)

/-- 'noontidelaw12.MeanTells', WHERE WHAT IT READS IS OF BULK AT MOST 1048576: true; the input reads as it did. -/
def meanTellsUptoRow : OpenClaim := { program := "ytblmlglkjmilkaa", sum := "3110ddc179be34cb5e29301176ff94ba70a51ee9549f69b021410278f94009d4", func := "noontide/noontidelaw12.MeanTells", spec := "meanTells", inPlace := ["math.Float64bits", "math.Float64frombits"], unfollowed := true, recurses := true, apart := false, narrowed := true }
def MeanTellsUptoSaid : Prop := meanTellsUptoRow.holds Try.pinned (OpenSpec.upto meanTellsSpec)

/-- 'noontidelaw12.MeanBetween', WHERE WHAT IT READS IS OF BULK AT MOST 1048576: true; the input reads as it did. -/
def meanBetweenUptoRow : OpenClaim := { program := "ytblmlglkjmilkaa", sum := "3110ddc179be34cb5e29301176ff94ba70a51ee9549f69b021410278f94009d4", func := "noontide/noontidelaw12.MeanBetween", spec := "meanBetween", inPlace := ["math.Float64bits", "math.Float64frombits"], unfollowed := true, recurses := true, apart := false, narrowed := true }
def MeanBetweenUptoSaid : Prop := meanBetweenUptoRow.holds Try.pinned (OpenSpec.upto meanBetweenSpec)

end Rows
end Go.Proofs.Ytblmlglkjmilkaa
