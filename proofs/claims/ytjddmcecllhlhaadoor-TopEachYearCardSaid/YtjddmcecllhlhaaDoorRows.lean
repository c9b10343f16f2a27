/-
  NARROWER THAN 'FOR EVERY INPUT', by the rows' own cells (each row's printed sentence says how): TopRows: laid · TopCalled: laid · TopEachYear: laid.
  DERIVED. THE GIVEN ROWS OF THIS SEAT. 3 by the template 'for every input the law returns true; each argument reads behind the call as it read before'; 0 by the template 'total and deterministic' (their statements: YtjddmcecllhlhaaDoorTotals.lean).
  GIVEN WITH THE SEED: the statements are not yours to turn. If you find one false, say at which input.
  Laid BY PROGRAM, IN A SANDBOX (cutbox-rows.mjs): the forced cells as the released guide's own fill.sh prints them over the translation ccb8b3ef4e0cab5e… (all of the seat's roots in one cut). By AI agents, Wed Nov 11 2026. No macro, syntax, notation, axiom, sorry.
-/
import Derived.Test.YtjddmcecllhlhaaDoorChecked
import GoSem.PinnedTables
import GoSem.Claim
import GoSem.ClaimJoined
import GoSem.ClaimMapViews
import Derived.JoinedTies
import Derived.KernelRfl
namespace Go.Proofs.YtjddmcecllhlhaaDoor
/- THE CELL 'sum', in the pinned program and in every row, IS THE sha256 OF THE DUMP (.gsa) THAT YtjddmcecllhlhaaDoorProg.lean LOADS. Nothing in Lean hashes anything: it is a label: what it is worth is what the hold of that sum in a sandbox is worth. -/
noncomputable def Tryd.pinned : Pinned := { name := "ytjddmcecllhlhaadoor", sum := "ccb8b3ef4e0cab5e524ffe5b869c3c0b0d4a6c6357959636b7d16928409070c5", checked := Tryd.checked }
namespace Rows
def none {H : Type} : Left H := { results := [], args := [] }

/- WHAT THE LISTED PACKAGE-LEVEL VARIABLES READ AS WHEN THE CALL BEGINS. Each datum BY PROGRAM (the guide's laid-datum.mjs) off the statement by which the dump's own 'gosem.cut.vars' lays the variable. In a bare row this is a premise. The card (YtjddmcecllhlhaaDoorCards.lean) ties it to the program's text. -/
def laid_unicode_utf8_acceptRanges {H : Type} : DataW H := .agg [.agg [.lit (.int .u8 128), .lit (.int .u8 191)], .agg [.lit (.int .u8 160), .lit (.int .u8 191)], .agg [.lit (.int .u8 128), .lit (.int .u8 159)], .agg [.lit (.int .u8 144), .lit (.int .u8 191)], .agg [.lit (.int .u8 128), .lit (.int .u8 143)], .agg [.lit (.int .u8 0), .lit (.int .u8 0)], .agg [.lit (.int .u8 0), .lit (.int .u8 0)], .agg [.lit (.int .u8 0), .lit (.int .u8 0)], .agg [.lit (.int .u8 0), .lit (.int .u8 0)], .agg [.lit (.int .u8 0), .lit (.int .u8 0)], .agg [.lit (.int .u8 0), .lit (.int .u8 0)], .agg [.lit (.int .u8 0), .lit (.int .u8 0)], .agg [.lit (.int .u8 0), .lit (.int .u8 0)], .agg [.lit (.int .u8 0), .lit (.int .u8 0)], .agg [.lit (.int .u8 0), .lit (.int .u8 0)], .agg [.lit (.int .u8 0), .lit (.int .u8 0)]]
/-- One of Go's own tables, pinned by name: the form's constant. -/
def laid_unicode_utf8_first : DataW Unit := Go.Pinned.utf8First
def laid_noontide_amount_parts {H : Type} : DataW H := .agg [.agg [.lit (.int .i64 1), .lit (.int .i64 3), .lit (.int .i64 3600)], .agg [.lit (.int .i64 2), .lit (.int .i64 2), .lit (.int .i64 60)], .agg [.lit (.int .i64 2), .lit (.int .i64 2), .lit (.int .i64 1)]]

/-- 'noontidetop.TopRows': WHATEVER THE INPUT: true; the input reads as it did. -/
def topRowsSpec : ChangeSpec := { name := "topRows", fn := fun _ => fun
  | [d] => { results := [.lit (.bool true)], args := [d] }
  | _ => none }
def topRowsRow : OpenClaim := { program := "ytjddmcecllhlhaadoor", sum := "ccb8b3ef4e0cab5e524ffe5b869c3c0b0d4a6c6357959636b7d16928409070c5", func := "noontide/noontidetop.TopRows", spec := "topRows", inPlace := ["internal/bytealg.IndexByteString", "internal/bytealg.IndexString", "internal/abi.NoEscape", "internal/bytealg.MakeNoZero"], unfollowed := true, recurses := true, named := ["unicode/utf8.first", "unicode/utf8.acceptRanges", "internal/bytealg.MaxLen"], apart := false, laid := [("unicode/utf8.acceptRanges", laid_unicode_utf8_acceptRanges), ("unicode/utf8.first", laid_unicode_utf8_first)] }
def TopRowsSaid : Prop := topRowsRow.holds Tryd.pinned (OpenSpec.ofChange topRowsSpec)

/-- ITS FALSE NEIGHBOUR: 'it returns false'. Refute it at one input. -/
def topRowsWrong : ChangeSpec := { name := "topRows", fn := fun _ => fun
  | [d] => { results := [.lit (.bool false)], args := [d] }
  | _ => none }
def TopRowsWrongFalsely : Prop := topRowsRow.holds Tryd.pinned (OpenSpec.ofChange topRowsWrong)

/-- 'noontidetop.TopCalled': WHATEVER THE INPUT: true; the input reads as it did. -/
def topCalledSpec : ChangeSpec := { name := "topCalled", fn := fun _ => fun
  | [d] => { results := [.lit (.bool true)], args := [d] }
  | _ => none }
def topCalledRow : OpenClaim := { program := "ytjddmcecllhlhaadoor", sum := "ccb8b3ef4e0cab5e524ffe5b869c3c0b0d4a6c6357959636b7d16928409070c5", func := "noontide/noontidetop.TopCalled", spec := "topCalled", inPlace := ["internal/bytealg.IndexByteString", "internal/bytealg.IndexString", "internal/bytealg.CountString"], named := ["unicode/utf8.first", "unicode/utf8.acceptRanges", "noontide/amount.parts", "internal/bytealg.MaxLen"], apart := false, laid := [("unicode/utf8.acceptRanges", laid_unicode_utf8_acceptRanges), ("noontide/amount.parts", laid_noontide_amount_parts), ("unicode/utf8.first", laid_unicode_utf8_first)] }
def TopCalledSaid : Prop := topCalledRow.holds Tryd.pinned (OpenSpec.ofChange topCalledSpec)

/-- ITS FALSE NEIGHBOUR: 'it returns false'. Refute it at one input. -/
def topCalledWrong : ChangeSpec := { name := "topCalled", fn := fun _ => fun
  | [d] => { results := [.lit (.bool false)], args := [d] }
  | _ => none }
def TopCalledWrongFalsely : Prop := topCalledRow.holds Tryd.pinned (OpenSpec.ofChange topCalledWrong)

/-- 'noontidetop.TopEachYear': WHATEVER THE INPUT: true; the input reads as it did. -/
def topEachYearSpec : ChangeSpec := { name := "topEachYear", fn := fun _ => fun
  | [d1, d2, d3] => { results := [.lit (.bool true)], args := [d1, d2, d3] }
  | _ => none }
def topEachYearRow : OpenClaim := { program := "ytjddmcecllhlhaadoor", sum := "ccb8b3ef4e0cab5e524ffe5b869c3c0b0d4a6c6357959636b7d16928409070c5", func := "noontide/noontidetop.TopEachYear", spec := "topEachYear", inPlace := ["internal/bytealg.IndexByteString", "internal/bytealg.IndexString"], unfollowed := true, recurses := true, named := ["unicode/utf8.first", "unicode/utf8.acceptRanges", "internal/bytealg.MaxLen"], apart := false, laid := [("unicode/utf8.acceptRanges", laid_unicode_utf8_acceptRanges), ("unicode/utf8.first", laid_unicode_utf8_first)] }
def TopEachYearSaid : Prop := topEachYearRow.holds Tryd.pinned (OpenSpec.ofChange topEachYearSpec)

/-- ITS FALSE NEIGHBOUR: 'it returns false'. Refute it at one input. -/
def topEachYearWrong : ChangeSpec := { name := "topEachYear", fn := fun _ => fun
  | [d1, d2, d3] => { results := [.lit (.bool false)], args := [d1, d2, d3] }
  | _ => none }
def TopEachYearWrongFalsely : Prop := topEachYearRow.holds Tryd.pinned (OpenSpec.ofChange topEachYearWrong)

/- THE SECOND FORM. 'bulk': how many values and letters a reading holds, each counted each time it is reached (what is shared counts as often as it is met; a slice's spare places count too). A statement '..UptoSaid' is the law's where the arguments, and the package variables that the reading takes, are together of bulk at most 1048576: NARROWER than '..Said'. Prove '..Said' where nothing that the law and all that it calls make is longer than what came in: it says more and counts as full. Else prove '..UptoSaid'. A law counts once. -/
mutual
def uptoBulk {H : Type} : DataW H → Nat
  | .lit (.string bytes) => bytes.length + 1
  | .lit _ => 1
  | .nil => 1
  | .ptr d => uptoBulk d + 1
  | .slice elems spare => uptoBulkAll elems + uptoBulkAll spare + 1
  | .agg parts => uptoBulkAll parts + 1
  | .iface _ d => uptoBulk d + 1
  | .map entries => uptoBulkEntries entries + 1
  | .held _ => 1
def uptoBulkAll {H : Type} : List (DataW H) → Nat
  | [] => 0
  | d :: r => uptoBulk d + uptoBulkAll r
def uptoBulkEntries {H : Type} : List (Lit × DataW H) → Nat
  | [] => 0
  | x :: r => uptoBulkEntry x + uptoBulkEntries r
def uptoBulkEntry {H : Type} : Lit × DataW H → Nat
  | (.string bytes, d) => bytes.length + uptoBulk d + 1
  | (_, d) => uptoBulk d + 1
 end
def uptoSmall : (H : Type) → List (DataW H) → Bool := fun _ ds => decide (uptoBulkAll ds ≤ 1048576)
def OpenSpec.upto (s : _root_.Go.ChangeSpec) : _root_.Go.OpenSpec := { _root_.Go.OpenSpec.ofChange s with cond := some uptoSmall }

/-- 'noontidetop.TopRows', WHERE WHAT IT READS IS OF BULK AT MOST 1048576: true; the input reads as it did. -/
def topRowsUptoRow : OpenClaim := { program := "ytjddmcecllhlhaadoor", sum := "ccb8b3ef4e0cab5e524ffe5b869c3c0b0d4a6c6357959636b7d16928409070c5", func := "noontide/noontidetop.TopRows", spec := "topRows", inPlace := ["internal/bytealg.IndexByteString", "internal/bytealg.IndexString", "internal/abi.NoEscape", "internal/bytealg.MakeNoZero"], unfollowed := true, recurses := true, named := ["unicode/utf8.first", "unicode/utf8.acceptRanges", "internal/bytealg.MaxLen"], apart := false, laid := [("unicode/utf8.acceptRanges", laid_unicode_utf8_acceptRanges), ("unicode/utf8.first", laid_unicode_utf8_first)], narrowed := true }
def TopRowsUptoSaid : Prop := topRowsUptoRow.holds Tryd.pinned (OpenSpec.upto topRowsSpec)

/-- 'noontidetop.TopCalled', WHERE WHAT IT READS IS OF BULK AT MOST 1048576: true; the input reads as it did. -/
def topCalledUptoRow : OpenClaim := { program := "ytjddmcecllhlhaadoor", sum := "ccb8b3ef4e0cab5e524ffe5b869c3c0b0d4a6c6357959636b7d16928409070c5", func := "noontide/noontidetop.TopCalled", spec := "topCalled", inPlace := ["internal/bytealg.IndexByteString", "internal/bytealg.IndexString", "internal/bytealg.CountString"], named := ["unicode/utf8.first", "unicode/utf8.acceptRanges", "noontide/amount.parts", "internal/bytealg.MaxLen"], apart := false, laid := [("unicode/utf8.acceptRanges", laid_unicode_utf8_acceptRanges), ("noontide/amount.parts", laid_noontide_amount_parts), ("unicode/utf8.first", laid_unicode_utf8_first)], narrowed := true }
def TopCalledUptoSaid : Prop := topCalledUptoRow.holds Tryd.pinned (OpenSpec.upto topCalledSpec)

/-- 'noontidetop.TopEachYear', WHERE WHAT IT READS IS OF BULK AT MOST 1048576: true; the input reads as it did. -/
def topEachYearUptoRow : OpenClaim := { program := "ytjddmcecllhlhaadoor", sum := "ccb8b3ef4e0cab5e524ffe5b869c3c0b0d4a6c6357959636b7d16928409070c5", func := "noontide/noontidetop.TopEachYear", spec := "topEachYear", inPlace := ["internal/bytealg.IndexByteString", "internal/bytealg.IndexString"], unfollowed := true, recurses := true, named := ["unicode/utf8.first", "unicode/utf8.acceptRanges", "internal/bytealg.MaxLen"], apart := false, laid := [("unicode/utf8.acceptRanges", laid_unicode_utf8_acceptRanges), ("unicode/utf8.first", laid_unicode_utf8_first)], narrowed := true }
def TopEachYearUptoSaid : Prop := topEachYearUptoRow.holds Tryd.pinned (OpenSpec.upto topEachYearSpec)

end Rows
end Go.Proofs.YtjddmcecllhlhaaDoor
