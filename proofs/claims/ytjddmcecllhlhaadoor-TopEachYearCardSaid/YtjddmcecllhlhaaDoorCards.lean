/-
  DERIVED. GIVEN WITH THE SEED: THE CARDS: each row of YtjddmcecllhlhaaDoorRows.lean that lists a variable, with what it lists TIED to the program's text (the seventh form; the later family's looks); each row that meets fmt, with fmt's text TOLD by the authors' own Lean function (tested against real Go, not proved from fmt's source: count such statements apart). THE CARD IS WHAT COUNTS. Prove the row's statement (the work); the ties are given (YtjddmcecllhlhaaDoorTie.lean); close each card by the builder's one call (the guide's Derived/Test/ToyasCard.lean, 'card_holds'). Laid BY PROGRAM, IN A SANDBOX (cutbox-door.mjs). By AI agents, Wed Nov 11 2026. No macro, syntax, notation, axiom, sorry.
-/
import Derived.Test.YtjddmcecllhlhaaDoorRows
import GoSem.ClaimSeven
namespace Go.Proofs.YtjddmcecllhlhaaDoor
namespace Rows

/-- THE TIED CARD OF 'noontidetop.TopRows'. -/
def topRowsCard : Claim7 := { stood := { row := topRowsRow, standIns := [], harness := (true, "cec1da334b9d69e375ce8733042d0fac1c7587d6393999c8aa6009809a6c2c76"), looks := true }, kinds := [], alts := [], laidByText := true, laidKinds := [.data, .pinned], laidTests := true, laidLooks := .later }
def TopRowsCardSaid : Prop := Claim7.holds Tryd.pinned (.plain (OpenSpec.ofChange topRowsSpec)) topRowsCard

/-- THE TIED CARD OF 'noontidetop.TopCalled'. -/
def topCalledCard : Claim7 := { stood := { row := topCalledRow, standIns := [], harness := (true, "cec1da334b9d69e375ce8733042d0fac1c7587d6393999c8aa6009809a6c2c76"), looks := true }, kinds := [], alts := [], laidByText := true, laidKinds := [.data, .wider, .pinned], laidTests := true, laidLooks := .later }
def TopCalledCardSaid : Prop := Claim7.holds Tryd.pinned (.plain (OpenSpec.ofChange topCalledSpec)) topCalledCard

/-- THE TIED CARD OF 'noontidetop.TopEachYear'. -/
def topEachYearCard : Claim7 := { stood := { row := topEachYearRow, standIns := [], harness := (true, "cec1da334b9d69e375ce8733042d0fac1c7587d6393999c8aa6009809a6c2c76"), looks := true }, kinds := [], alts := [], laidByText := true, laidKinds := [.data, .pinned], laidTests := true, laidLooks := .later }
def TopEachYearCardSaid : Prop := Claim7.holds Tryd.pinned (.plain (OpenSpec.ofChange topEachYearSpec)) topEachYearCard

/-- THE SECOND FORM's CARD OF 'noontidetop.TopRows'. -/
def topRowsUptoCard : Claim7 := { stood := { row := topRowsUptoRow, standIns := [], harness := (true, "cec1da334b9d69e375ce8733042d0fac1c7587d6393999c8aa6009809a6c2c76"), looks := true }, kinds := [], alts := [], laidByText := true, laidKinds := [.data, .pinned], laidTests := true, laidLooks := .later }
def TopRowsUptoCardSaid : Prop := Claim7.holds Tryd.pinned (.plain (OpenSpec.upto topRowsSpec)) topRowsUptoCard

/-- THE SECOND FORM's CARD OF 'noontidetop.TopCalled'. -/
def topCalledUptoCard : Claim7 := { stood := { row := topCalledUptoRow, standIns := [], harness := (true, "cec1da334b9d69e375ce8733042d0fac1c7587d6393999c8aa6009809a6c2c76"), looks := true }, kinds := [], alts := [], laidByText := true, laidKinds := [.data, .wider, .pinned], laidTests := true, laidLooks := .later }
def TopCalledUptoCardSaid : Prop := Claim7.holds Tryd.pinned (.plain (OpenSpec.upto topCalledSpec)) topCalledUptoCard

/-- THE SECOND FORM's CARD OF 'noontidetop.TopEachYear'. -/
def topEachYearUptoCard : Claim7 := { stood := { row := topEachYearUptoRow, standIns := [], harness := (true, "cec1da334b9d69e375ce8733042d0fac1c7587d6393999c8aa6009809a6c2c76"), looks := true }, kinds := [], alts := [], laidByText := true, laidKinds := [.data, .pinned], laidTests := true, laidLooks := .later }
def TopEachYearUptoCardSaid : Prop := Claim7.holds Tryd.pinned (.plain (OpenSpec.upto topEachYearSpec)) topEachYearUptoCard
end Rows
end Go.Proofs.YtjddmcecllhlhaaDoor
