/-
  DERIVED. GIVEN WITH THE SEED: THE CARDS: each row of YtblmlglkjmilkacDoorRows.lean that lists a variable, with what it lists TIED to the program's text (the seventh form; the later family's looks); each row that meets fmt, with fmt's text TOLD by the authors' own Lean function (tested against real Go, not proved from fmt's source: count such statements apart). THE CARD IS WHAT COUNTS. Prove the row's statement (the work); the ties are given (YtblmlglkjmilkacDoorTie.lean); close each card by the builder's one call (the guide's Derived/Test/ToyasCard.lean, 'card_holds'). Laid BY PROGRAM, IN A SANDBOX (cutbox-door.mjs). By AI agents, Wed Nov 11 2026. No macro, syntax, notation, axiom, sorry.
-/
import Derived.Test.YtblmlglkjmilkacDoorRows
import GoSem.ClaimSeven
namespace Go.Proofs.YtblmlglkjmilkacDoor
namespace Rows

/-- THE TIED CARD OF 'noontidelaw07.WeekTells'. -/
def weekTellsCard : Claim7 := { stood := { row := weekTellsRow, standIns := [], harness := (true, "8e5acaf742ab969a2feb1f9889855b1b6d252cc8182085c93c1219fe1e5d4ac5"), looks := true }, kinds := [], alts := [], laidByText := true, laidKinds := [.data], laidTests := true, laidLooks := .later }
def WeekTellsCardSaid : Prop := Claim7.holds Tryd.pinned (.plain (OpenSpec.ofChange weekTellsSpec)) weekTellsCard

/-- THE TIED CARD OF 'noontidelaw07.WeekBack'. -/
def weekBackCard : Claim7 := { stood := { row := weekBackRow, standIns := [], harness := (true, "8e5acaf742ab969a2feb1f9889855b1b6d252cc8182085c93c1219fe1e5d4ac5"), looks := true }, kinds := [], alts := [], laidByText := true, laidKinds := [.data], laidTests := true, laidLooks := .later }
def WeekBackCardSaid : Prop := Claim7.holds Tryd.pinned (.plain (OpenSpec.ofChange weekBackSpec)) weekBackCard

/-- THE TIED CARD OF 'noontidelaw07.WeekSteps'. -/
def weekStepsCard : Claim7 := { stood := { row := weekStepsRow, standIns := [], harness := (true, "8e5acaf742ab969a2feb1f9889855b1b6d252cc8182085c93c1219fe1e5d4ac5"), looks := true }, kinds := [], alts := [], laidByText := true, laidKinds := [.data], laidTests := true, laidLooks := .later }
def WeekStepsCardSaid : Prop := Claim7.holds Tryd.pinned (.plain (OpenSpec.ofChange weekStepsSpec)) weekStepsCard

/-- THE TIED CARD OF 'noontidetop.TopNumbers'. -/
def topNumbersCard : Claim7 := { stood := { row := topNumbersRow, standIns := [], harness := (true, "8e5acaf742ab969a2feb1f9889855b1b6d252cc8182085c93c1219fe1e5d4ac5"), looks := true }, kinds := [], alts := [], laidByText := true, laidKinds := [.data, .pinned], laidTests := true, laidLooks := .later }
def TopNumbersCardSaid : Prop := Claim7.holds Tryd.pinned (.plain (OpenSpec.ofChange topNumbersSpec)) topNumbersCard

/-- THE TIED CARD OF 'noontidetop.TopRows'. -/
def topRowsCard : Claim7 := { stood := { row := topRowsRow, standIns := [], harness := (true, "8e5acaf742ab969a2feb1f9889855b1b6d252cc8182085c93c1219fe1e5d4ac5"), looks := true }, kinds := [], alts := [], laidByText := true, laidKinds := [.data, .pinned], laidTests := true, laidLooks := .later }
def TopRowsCardSaid : Prop := Claim7.holds Tryd.pinned (.plain (OpenSpec.ofChange topRowsSpec)) topRowsCard

/-- THE TIED CARD OF 'noontidetop.TopWhole'. -/
def topWholeCard : Claim7 := { stood := { row := topWholeRow, standIns := [], harness := (true, "8e5acaf742ab969a2feb1f9889855b1b6d252cc8182085c93c1219fe1e5d4ac5"), looks := true }, kinds := [], alts := [], laidByText := true, laidKinds := [.data, .pinned], laidTests := true, laidLooks := .later }
def TopWholeCardSaid : Prop := Claim7.holds Tryd.pinned (.plain (OpenSpec.ofChange topWholeSpec)) topWholeCard

/-- THE TIED CARD OF 'noontidetop.TopCalled'. -/
def topCalledCard : Claim7 := { stood := { row := topCalledRow, standIns := [], harness := (true, "8e5acaf742ab969a2feb1f9889855b1b6d252cc8182085c93c1219fe1e5d4ac5"), looks := true }, kinds := [], alts := [], laidByText := true, laidKinds := [.data, .wider, .pinned], laidTests := true, laidLooks := .later }
def TopCalledCardSaid : Prop := Claim7.holds Tryd.pinned (.plain (OpenSpec.ofChange topCalledSpec)) topCalledCard

/-- THE TIED CARD OF 'noontidetop.TopEachYear'. -/
def topEachYearCard : Claim7 := { stood := { row := topEachYearRow, standIns := [], harness := (true, "8e5acaf742ab969a2feb1f9889855b1b6d252cc8182085c93c1219fe1e5d4ac5"), looks := true }, kinds := [], alts := [], laidByText := true, laidKinds := [.data, .pinned], laidTests := true, laidLooks := .later }
def TopEachYearCardSaid : Prop := Claim7.holds Tryd.pinned (.plain (OpenSpec.ofChange topEachYearSpec)) topEachYearCard

/-- THE SECOND FORM's CARD OF 'noontidelaw07.WeekTells'. -/
def weekTellsUptoCard : Claim7 := { stood := { row := weekTellsUptoRow, standIns := [], harness := (true, "8e5acaf742ab969a2feb1f9889855b1b6d252cc8182085c93c1219fe1e5d4ac5"), looks := true }, kinds := [], alts := [], laidByText := true, laidKinds := [.data], laidTests := true, laidLooks := .later }
def WeekTellsUptoCardSaid : Prop := Claim7.holds Tryd.pinned (.plain (OpenSpec.upto weekTellsSpec)) weekTellsUptoCard

/-- THE SECOND FORM's CARD OF 'noontidelaw07.WeekBack'. -/
def weekBackUptoCard : Claim7 := { stood := { row := weekBackUptoRow, standIns := [], harness := (true, "8e5acaf742ab969a2feb1f9889855b1b6d252cc8182085c93c1219fe1e5d4ac5"), looks := true }, kinds := [], alts := [], laidByText := true, laidKinds := [.data], laidTests := true, laidLooks := .later }
def WeekBackUptoCardSaid : Prop := Claim7.holds Tryd.pinned (.plain (OpenSpec.upto weekBackSpec)) weekBackUptoCard

/-- THE SECOND FORM's CARD OF 'noontidelaw07.WeekSteps'. -/
def weekStepsUptoCard : Claim7 := { stood := { row := weekStepsUptoRow, standIns := [], harness := (true, "8e5acaf742ab969a2feb1f9889855b1b6d252cc8182085c93c1219fe1e5d4ac5"), looks := true }, kinds := [], alts := [], laidByText := true, laidKinds := [.data], laidTests := true, laidLooks := .later }
def WeekStepsUptoCardSaid : Prop := Claim7.holds Tryd.pinned (.plain (OpenSpec.upto weekStepsSpec)) weekStepsUptoCard

/-- THE SECOND FORM's CARD OF 'noontidetop.TopNumbers'. -/
def topNumbersUptoCard : Claim7 := { stood := { row := topNumbersUptoRow, standIns := [], harness := (true, "8e5acaf742ab969a2feb1f9889855b1b6d252cc8182085c93c1219fe1e5d4ac5"), looks := true }, kinds := [], alts := [], laidByText := true, laidKinds := [.data, .pinned], laidTests := true, laidLooks := .later }
def TopNumbersUptoCardSaid : Prop := Claim7.holds Tryd.pinned (.plain (OpenSpec.upto topNumbersSpec)) topNumbersUptoCard

/-- THE SECOND FORM's CARD OF 'noontidetop.TopRows'. -/
def topRowsUptoCard : Claim7 := { stood := { row := topRowsUptoRow, standIns := [], harness := (true, "8e5acaf742ab969a2feb1f9889855b1b6d252cc8182085c93c1219fe1e5d4ac5"), looks := true }, kinds := [], alts := [], laidByText := true, laidKinds := [.data, .pinned], laidTests := true, laidLooks := .later }
def TopRowsUptoCardSaid : Prop := Claim7.holds Tryd.pinned (.plain (OpenSpec.upto topRowsSpec)) topRowsUptoCard

/-- THE SECOND FORM's CARD OF 'noontidetop.TopWhole'. -/
def topWholeUptoCard : Claim7 := { stood := { row := topWholeUptoRow, standIns := [], harness := (true, "8e5acaf742ab969a2feb1f9889855b1b6d252cc8182085c93c1219fe1e5d4ac5"), looks := true }, kinds := [], alts := [], laidByText := true, laidKinds := [.data, .pinned], laidTests := true, laidLooks := .later }
def TopWholeUptoCardSaid : Prop := Claim7.holds Tryd.pinned (.plain (OpenSpec.upto topWholeSpec)) topWholeUptoCard

/-- THE SECOND FORM's CARD OF 'noontidetop.TopCalled'. -/
def topCalledUptoCard : Claim7 := { stood := { row := topCalledUptoRow, standIns := [], harness := (true, "8e5acaf742ab969a2feb1f9889855b1b6d252cc8182085c93c1219fe1e5d4ac5"), looks := true }, kinds := [], alts := [], laidByText := true, laidKinds := [.data, .wider, .pinned], laidTests := true, laidLooks := .later }
def TopCalledUptoCardSaid : Prop := Claim7.holds Tryd.pinned (.plain (OpenSpec.upto topCalledSpec)) topCalledUptoCard

/-- THE SECOND FORM's CARD OF 'noontidetop.TopEachYear'. -/
def topEachYearUptoCard : Claim7 := { stood := { row := topEachYearUptoRow, standIns := [], harness := (true, "8e5acaf742ab969a2feb1f9889855b1b6d252cc8182085c93c1219fe1e5d4ac5"), looks := true }, kinds := [], alts := [], laidByText := true, laidKinds := [.data, .pinned], laidTests := true, laidLooks := .later }
def TopEachYearUptoCardSaid : Prop := Claim7.holds Tryd.pinned (.plain (OpenSpec.upto topEachYearSpec)) topEachYearUptoCard
end Rows
end Go.Proofs.YtblmlglkjmilkacDoor
