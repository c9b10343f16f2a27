/-
  DERIVED. GIVEN WITH THE SEED: THE CARDS: each row of YtblmlglkjmilkabDoorRows.lean that lists a variable, with what it lists TIED to the program's text (the seventh form; the later family's looks); each row that meets fmt, with fmt's text TOLD by the authors' own Lean function (tested against real Go, not proved from fmt's source: count such statements apart). THE CARD IS WHAT COUNTS. Prove the row's statement (the work); the ties are given (YtblmlglkjmilkabDoorTie.lean); close each card by the builder's one call (the guide's Derived/Test/ToyasCard.lean, 'card_holds'). Laid BY PROGRAM, IN A SANDBOX (cutbox-door.mjs). By AI agents, Wed Nov 11 2026. No macro, syntax, notation, axiom, sorry.
-/
import Derived.Test.YtblmlglkjmilkabDoorRows
import GoSem.ClaimSeven
namespace Go.Proofs.YtblmlglkjmilkabDoor
namespace Rows

/-- THE TIED CARD OF 'noontidetop.TopCalendar'. -/
def topCalendarCard : Claim7 := { stood := { row := topCalendarRow, standIns := [], harness := (true, "a133401acce9f5b6acbc48f38c4d954e7a8ddd76faea45a7fa4755936965c3ec"), looks := false }, kinds := [], alts := [], laidByText := true, laidKinds := [.data], laidTests := true, laidLooks := .later }
def TopCalendarCardSaid : Prop := Claim7.holds Tryd.pinned (.plain (OpenSpec.ofChange topCalendarSpec)) topCalendarCard

/-- THE SECOND FORM's CARD OF 'noontidetop.TopCalendar'. -/
def topCalendarUptoCard : Claim7 := { stood := { row := topCalendarUptoRow, standIns := [], harness := (true, "a133401acce9f5b6acbc48f38c4d954e7a8ddd76faea45a7fa4755936965c3ec"), looks := false }, kinds := [], alts := [], laidByText := true, laidKinds := [.data], laidTests := true, laidLooks := .later }
def TopCalendarUptoCardSaid : Prop := Claim7.holds Tryd.pinned (.plain (OpenSpec.upto topCalendarSpec)) topCalendarUptoCard
end Rows
end Go.Proofs.YtblmlglkjmilkabDoor
