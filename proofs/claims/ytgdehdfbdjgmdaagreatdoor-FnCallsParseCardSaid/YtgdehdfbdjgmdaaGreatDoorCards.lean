/-
  DERIVED. GIVEN WITH THE SEED: THE CARDS: each row of YtgdehdfbdjgmdaaGreatDoorRows.lean that lists a variable, with what it lists TIED to the program's text (the seventh form; the later family's looks); each row that meets fmt, with fmt's text TOLD by the authors' own Lean function (tested against real Go, not proved from fmt's source: count such statements apart). THE CARD IS WHAT COUNTS. Prove the row's statement (the work); the ties are given (YtgdehdfbdjgmdaaGreatDoorTie.lean); close each card by the builder's one call (the guide's Derived/Test/ToyasCard.lean, 'card_holds'). Laid BY PROGRAM, IN A SANDBOX (cutbox-door.mjs). By AI agents, Wed Nov 11 2026. No macro, syntax, notation, axiom, sorry.
-/
import Derived.Test.YtgdehdfbdjgmdaaGreatDoorRows
import GoSem.ClaimSeven
namespace Go.Proofs.YtgdehdfbdjgmdaaGreatDoor
namespace Rows

/-- THE TIED CARD OF 'laws.FnCallsParse'. -/
def fnCallsParseCard : Claim7 := { stood := { row := fnCallsParseRow, standIns := [], harness := (true, "78371b87802db99b54c8190bff3bb6f952007ea6ca1229604d303eafdb83ccc4"), looks := true }, kinds := [], alts := [], laidByText := true, laidKinds := [.data, .data, .data, .data, .sentinel, .sentinel, .pinned], laidTests := true, laidLooks := .later }
def FnCallsParseCardSaid : Prop := Claim7.holds Tryz.pinned (.plain (OpenSpec.ofChange fnCallsParseSpec)) fnCallsParseCard

/-- THE SECOND FORM's CARD OF 'laws.FnCallsParse'. -/
def fnCallsParseUptoCard : Claim7 := { stood := { row := fnCallsParseUptoRow, standIns := [], harness := (true, "78371b87802db99b54c8190bff3bb6f952007ea6ca1229604d303eafdb83ccc4"), looks := true }, kinds := [], alts := [], laidByText := true, laidKinds := [.data, .data, .data, .data, .sentinel, .sentinel, .pinned], laidTests := true, laidLooks := .later }
def FnCallsParseUptoCardSaid : Prop := Claim7.holds Tryz.pinned (.plain (OpenSpec.upto fnCallsParseSpec)) fnCallsParseUptoCard
end Rows
end Go.Proofs.YtgdehdfbdjgmdaaGreatDoor
