/-
  DERIVED. GIVEN WITH THE SEED: THE CARDS: each row of YtaopbdankjkfpaaGreatDoorRows.lean that lists a variable, with what it lists TIED to the program's text (the seventh form; the later family's looks); each row that meets fmt, with fmt's text TOLD by the authors' own Lean function (tested against real Go, not proved from fmt's source: count such statements apart). THE CARD IS WHAT COUNTS. Prove the row's statement (the work); the ties are given (YtaopbdankjkfpaaGreatDoorTie.lean); close each card by the builder's one call (the guide's Derived/Test/ToyasCard.lean, 'card_holds'). Laid BY PROGRAM, IN A SANDBOX (cutbox-door.mjs). By AI agents, Wed Nov 11 2026. No macro, syntax, notation, axiom, sorry.
-/
import Derived.Test.YtaopbdankjkfpaaGreatDoorRows
import GoSem.ClaimSeven
namespace Go.Proofs.YtaopbdankjkfpaaGreatDoor
namespace Rows

/-- THE TIED CARD OF 'laws.FnOtherCall'. -/
def fnOtherCallCard : Claim7 := { stood := { row := fnOtherCallRow, standIns := [], harness := (true, "a7bedfe14938d4779f4906f4802c13e44f16458f654c5e3e54599e63bf3efe27"), looks := false }, kinds := [], alts := [], laidByText := true, laidKinds := [.data, .pinned], laidTests := true, laidLooks := .later }
def FnOtherCallCardSaid : Prop := Claim7.holds Tryz.pinned (.plain (OpenSpec.ofChange fnOtherCallSpec)) fnOtherCallCard

/-- THE TIED CARD OF 'laws.FnOther'. -/
def fnOtherCard : Claim7 := { stood := { row := fnOtherRow, standIns := [], harness := (true, "a7bedfe14938d4779f4906f4802c13e44f16458f654c5e3e54599e63bf3efe27"), looks := false }, kinds := [], alts := [], laidByText := true, laidKinds := [.data, .pinned], laidTests := true, laidLooks := .later }
def FnOtherCardSaid : Prop := Claim7.holds Tryz.pinned (.plain (OpenSpec.ofChange fnOtherSpec)) fnOtherCard

/-- THE SECOND FORM's CARD OF 'laws.FnOtherCall'. -/
def fnOtherCallUptoCard : Claim7 := { stood := { row := fnOtherCallUptoRow, standIns := [], harness := (true, "a7bedfe14938d4779f4906f4802c13e44f16458f654c5e3e54599e63bf3efe27"), looks := false }, kinds := [], alts := [], laidByText := true, laidKinds := [.data, .pinned], laidTests := true, laidLooks := .later }
def FnOtherCallUptoCardSaid : Prop := Claim7.holds Tryz.pinned (.plain (OpenSpec.upto fnOtherCallSpec)) fnOtherCallUptoCard

/-- THE SECOND FORM's CARD OF 'laws.FnOther'. -/
def fnOtherUptoCard : Claim7 := { stood := { row := fnOtherUptoRow, standIns := [], harness := (true, "a7bedfe14938d4779f4906f4802c13e44f16458f654c5e3e54599e63bf3efe27"), looks := false }, kinds := [], alts := [], laidByText := true, laidKinds := [.data, .pinned], laidTests := true, laidLooks := .later }
def FnOtherUptoCardSaid : Prop := Claim7.holds Tryz.pinned (.plain (OpenSpec.upto fnOtherSpec)) fnOtherUptoCard
end Rows
end Go.Proofs.YtaopbdankjkfpaaGreatDoor
