/-
  DERIVED. GIVEN WITH THE SEED: THE CARDS: each row of YtjacdlekgdnndaaGreatDoorRows.lean that lists a variable, with what it lists TIED to the program's text (the seventh form; the later family's looks); each row that meets fmt, with fmt's text TOLD by the authors' own Lean function (tested against real Go, not proved from fmt's source: count such statements apart). THE CARD IS WHAT COUNTS. Prove the row's statement (the work); the ties are given (YtjacdlekgdnndaaGreatDoorTie.lean); close each card by the builder's one call (the guide's Derived/Test/ToyasCard.lean, 'card_holds'). Laid BY PROGRAM, IN A SANDBOX (cutbox-door.mjs). By AI agents, Wed Nov 11 2026. No macro, syntax, notation, axiom, sorry.
-/
import Derived.Test.YtjacdlekgdnndaaGreatDoorRows
import GoSem.ClaimSeven
namespace Go.Proofs.YtjacdlekgdnndaaGreatDoor
namespace Rows

/-- THE TIED CARD OF 'laws.FnCallsPlay'. -/
def fnCallsPlayCard : Claim7 := { stood := { row := fnCallsPlayRow, standIns := [], harness := (true, "4da6b4829191363bf999a553271a176ce19f66fcf59cf10b8359d4aff9171281"), looks := true }, kinds := [], alts := [], laidByText := true, laidKinds := [.data, .data, .data, .data, .sentinel, .sentinel, .pinned], laidTests := true, laidLooks := .later }
def FnCallsPlayCardSaid : Prop := Claim7.holds Tryz.pinned (.plain (OpenSpec.ofChange fnCallsPlaySpec)) fnCallsPlayCard

/-- THE TIED CARD OF 'laws.FnPagerNew'. -/
def fnPagerNewCard : Claim7 := { stood := { row := fnPagerNewRow, standIns := [], harness := (true, "4da6b4829191363bf999a553271a176ce19f66fcf59cf10b8359d4aff9171281"), looks := true }, kinds := [], alts := [], laidByText := true, laidKinds := [.data, .pinned], laidTests := true, laidLooks := .later }
def FnPagerNewCardSaid : Prop := Claim7.holds Tryz.pinned (.plain (OpenSpec.ofChange fnPagerNewSpec)) fnPagerNewCard

/-- THE TIED CARD OF 'laws.FnExactPagerNew'. -/
def fnExactPagerNewCard : Claim7 := { stood := { row := fnExactPagerNewRow, standIns := [], harness := (true, "4da6b4829191363bf999a553271a176ce19f66fcf59cf10b8359d4aff9171281"), looks := true }, kinds := [], alts := [], laidByText := true, laidKinds := [.data, .pinned], laidTests := true, laidLooks := .later }
def FnExactPagerNewCardSaid : Prop := Claim7.holds Tryz.pinned (.plain (OpenSpec.ofChange fnExactPagerNewSpec)) fnExactPagerNewCard

/-- THE TIED CARD OF 'laws.FnPlayFlat'. -/
def fnPlayFlatCard : Claim7 := { stood := { row := fnPlayFlatRow, standIns := [], harness := (true, "4da6b4829191363bf999a553271a176ce19f66fcf59cf10b8359d4aff9171281"), looks := true }, kinds := [], alts := [], laidByText := true, laidKinds := [.data, .pinned], laidTests := true, laidLooks := .later }
def FnPlayFlatCardSaid : Prop := Claim7.holds Tryz.pinned (.plain (OpenSpec.ofChange fnPlayFlatSpec)) fnPlayFlatCard

/-- THE SECOND FORM's CARD OF 'laws.FnCallsPlay'. -/
def fnCallsPlayUptoCard : Claim7 := { stood := { row := fnCallsPlayUptoRow, standIns := [], harness := (true, "4da6b4829191363bf999a553271a176ce19f66fcf59cf10b8359d4aff9171281"), looks := true }, kinds := [], alts := [], laidByText := true, laidKinds := [.data, .data, .data, .data, .sentinel, .sentinel, .pinned], laidTests := true, laidLooks := .later }
def FnCallsPlayUptoCardSaid : Prop := Claim7.holds Tryz.pinned (.plain (OpenSpec.upto fnCallsPlaySpec)) fnCallsPlayUptoCard

/-- THE SECOND FORM's CARD OF 'laws.FnPagerNew'. -/
def fnPagerNewUptoCard : Claim7 := { stood := { row := fnPagerNewUptoRow, standIns := [], harness := (true, "4da6b4829191363bf999a553271a176ce19f66fcf59cf10b8359d4aff9171281"), looks := true }, kinds := [], alts := [], laidByText := true, laidKinds := [.data, .pinned], laidTests := true, laidLooks := .later }
def FnPagerNewUptoCardSaid : Prop := Claim7.holds Tryz.pinned (.plain (OpenSpec.upto fnPagerNewSpec)) fnPagerNewUptoCard

/-- THE SECOND FORM's CARD OF 'laws.FnExactPagerNew'. -/
def fnExactPagerNewUptoCard : Claim7 := { stood := { row := fnExactPagerNewUptoRow, standIns := [], harness := (true, "4da6b4829191363bf999a553271a176ce19f66fcf59cf10b8359d4aff9171281"), looks := true }, kinds := [], alts := [], laidByText := true, laidKinds := [.data, .pinned], laidTests := true, laidLooks := .later }
def FnExactPagerNewUptoCardSaid : Prop := Claim7.holds Tryz.pinned (.plain (OpenSpec.upto fnExactPagerNewSpec)) fnExactPagerNewUptoCard

/-- THE SECOND FORM's CARD OF 'laws.FnPlayFlat'. -/
def fnPlayFlatUptoCard : Claim7 := { stood := { row := fnPlayFlatUptoRow, standIns := [], harness := (true, "4da6b4829191363bf999a553271a176ce19f66fcf59cf10b8359d4aff9171281"), looks := true }, kinds := [], alts := [], laidByText := true, laidKinds := [.data, .pinned], laidTests := true, laidLooks := .later }
def FnPlayFlatUptoCardSaid : Prop := Claim7.holds Tryz.pinned (.plain (OpenSpec.upto fnPlayFlatSpec)) fnPlayFlatUptoCard
end Rows
end Go.Proofs.YtjacdlekgdnndaaGreatDoor
