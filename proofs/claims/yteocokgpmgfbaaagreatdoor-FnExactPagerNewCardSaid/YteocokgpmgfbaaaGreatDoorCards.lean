/-
  DERIVED. GIVEN WITH THE SEED: THE CARDS: each row of YteocokgpmgfbaaaGreatDoorRows.lean that lists a variable, with what it lists TIED to the program's text (the seventh form; the later family's looks); each row that meets fmt, with fmt's text TOLD by the authors' own Lean function (tested against real Go, not proved from fmt's source: count such statements apart). THE CARD IS WHAT COUNTS. Prove the row's statement (the work); the ties are given (YteocokgpmgfbaaaGreatDoorTie.lean); close each card by the builder's one call (the guide's Derived/Test/ToyasCard.lean, 'card_holds'). Laid BY PROGRAM, IN A SANDBOX (cutbox-door.mjs). By AI agents, Wed Nov 11 2026. No macro, syntax, notation, axiom, sorry.
-/
import Derived.Test.YteocokgpmgfbaaaGreatDoorRows
import GoSem.ClaimSeven
namespace Go.Proofs.YteocokgpmgfbaaaGreatDoor
namespace Rows

/-- THE TIED CARD OF 'laws.FnExactPagerNew'. -/
def fnExactPagerNewCard : Claim7 := { stood := { row := fnExactPagerNewRow, standIns := [], harness := (true, "279c014e17812246e66823eea8859aa274992f22cc1d908c826ebc7683710333"), looks := false }, kinds := [], alts := [], laidByText := true, laidKinds := [.data, .pinned], laidTests := true, laidLooks := .later }
def FnExactPagerNewCardSaid : Prop := Claim7.holds Tryz.pinned (.plain (OpenSpec.ofChange fnExactPagerNewSpec)) fnExactPagerNewCard

/-- THE SECOND FORM's CARD OF 'laws.FnExactPagerNew'. -/
def fnExactPagerNewUptoCard : Claim7 := { stood := { row := fnExactPagerNewUptoRow, standIns := [], harness := (true, "279c014e17812246e66823eea8859aa274992f22cc1d908c826ebc7683710333"), looks := false }, kinds := [], alts := [], laidByText := true, laidKinds := [.data, .pinned], laidTests := true, laidLooks := .later }
def FnExactPagerNewUptoCardSaid : Prop := Claim7.holds Tryz.pinned (.plain (OpenSpec.upto fnExactPagerNewSpec)) fnExactPagerNewUptoCard
end Rows
end Go.Proofs.YteocokgpmgfbaaaGreatDoor
