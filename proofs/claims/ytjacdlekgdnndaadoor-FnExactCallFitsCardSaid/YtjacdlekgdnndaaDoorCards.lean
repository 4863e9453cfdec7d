/-
  DERIVED. GIVEN WITH THE SEED: THE CARDS: each row of YtjacdlekgdnndaaDoorRows.lean that lists a variable, with what it lists TIED to the program's text (the seventh form; the later family's looks); each row that meets fmt, with fmt's text TOLD by the authors' own Lean function (tested against real Go, not proved from fmt's source: count such statements apart). THE CARD IS WHAT COUNTS. Prove the row's statement (the work); the ties are given (YtjacdlekgdnndaaDoorTie.lean); close each card by the builder's one call (the guide's Derived/Test/ToyasCard.lean, 'card_holds'). Laid BY PROGRAM, IN A SANDBOX (cutbox-door.mjs). By AI agents, Wed Nov 11 2026. No macro, syntax, notation, axiom, sorry.
-/
import Derived.Test.YtjacdlekgdnndaaDoorRows
import GoSem.ClaimSeven
namespace Go.Proofs.YtjacdlekgdnndaaDoor
namespace Rows

/-- THE TIED CARD OF 'laws.FnExactCallFits'. -/
def fnExactCallFitsCard : Claim7 := { stood := { row := fnExactCallFitsRow, standIns := [], harness := (true, "832e9c896bdbcf592e12e8e109f385e15ca803419dcafbffd4cd7a44a10fbf06"), looks := false }, kinds := [], alts := [], laidByText := true, laidKinds := [.data, .pinned], laidTests := true, laidLooks := .later }
def FnExactCallFitsCardSaid : Prop := Claim7.holds Tryd.pinned (.plain (OpenSpec.ofChange fnExactCallFitsSpec)) fnExactCallFitsCard

/-- THE SECOND FORM's CARD OF 'laws.FnExactCallFits'. -/
def fnExactCallFitsUptoCard : Claim7 := { stood := { row := fnExactCallFitsUptoRow, standIns := [], harness := (true, "832e9c896bdbcf592e12e8e109f385e15ca803419dcafbffd4cd7a44a10fbf06"), looks := false }, kinds := [], alts := [], laidByText := true, laidKinds := [.data, .pinned], laidTests := true, laidLooks := .later }
def FnExactCallFitsUptoCardSaid : Prop := Claim7.holds Tryd.pinned (.plain (OpenSpec.upto fnExactCallFitsSpec)) fnExactCallFitsUptoCard
end Rows
end Go.Proofs.YtjacdlekgdnndaaDoor
