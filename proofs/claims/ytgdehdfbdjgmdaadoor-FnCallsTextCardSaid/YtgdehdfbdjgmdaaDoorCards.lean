/-
  DERIVED. GIVEN WITH THE SEED: THE CARDS: each row of YtgdehdfbdjgmdaaDoorRows.lean that lists a variable, with what it lists TIED to the program's text (the seventh form; the later family's looks); each row that meets fmt, with fmt's text TOLD by the authors' own Lean function (tested against real Go, not proved from fmt's source: count such statements apart). THE CARD IS WHAT COUNTS. Prove the row's statement (the work); the ties are given (YtgdehdfbdjgmdaaDoorTie.lean); close each card by the builder's one call (the guide's Derived/Test/ToyasCard.lean, 'card_holds'). Laid BY PROGRAM, IN A SANDBOX (cutbox-door.mjs). By AI agents, Wed Nov 11 2026. No macro, syntax, notation, axiom, sorry.
-/
import Derived.Test.YtgdehdfbdjgmdaaDoorRows
import GoSem.ClaimSeven
namespace Go.Proofs.YtgdehdfbdjgmdaaDoor
namespace Rows

/-- THE TIED CARD OF 'laws.FnExactCallText'. -/
def fnExactCallTextCard : Claim7 := { stood := { row := fnExactCallTextRow, standIns := [], harness := (true, "c5f677e0cdcac42d97bea1cce3e29bffd8433c77f98bedb567baeb63931af33b"), looks := true }, kinds := [], alts := [], laidByText := true, laidKinds := [.data, .data, .data, .data, .pinned], laidTests := true, laidLooks := .later }
def FnExactCallTextCardSaid : Prop := Claim7.holds Tryd.pinned (.plain (OpenSpec.ofChange fnExactCallTextSpec)) fnExactCallTextCard

/-- THE TIED CARD OF 'laws.FnCallTextNone'. -/
def fnCallTextNoneCard : Claim7 := { stood := { row := fnCallTextNoneRow, standIns := [], harness := (true, "c5f677e0cdcac42d97bea1cce3e29bffd8433c77f98bedb567baeb63931af33b"), looks := true }, kinds := [], alts := [], laidByText := true, laidKinds := [.data, .data, .data, .data, .pinned], laidTests := true, laidLooks := .later }
def FnCallTextNoneCardSaid : Prop := Claim7.holds Tryd.pinned (.plain (OpenSpec.ofChange fnCallTextNoneSpec)) fnCallTextNoneCard

/-- THE TIED CARD OF 'laws.FnExactCallsText'. -/
def fnExactCallsTextCard : Claim7 := { stood := { row := fnExactCallsTextRow, standIns := [], harness := (true, "c5f677e0cdcac42d97bea1cce3e29bffd8433c77f98bedb567baeb63931af33b"), looks := true }, kinds := [], alts := [], laidByText := true, laidKinds := [.data, .data, .data, .data, .pinned], laidTests := true, laidLooks := .later }
def FnExactCallsTextCardSaid : Prop := Claim7.holds Tryd.pinned (.plain (OpenSpec.ofChange fnExactCallsTextSpec)) fnExactCallsTextCard

/-- THE TIED CARD OF 'laws.FnCallText'. -/
def fnCallTextCard : Claim7 := { stood := { row := fnCallTextRow, standIns := [], harness := (true, "c5f677e0cdcac42d97bea1cce3e29bffd8433c77f98bedb567baeb63931af33b"), looks := true }, kinds := [], alts := [], laidByText := true, laidKinds := [.data, .data, .data, .data, .sentinel, .sentinel, .pinned], laidTests := true, laidLooks := .later }
def FnCallTextCardSaid : Prop := Claim7.holds Tryd.pinned (.plain (OpenSpec.ofChange fnCallTextSpec)) fnCallTextCard

/-- THE TIED CARD OF 'laws.FnExactCallParse'. -/
def fnExactCallParseCard : Claim7 := { stood := { row := fnExactCallParseRow, standIns := [], harness := (true, "c5f677e0cdcac42d97bea1cce3e29bffd8433c77f98bedb567baeb63931af33b"), looks := true }, kinds := [], alts := [], laidByText := true, laidKinds := [.data, .data, .data, .data, .sentinel, .sentinel, .pinned], laidTests := true, laidLooks := .later }
def FnExactCallParseCardSaid : Prop := Claim7.holds Tryd.pinned (.plain (OpenSpec.ofChange fnExactCallParseSpec)) fnExactCallParseCard

/-- THE TIED CARD OF 'laws.FnCallParseBad'. -/
def fnCallParseBadCard : Claim7 := { stood := { row := fnCallParseBadRow, standIns := [], harness := (true, "c5f677e0cdcac42d97bea1cce3e29bffd8433c77f98bedb567baeb63931af33b"), looks := true }, kinds := [], alts := [], laidByText := true, laidKinds := [.data, .data, .data, .data, .sentinel, .sentinel, .pinned], laidTests := true, laidLooks := .later }
def FnCallParseBadCardSaid : Prop := Claim7.holds Tryd.pinned (.plain (OpenSpec.ofChange fnCallParseBadSpec)) fnCallParseBadCard

/-- THE TIED CARD OF 'laws.FnCallParse'. -/
def fnCallParseCard : Claim7 := { stood := { row := fnCallParseRow, standIns := [], harness := (true, "c5f677e0cdcac42d97bea1cce3e29bffd8433c77f98bedb567baeb63931af33b"), looks := true }, kinds := [], alts := [], laidByText := true, laidKinds := [.data, .data, .data, .data, .sentinel, .sentinel, .pinned], laidTests := true, laidLooks := .later }
def FnCallParseCardSaid : Prop := Claim7.holds Tryd.pinned (.plain (OpenSpec.ofChange fnCallParseSpec)) fnCallParseCard

/-- THE TIED CARD OF 'laws.FnCallsParseOne'. -/
def fnCallsParseOneCard : Claim7 := { stood := { row := fnCallsParseOneRow, standIns := [], harness := (true, "c5f677e0cdcac42d97bea1cce3e29bffd8433c77f98bedb567baeb63931af33b"), looks := true }, kinds := [], alts := [], laidByText := true, laidKinds := [.data, .data, .data, .data, .sentinel, .sentinel, .pinned], laidTests := true, laidLooks := .later }
def FnCallsParseOneCardSaid : Prop := Claim7.holds Tryd.pinned (.plain (OpenSpec.ofChange fnCallsParseOneSpec)) fnCallsParseOneCard

/-- THE TIED CARD OF 'laws.FnExactCallsParse'. -/
def fnExactCallsParseCard : Claim7 := { stood := { row := fnExactCallsParseRow, standIns := [], harness := (true, "c5f677e0cdcac42d97bea1cce3e29bffd8433c77f98bedb567baeb63931af33b"), looks := true }, kinds := [], alts := [], laidByText := true, laidKinds := [.data, .data, .data, .data, .sentinel, .sentinel, .pinned], laidTests := true, laidLooks := .later }
def FnExactCallsParseCardSaid : Prop := Claim7.holds Tryd.pinned (.plain (OpenSpec.ofChange fnExactCallsParseSpec)) fnExactCallsParseCard

/-- THE TIED CARD OF 'laws.FnCallsText'. -/
def fnCallsTextCard : Claim7 := { stood := { row := fnCallsTextRow, standIns := [], harness := (true, "c5f677e0cdcac42d97bea1cce3e29bffd8433c77f98bedb567baeb63931af33b"), looks := true }, kinds := [], alts := [], laidByText := true, laidKinds := [.data, .data, .data, .data, .sentinel, .sentinel, .pinned], laidTests := true, laidLooks := .later }
def FnCallsTextCardSaid : Prop := Claim7.holds Tryd.pinned (.plain (OpenSpec.ofChange fnCallsTextSpec)) fnCallsTextCard

/-- THE SECOND FORM's CARD OF 'laws.FnExactCallText'. -/
def fnExactCallTextUptoCard : Claim7 := { stood := { row := fnExactCallTextUptoRow, standIns := [], harness := (true, "c5f677e0cdcac42d97bea1cce3e29bffd8433c77f98bedb567baeb63931af33b"), looks := true }, kinds := [], alts := [], laidByText := true, laidKinds := [.data, .data, .data, .data, .pinned], laidTests := true, laidLooks := .later }
def FnExactCallTextUptoCardSaid : Prop := Claim7.holds Tryd.pinned (.plain (OpenSpec.upto fnExactCallTextSpec)) fnExactCallTextUptoCard

/-- THE SECOND FORM's CARD OF 'laws.FnCallTextNone'. -/
def fnCallTextNoneUptoCard : Claim7 := { stood := { row := fnCallTextNoneUptoRow, standIns := [], harness := (true, "c5f677e0cdcac42d97bea1cce3e29bffd8433c77f98bedb567baeb63931af33b"), looks := true }, kinds := [], alts := [], laidByText := true, laidKinds := [.data, .data, .data, .data, .pinned], laidTests := true, laidLooks := .later }
def FnCallTextNoneUptoCardSaid : Prop := Claim7.holds Tryd.pinned (.plain (OpenSpec.upto fnCallTextNoneSpec)) fnCallTextNoneUptoCard

/-- THE SECOND FORM's CARD OF 'laws.FnExactCallsText'. -/
def fnExactCallsTextUptoCard : Claim7 := { stood := { row := fnExactCallsTextUptoRow, standIns := [], harness := (true, "c5f677e0cdcac42d97bea1cce3e29bffd8433c77f98bedb567baeb63931af33b"), looks := true }, kinds := [], alts := [], laidByText := true, laidKinds := [.data, .data, .data, .data, .pinned], laidTests := true, laidLooks := .later }
def FnExactCallsTextUptoCardSaid : Prop := Claim7.holds Tryd.pinned (.plain (OpenSpec.upto fnExactCallsTextSpec)) fnExactCallsTextUptoCard

/-- THE SECOND FORM's CARD OF 'laws.FnCallText'. -/
def fnCallTextUptoCard : Claim7 := { stood := { row := fnCallTextUptoRow, standIns := [], harness := (true, "c5f677e0cdcac42d97bea1cce3e29bffd8433c77f98bedb567baeb63931af33b"), looks := true }, kinds := [], alts := [], laidByText := true, laidKinds := [.data, .data, .data, .data, .sentinel, .sentinel, .pinned], laidTests := true, laidLooks := .later }
def FnCallTextUptoCardSaid : Prop := Claim7.holds Tryd.pinned (.plain (OpenSpec.upto fnCallTextSpec)) fnCallTextUptoCard

/-- THE SECOND FORM's CARD OF 'laws.FnExactCallParse'. -/
def fnExactCallParseUptoCard : Claim7 := { stood := { row := fnExactCallParseUptoRow, standIns := [], harness := (true, "c5f677e0cdcac42d97bea1cce3e29bffd8433c77f98bedb567baeb63931af33b"), looks := true }, kinds := [], alts := [], laidByText := true, laidKinds := [.data, .data, .data, .data, .sentinel, .sentinel, .pinned], laidTests := true, laidLooks := .later }
def FnExactCallParseUptoCardSaid : Prop := Claim7.holds Tryd.pinned (.plain (OpenSpec.upto fnExactCallParseSpec)) fnExactCallParseUptoCard

/-- THE SECOND FORM's CARD OF 'laws.FnCallParseBad'. -/
def fnCallParseBadUptoCard : Claim7 := { stood := { row := fnCallParseBadUptoRow, standIns := [], harness := (true, "c5f677e0cdcac42d97bea1cce3e29bffd8433c77f98bedb567baeb63931af33b"), looks := true }, kinds := [], alts := [], laidByText := true, laidKinds := [.data, .data, .data, .data, .sentinel, .sentinel, .pinned], laidTests := true, laidLooks := .later }
def FnCallParseBadUptoCardSaid : Prop := Claim7.holds Tryd.pinned (.plain (OpenSpec.upto fnCallParseBadSpec)) fnCallParseBadUptoCard

/-- THE SECOND FORM's CARD OF 'laws.FnCallParse'. -/
def fnCallParseUptoCard : Claim7 := { stood := { row := fnCallParseUptoRow, standIns := [], harness := (true, "c5f677e0cdcac42d97bea1cce3e29bffd8433c77f98bedb567baeb63931af33b"), looks := true }, kinds := [], alts := [], laidByText := true, laidKinds := [.data, .data, .data, .data, .sentinel, .sentinel, .pinned], laidTests := true, laidLooks := .later }
def FnCallParseUptoCardSaid : Prop := Claim7.holds Tryd.pinned (.plain (OpenSpec.upto fnCallParseSpec)) fnCallParseUptoCard

/-- THE SECOND FORM's CARD OF 'laws.FnCallsParseOne'. -/
def fnCallsParseOneUptoCard : Claim7 := { stood := { row := fnCallsParseOneUptoRow, standIns := [], harness := (true, "c5f677e0cdcac42d97bea1cce3e29bffd8433c77f98bedb567baeb63931af33b"), looks := true }, kinds := [], alts := [], laidByText := true, laidKinds := [.data, .data, .data, .data, .sentinel, .sentinel, .pinned], laidTests := true, laidLooks := .later }
def FnCallsParseOneUptoCardSaid : Prop := Claim7.holds Tryd.pinned (.plain (OpenSpec.upto fnCallsParseOneSpec)) fnCallsParseOneUptoCard

/-- THE SECOND FORM's CARD OF 'laws.FnExactCallsParse'. -/
def fnExactCallsParseUptoCard : Claim7 := { stood := { row := fnExactCallsParseUptoRow, standIns := [], harness := (true, "c5f677e0cdcac42d97bea1cce3e29bffd8433c77f98bedb567baeb63931af33b"), looks := true }, kinds := [], alts := [], laidByText := true, laidKinds := [.data, .data, .data, .data, .sentinel, .sentinel, .pinned], laidTests := true, laidLooks := .later }
def FnExactCallsParseUptoCardSaid : Prop := Claim7.holds Tryd.pinned (.plain (OpenSpec.upto fnExactCallsParseSpec)) fnExactCallsParseUptoCard

/-- THE SECOND FORM's CARD OF 'laws.FnCallsText'. -/
def fnCallsTextUptoCard : Claim7 := { stood := { row := fnCallsTextUptoRow, standIns := [], harness := (true, "c5f677e0cdcac42d97bea1cce3e29bffd8433c77f98bedb567baeb63931af33b"), looks := true }, kinds := [], alts := [], laidByText := true, laidKinds := [.data, .data, .data, .data, .sentinel, .sentinel, .pinned], laidTests := true, laidLooks := .later }
def FnCallsTextUptoCardSaid : Prop := Claim7.holds Tryd.pinned (.plain (OpenSpec.upto fnCallsTextSpec)) fnCallsTextUptoCard
end Rows
end Go.Proofs.YtgdehdfbdjgmdaaDoor
