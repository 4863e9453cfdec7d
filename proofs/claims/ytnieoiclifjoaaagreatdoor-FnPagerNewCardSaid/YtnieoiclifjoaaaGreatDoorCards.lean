/-
  DERIVED. GIVEN WITH THE SEED: THE CARDS: each row of YtnieoiclifjoaaaGreatDoorRows.lean that lists a variable, with what it lists TIED to the program's text (the seventh form; the later family's looks); each row that meets fmt, with fmt's text TOLD by the authors' own Lean function (tested against real Go, not proved from fmt's source: count such statements apart). THE CARD IS WHAT COUNTS. Prove the row's statement (the work); the ties are given (YtnieoiclifjoaaaGreatDoorTie.lean); close each card by the builder's one call (the guide's Derived/Test/ToyasCard.lean, 'card_holds'). Laid BY PROGRAM, IN A SANDBOX (cutbox-door.mjs). By AI agents, Wed Nov 11 2026. No macro, syntax, notation, axiom, sorry.
-/
import Derived.Test.YtnieoiclifjoaaaGreatDoorRows
import GoSem.ClaimSeven
namespace Go.Proofs.YtnieoiclifjoaaaGreatDoor
namespace Rows

/-- THE TIED CARD OF 'laws.FnPagerNew'. -/
def fnPagerNewCard : Claim7 := { stood := { row := fnPagerNewRow, standIns := [], harness := (true, "79710c0e8f3a851c5b17ad87b5c2315858a3474a8092f5030c73a7bad36c3413"), looks := true }, kinds := [], alts := [], laidByText := true, laidKinds := [.data, .pinned], laidTests := true, laidLooks := .later }
def FnPagerNewCardSaid : Prop := Claim7.holds Tryz.pinned (.plain (OpenSpec.ofChange fnPagerNewSpec)) fnPagerNewCard

/-- THE TIED CARD OF 'laws.FnExactExecute'. -/
def fnExactExecuteCard : Claim7 := { stood := { row := fnExactExecuteRow, standIns := [], harness := (true, "79710c0e8f3a851c5b17ad87b5c2315858a3474a8092f5030c73a7bad36c3413"), looks := true }, kinds := [], alts := [], laidByText := true, laidKinds := [.data, .data, .data, .data, .sentinel, .sentinel, .pinned], laidTests := true, laidLooks := .later }
def FnExactExecuteCardSaid : Prop := Claim7.holds Tryz.pinned (.plain (OpenSpec.ofChange fnExactExecuteSpec)) fnExactExecuteCard

/-- THE TIED CARD OF 'laws.FnScript'. -/
def fnScriptCard : Claim7 := { stood := { row := fnScriptRow, standIns := [], harness := (true, "79710c0e8f3a851c5b17ad87b5c2315858a3474a8092f5030c73a7bad36c3413"), looks := true }, kinds := [], alts := [], laidByText := true, laidKinds := [.data, .data, .data, .data, .sentinel, .sentinel, .pinned], laidTests := true, laidLooks := .later }
def FnScriptCardSaid : Prop := Claim7.holds Tryz.pinned (.plain (OpenSpec.ofChange fnScriptSpec)) fnScriptCard

/-- THE TIED CARD OF 'laws.FnScriptNo'. -/
def fnScriptNoCard : Claim7 := { stood := { row := fnScriptNoRow, standIns := [], harness := (true, "79710c0e8f3a851c5b17ad87b5c2315858a3474a8092f5030c73a7bad36c3413"), looks := true }, kinds := [], alts := [], laidByText := true, laidKinds := [.data, .data, .data, .data, .sentinel, .sentinel, .pinned], laidTests := true, laidLooks := .later }
def FnScriptNoCardSaid : Prop := Claim7.holds Tryz.pinned (.plain (OpenSpec.ofChange fnScriptNoSpec)) fnScriptNoCard

/-- THE TIED CARD OF 'laws.FnScriptOther'. -/
def fnScriptOtherCard : Claim7 := { stood := { row := fnScriptOtherRow, standIns := [], harness := (true, "79710c0e8f3a851c5b17ad87b5c2315858a3474a8092f5030c73a7bad36c3413"), looks := true }, kinds := [], alts := [], laidByText := true, laidKinds := [.data, .data, .data, .data, .sentinel, .sentinel, .pinned], laidTests := true, laidLooks := .later }
def FnScriptOtherCardSaid : Prop := Claim7.holds Tryz.pinned (.plain (OpenSpec.ofChange fnScriptOtherSpec)) fnScriptOtherCard

/-- THE TIED CARD OF 'laws.FnScriptSwap'. -/
def fnScriptSwapCard : Claim7 := { stood := { row := fnScriptSwapRow, standIns := [], harness := (true, "79710c0e8f3a851c5b17ad87b5c2315858a3474a8092f5030c73a7bad36c3413"), looks := true }, kinds := [], alts := [], laidByText := true, laidKinds := [.data, .data, .data, .data, .sentinel, .sentinel, .pinned], laidTests := true, laidLooks := .later }
def FnScriptSwapCardSaid : Prop := Claim7.holds Tryz.pinned (.plain (OpenSpec.ofChange fnScriptSwapSpec)) fnScriptSwapCard

/-- THE TIED CARD OF 'laws.FnScriptTable'. -/
def fnScriptTableCard : Claim7 := { stood := { row := fnScriptTableRow, standIns := [], harness := (true, "79710c0e8f3a851c5b17ad87b5c2315858a3474a8092f5030c73a7bad36c3413"), looks := true }, kinds := [], alts := [], laidByText := true, laidKinds := [.data, .data, .data, .data, .sentinel, .sentinel, .pinned], laidTests := true, laidLooks := .later }
def FnScriptTableCardSaid : Prop := Claim7.holds Tryz.pinned (.plain (OpenSpec.ofChange fnScriptTableSpec)) fnScriptTableCard

/-- THE TIED CARD OF 'laws.FnScriptCut'. -/
def fnScriptCutCard : Claim7 := { stood := { row := fnScriptCutRow, standIns := [], harness := (true, "79710c0e8f3a851c5b17ad87b5c2315858a3474a8092f5030c73a7bad36c3413"), looks := true }, kinds := [], alts := [], laidByText := true, laidKinds := [.data, .data, .data, .data, .sentinel, .sentinel, .pinned], laidTests := true, laidLooks := .later }
def FnScriptCutCardSaid : Prop := Claim7.holds Tryz.pinned (.plain (OpenSpec.ofChange fnScriptCutSpec)) fnScriptCutCard

/-- THE TIED CARD OF 'laws.FnScriptShow'. -/
def fnScriptShowCard : Claim7 := { stood := { row := fnScriptShowRow, standIns := [], harness := (true, "79710c0e8f3a851c5b17ad87b5c2315858a3474a8092f5030c73a7bad36c3413"), looks := true }, kinds := [], alts := [], laidByText := true, laidKinds := [.data, .data, .data, .data, .sentinel, .sentinel, .pinned], laidTests := true, laidLooks := .later }
def FnScriptShowCardSaid : Prop := Claim7.holds Tryz.pinned (.plain (OpenSpec.ofChange fnScriptShowSpec)) fnScriptShowCard

/-- THE TIED CARD OF 'laws.FnScriptWhat'. -/
def fnScriptWhatCard : Claim7 := { stood := { row := fnScriptWhatRow, standIns := [], harness := (true, "79710c0e8f3a851c5b17ad87b5c2315858a3474a8092f5030c73a7bad36c3413"), looks := true }, kinds := [], alts := [], laidByText := true, laidKinds := [.data, .data, .data, .data, .sentinel, .sentinel, .pinned], laidTests := true, laidLooks := .later }
def FnScriptWhatCardSaid : Prop := Claim7.holds Tryz.pinned (.plain (OpenSpec.ofChange fnScriptWhatSpec)) fnScriptWhatCard

/-- THE TIED CARD OF 'laws.FnOther'. -/
def fnOtherCard : Claim7 := { stood := { row := fnOtherRow, standIns := [], harness := (true, "79710c0e8f3a851c5b17ad87b5c2315858a3474a8092f5030c73a7bad36c3413"), looks := true }, kinds := [], alts := [], laidByText := true, laidKinds := [.data, .pinned], laidTests := true, laidLooks := .later }
def FnOtherCardSaid : Prop := Claim7.holds Tryz.pinned (.plain (OpenSpec.ofChange fnOtherSpec)) fnOtherCard

/-- THE TIED CARD OF 'laws.FnPlay'. -/
def fnPlayCard : Claim7 := { stood := { row := fnPlayRow, standIns := [], harness := (true, "79710c0e8f3a851c5b17ad87b5c2315858a3474a8092f5030c73a7bad36c3413"), looks := true }, kinds := [], alts := [], laidByText := true, laidKinds := [.data, .pinned], laidTests := true, laidLooks := .later }
def FnPlayCardSaid : Prop := Claim7.holds Tryz.pinned (.plain (OpenSpec.ofChange fnPlaySpec)) fnPlayCard

/-- THE SECOND FORM's CARD OF 'laws.FnPagerNew'. -/
def fnPagerNewUptoCard : Claim7 := { stood := { row := fnPagerNewUptoRow, standIns := [], harness := (true, "79710c0e8f3a851c5b17ad87b5c2315858a3474a8092f5030c73a7bad36c3413"), looks := true }, kinds := [], alts := [], laidByText := true, laidKinds := [.data, .pinned], laidTests := true, laidLooks := .later }
def FnPagerNewUptoCardSaid : Prop := Claim7.holds Tryz.pinned (.plain (OpenSpec.upto fnPagerNewSpec)) fnPagerNewUptoCard

/-- THE SECOND FORM's CARD OF 'laws.FnExactExecute'. -/
def fnExactExecuteUptoCard : Claim7 := { stood := { row := fnExactExecuteUptoRow, standIns := [], harness := (true, "79710c0e8f3a851c5b17ad87b5c2315858a3474a8092f5030c73a7bad36c3413"), looks := true }, kinds := [], alts := [], laidByText := true, laidKinds := [.data, .data, .data, .data, .sentinel, .sentinel, .pinned], laidTests := true, laidLooks := .later }
def FnExactExecuteUptoCardSaid : Prop := Claim7.holds Tryz.pinned (.plain (OpenSpec.upto fnExactExecuteSpec)) fnExactExecuteUptoCard

/-- THE SECOND FORM's CARD OF 'laws.FnScript'. -/
def fnScriptUptoCard : Claim7 := { stood := { row := fnScriptUptoRow, standIns := [], harness := (true, "79710c0e8f3a851c5b17ad87b5c2315858a3474a8092f5030c73a7bad36c3413"), looks := true }, kinds := [], alts := [], laidByText := true, laidKinds := [.data, .data, .data, .data, .sentinel, .sentinel, .pinned], laidTests := true, laidLooks := .later }
def FnScriptUptoCardSaid : Prop := Claim7.holds Tryz.pinned (.plain (OpenSpec.upto fnScriptSpec)) fnScriptUptoCard

/-- THE SECOND FORM's CARD OF 'laws.FnScriptNo'. -/
def fnScriptNoUptoCard : Claim7 := { stood := { row := fnScriptNoUptoRow, standIns := [], harness := (true, "79710c0e8f3a851c5b17ad87b5c2315858a3474a8092f5030c73a7bad36c3413"), looks := true }, kinds := [], alts := [], laidByText := true, laidKinds := [.data, .data, .data, .data, .sentinel, .sentinel, .pinned], laidTests := true, laidLooks := .later }
def FnScriptNoUptoCardSaid : Prop := Claim7.holds Tryz.pinned (.plain (OpenSpec.upto fnScriptNoSpec)) fnScriptNoUptoCard

/-- THE SECOND FORM's CARD OF 'laws.FnScriptOther'. -/
def fnScriptOtherUptoCard : Claim7 := { stood := { row := fnScriptOtherUptoRow, standIns := [], harness := (true, "79710c0e8f3a851c5b17ad87b5c2315858a3474a8092f5030c73a7bad36c3413"), looks := true }, kinds := [], alts := [], laidByText := true, laidKinds := [.data, .data, .data, .data, .sentinel, .sentinel, .pinned], laidTests := true, laidLooks := .later }
def FnScriptOtherUptoCardSaid : Prop := Claim7.holds Tryz.pinned (.plain (OpenSpec.upto fnScriptOtherSpec)) fnScriptOtherUptoCard

/-- THE SECOND FORM's CARD OF 'laws.FnScriptSwap'. -/
def fnScriptSwapUptoCard : Claim7 := { stood := { row := fnScriptSwapUptoRow, standIns := [], harness := (true, "79710c0e8f3a851c5b17ad87b5c2315858a3474a8092f5030c73a7bad36c3413"), looks := true }, kinds := [], alts := [], laidByText := true, laidKinds := [.data, .data, .data, .data, .sentinel, .sentinel, .pinned], laidTests := true, laidLooks := .later }
def FnScriptSwapUptoCardSaid : Prop := Claim7.holds Tryz.pinned (.plain (OpenSpec.upto fnScriptSwapSpec)) fnScriptSwapUptoCard

/-- THE SECOND FORM's CARD OF 'laws.FnScriptTable'. -/
def fnScriptTableUptoCard : Claim7 := { stood := { row := fnScriptTableUptoRow, standIns := [], harness := (true, "79710c0e8f3a851c5b17ad87b5c2315858a3474a8092f5030c73a7bad36c3413"), looks := true }, kinds := [], alts := [], laidByText := true, laidKinds := [.data, .data, .data, .data, .sentinel, .sentinel, .pinned], laidTests := true, laidLooks := .later }
def FnScriptTableUptoCardSaid : Prop := Claim7.holds Tryz.pinned (.plain (OpenSpec.upto fnScriptTableSpec)) fnScriptTableUptoCard

/-- THE SECOND FORM's CARD OF 'laws.FnScriptCut'. -/
def fnScriptCutUptoCard : Claim7 := { stood := { row := fnScriptCutUptoRow, standIns := [], harness := (true, "79710c0e8f3a851c5b17ad87b5c2315858a3474a8092f5030c73a7bad36c3413"), looks := true }, kinds := [], alts := [], laidByText := true, laidKinds := [.data, .data, .data, .data, .sentinel, .sentinel, .pinned], laidTests := true, laidLooks := .later }
def FnScriptCutUptoCardSaid : Prop := Claim7.holds Tryz.pinned (.plain (OpenSpec.upto fnScriptCutSpec)) fnScriptCutUptoCard

/-- THE SECOND FORM's CARD OF 'laws.FnScriptShow'. -/
def fnScriptShowUptoCard : Claim7 := { stood := { row := fnScriptShowUptoRow, standIns := [], harness := (true, "79710c0e8f3a851c5b17ad87b5c2315858a3474a8092f5030c73a7bad36c3413"), looks := true }, kinds := [], alts := [], laidByText := true, laidKinds := [.data, .data, .data, .data, .sentinel, .sentinel, .pinned], laidTests := true, laidLooks := .later }
def FnScriptShowUptoCardSaid : Prop := Claim7.holds Tryz.pinned (.plain (OpenSpec.upto fnScriptShowSpec)) fnScriptShowUptoCard

/-- THE SECOND FORM's CARD OF 'laws.FnScriptWhat'. -/
def fnScriptWhatUptoCard : Claim7 := { stood := { row := fnScriptWhatUptoRow, standIns := [], harness := (true, "79710c0e8f3a851c5b17ad87b5c2315858a3474a8092f5030c73a7bad36c3413"), looks := true }, kinds := [], alts := [], laidByText := true, laidKinds := [.data, .data, .data, .data, .sentinel, .sentinel, .pinned], laidTests := true, laidLooks := .later }
def FnScriptWhatUptoCardSaid : Prop := Claim7.holds Tryz.pinned (.plain (OpenSpec.upto fnScriptWhatSpec)) fnScriptWhatUptoCard

/-- THE SECOND FORM's CARD OF 'laws.FnOther'. -/
def fnOtherUptoCard : Claim7 := { stood := { row := fnOtherUptoRow, standIns := [], harness := (true, "79710c0e8f3a851c5b17ad87b5c2315858a3474a8092f5030c73a7bad36c3413"), looks := true }, kinds := [], alts := [], laidByText := true, laidKinds := [.data, .pinned], laidTests := true, laidLooks := .later }
def FnOtherUptoCardSaid : Prop := Claim7.holds Tryz.pinned (.plain (OpenSpec.upto fnOtherSpec)) fnOtherUptoCard

/-- THE SECOND FORM's CARD OF 'laws.FnPlay'. -/
def fnPlayUptoCard : Claim7 := { stood := { row := fnPlayUptoRow, standIns := [], harness := (true, "79710c0e8f3a851c5b17ad87b5c2315858a3474a8092f5030c73a7bad36c3413"), looks := true }, kinds := [], alts := [], laidByText := true, laidKinds := [.data, .pinned], laidTests := true, laidLooks := .later }
def FnPlayUptoCardSaid : Prop := Claim7.holds Tryz.pinned (.plain (OpenSpec.upto fnPlaySpec)) fnPlayUptoCard
end Rows
end Go.Proofs.YtnieoiclifjoaaaGreatDoor
