/-
  DERIVED. GIVEN WITH THE SEED: THE CARDS: each row of YtlcnbkkcplllhaaGreatDoorRows.lean that lists a variable, with what it lists TIED to the program's text (the seventh form; the later family's looks); each row that meets fmt, with fmt's text TOLD by the authors' own Lean function (tested against real Go, not proved from fmt's source: count such statements apart). THE CARD IS WHAT COUNTS. Prove the row's statement (the work); the ties are given (YtlcnbkkcplllhaaGreatDoorTie.lean); close each card by the builder's one call (the guide's Derived/Test/ToyasCard.lean, 'card_holds'). Laid BY PROGRAM, IN A SANDBOX (cutbox-door.mjs). By AI agents, Wed Nov 11 2026. No macro, syntax, notation, axiom, sorry.
-/
import Derived.Test.YtlcnbkkcplllhaaGreatDoorRows
import GoSem.ClaimSeven
namespace Go.Proofs.YtlcnbkkcplllhaaGreatDoor
namespace Rows

/-- THE TIED CARD OF 'laws.FnOtherLoad'. -/
def fnOtherLoadCard : Claim7 := { stood := { row := fnOtherLoadRow, standIns := [], harness := (true, "65b46d692f3f5e37df858040b691d35ecc0418dd5f7b8fd59278ff8738c071d6"), looks := false }, kinds := [], alts := [], laidByText := true, laidKinds := [.data, .pinned], laidTests := true, laidLooks := .later }
def FnOtherLoadCardSaid : Prop := Claim7.holds Tryz.pinned (.plain (OpenSpec.ofChange fnOtherLoadSpec)) fnOtherLoadCard

/-- THE TIED CARD OF 'laws.FnPlay'. -/
def fnPlayCard : Claim7 := { stood := { row := fnPlayRow, standIns := [], harness := (true, "65b46d692f3f5e37df858040b691d35ecc0418dd5f7b8fd59278ff8738c071d6"), looks := false }, kinds := [], alts := [], laidByText := true, laidKinds := [.data, .pinned], laidTests := true, laidLooks := .later }
def FnPlayCardSaid : Prop := Claim7.holds Tryz.pinned (.plain (OpenSpec.ofChange fnPlaySpec)) fnPlayCard

/-- THE TIED CARD OF 'laws.FnPlayLimit'. -/
def fnPlayLimitCard : Claim7 := { stood := { row := fnPlayLimitRow, standIns := [], harness := (true, "65b46d692f3f5e37df858040b691d35ecc0418dd5f7b8fd59278ff8738c071d6"), looks := false }, kinds := [], alts := [], laidByText := true, laidKinds := [.data, .pinned], laidTests := true, laidLooks := .later }
def FnPlayLimitCardSaid : Prop := Claim7.holds Tryz.pinned (.plain (OpenSpec.ofChange fnPlayLimitSpec)) fnPlayLimitCard

/-- THE TIED CARD OF 'laws.FnPlaySplit'. -/
def fnPlaySplitCard : Claim7 := { stood := { row := fnPlaySplitRow, standIns := [], harness := (true, "65b46d692f3f5e37df858040b691d35ecc0418dd5f7b8fd59278ff8738c071d6"), looks := false }, kinds := [], alts := [], laidByText := true, laidKinds := [.data, .pinned], laidTests := true, laidLooks := .later }
def FnPlaySplitCardSaid : Prop := Claim7.holds Tryz.pinned (.plain (OpenSpec.ofChange fnPlaySplitSpec)) fnPlaySplitCard

/-- THE SECOND FORM's CARD OF 'laws.FnOtherLoad'. -/
def fnOtherLoadUptoCard : Claim7 := { stood := { row := fnOtherLoadUptoRow, standIns := [], harness := (true, "65b46d692f3f5e37df858040b691d35ecc0418dd5f7b8fd59278ff8738c071d6"), looks := false }, kinds := [], alts := [], laidByText := true, laidKinds := [.data, .pinned], laidTests := true, laidLooks := .later }
def FnOtherLoadUptoCardSaid : Prop := Claim7.holds Tryz.pinned (.plain (OpenSpec.upto fnOtherLoadSpec)) fnOtherLoadUptoCard

/-- THE SECOND FORM's CARD OF 'laws.FnPlay'. -/
def fnPlayUptoCard : Claim7 := { stood := { row := fnPlayUptoRow, standIns := [], harness := (true, "65b46d692f3f5e37df858040b691d35ecc0418dd5f7b8fd59278ff8738c071d6"), looks := false }, kinds := [], alts := [], laidByText := true, laidKinds := [.data, .pinned], laidTests := true, laidLooks := .later }
def FnPlayUptoCardSaid : Prop := Claim7.holds Tryz.pinned (.plain (OpenSpec.upto fnPlaySpec)) fnPlayUptoCard

/-- THE SECOND FORM's CARD OF 'laws.FnPlayLimit'. -/
def fnPlayLimitUptoCard : Claim7 := { stood := { row := fnPlayLimitUptoRow, standIns := [], harness := (true, "65b46d692f3f5e37df858040b691d35ecc0418dd5f7b8fd59278ff8738c071d6"), looks := false }, kinds := [], alts := [], laidByText := true, laidKinds := [.data, .pinned], laidTests := true, laidLooks := .later }
def FnPlayLimitUptoCardSaid : Prop := Claim7.holds Tryz.pinned (.plain (OpenSpec.upto fnPlayLimitSpec)) fnPlayLimitUptoCard

/-- THE SECOND FORM's CARD OF 'laws.FnPlaySplit'. -/
def fnPlaySplitUptoCard : Claim7 := { stood := { row := fnPlaySplitUptoRow, standIns := [], harness := (true, "65b46d692f3f5e37df858040b691d35ecc0418dd5f7b8fd59278ff8738c071d6"), looks := false }, kinds := [], alts := [], laidByText := true, laidKinds := [.data, .pinned], laidTests := true, laidLooks := .later }
def FnPlaySplitUptoCardSaid : Prop := Claim7.holds Tryz.pinned (.plain (OpenSpec.upto fnPlaySplitSpec)) fnPlaySplitUptoCard
end Rows
end Go.Proofs.YtlcnbkkcplllhaaGreatDoor
