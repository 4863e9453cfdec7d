/-
  DERIVED. GIVEN WITH THE SEED: THE CARDS: each row of YtinbcpipjfljeaaGreatDoorRows.lean that lists a variable, with what it lists TIED to the program's text (the seventh form; the later family's looks); each row that meets fmt, with fmt's text TOLD by the authors' own Lean function (tested against real Go, not proved from fmt's source: count such statements apart). THE CARD IS WHAT COUNTS. Prove the row's statement (the work); the ties are given (YtinbcpipjfljeaaGreatDoorTie.lean); close each card by the builder's one call (the guide's Derived/Test/ToyasCard.lean, 'card_holds'). Laid BY PROGRAM, IN A SANDBOX (cutbox-door.mjs). By AI agents, Wed Nov 11 2026. No macro, syntax, notation, axiom, sorry.
-/
import Derived.Test.YtinbcpipjfljeaaGreatDoorRows
import GoSem.ClaimSeven
namespace Go.Proofs.YtinbcpipjfljeaaGreatDoor
namespace Rows

/-- THE TIED CARD OF 'laws.FnTouchTwice'. -/
def fnTouchTwiceCard : Claim7 := { stood := { row := fnTouchTwiceRow, standIns := [], harness := (true, "8cde31b4d5ed1275b5937cad3f571114aa08e0db4346b621873af334ff017b06"), looks := false }, kinds := [], alts := [], laidByText := true, laidKinds := [.data, .pinned], laidTests := true, laidLooks := .later }
def FnTouchTwiceCardSaid : Prop := Claim7.holds Tryz.pinned (.plain (OpenSpec.ofChange fnTouchTwiceSpec)) fnTouchTwiceCard

/-- THE TIED CARD OF 'laws.FnTouchUsed'. -/
def fnTouchUsedCard : Claim7 := { stood := { row := fnTouchUsedRow, standIns := [], harness := (true, "8cde31b4d5ed1275b5937cad3f571114aa08e0db4346b621873af334ff017b06"), looks := false }, kinds := [], alts := [], laidByText := true, laidKinds := [.data, .pinned], laidTests := true, laidLooks := .later }
def FnTouchUsedCardSaid : Prop := Claim7.holds Tryz.pinned (.plain (OpenSpec.ofChange fnTouchUsedSpec)) fnTouchUsedCard

/-- THE TIED CARD OF 'laws.FnTouch'. -/
def fnTouchCard : Claim7 := { stood := { row := fnTouchRow, standIns := [], harness := (true, "8cde31b4d5ed1275b5937cad3f571114aa08e0db4346b621873af334ff017b06"), looks := false }, kinds := [], alts := [], laidByText := true, laidKinds := [.data, .pinned], laidTests := true, laidLooks := .later }
def FnTouchCardSaid : Prop := Claim7.holds Tryz.pinned (.plain (OpenSpec.ofChange fnTouchSpec)) fnTouchCard

/-- THE TIED CARD OF 'laws.FnTouchOne'. -/
def fnTouchOneCard : Claim7 := { stood := { row := fnTouchOneRow, standIns := [], harness := (true, "8cde31b4d5ed1275b5937cad3f571114aa08e0db4346b621873af334ff017b06"), looks := false }, kinds := [], alts := [], laidByText := true, laidKinds := [.data, .pinned], laidTests := true, laidLooks := .later }
def FnTouchOneCardSaid : Prop := Claim7.holds Tryz.pinned (.plain (OpenSpec.ofChange fnTouchOneSpec)) fnTouchOneCard

/-- THE TIED CARD OF 'laws.FnTouchRoom'. -/
def fnTouchRoomCard : Claim7 := { stood := { row := fnTouchRoomRow, standIns := [], harness := (true, "8cde31b4d5ed1275b5937cad3f571114aa08e0db4346b621873af334ff017b06"), looks := false }, kinds := [], alts := [], laidByText := true, laidKinds := [.data, .pinned], laidTests := true, laidLooks := .later }
def FnTouchRoomCardSaid : Prop := Claim7.holds Tryz.pinned (.plain (OpenSpec.ofChange fnTouchRoomSpec)) fnTouchRoomCard

/-- THE SECOND FORM's CARD OF 'laws.FnTouchTwice'. -/
def fnTouchTwiceUptoCard : Claim7 := { stood := { row := fnTouchTwiceUptoRow, standIns := [], harness := (true, "8cde31b4d5ed1275b5937cad3f571114aa08e0db4346b621873af334ff017b06"), looks := false }, kinds := [], alts := [], laidByText := true, laidKinds := [.data, .pinned], laidTests := true, laidLooks := .later }
def FnTouchTwiceUptoCardSaid : Prop := Claim7.holds Tryz.pinned (.plain (OpenSpec.upto fnTouchTwiceSpec)) fnTouchTwiceUptoCard

/-- THE SECOND FORM's CARD OF 'laws.FnTouchUsed'. -/
def fnTouchUsedUptoCard : Claim7 := { stood := { row := fnTouchUsedUptoRow, standIns := [], harness := (true, "8cde31b4d5ed1275b5937cad3f571114aa08e0db4346b621873af334ff017b06"), looks := false }, kinds := [], alts := [], laidByText := true, laidKinds := [.data, .pinned], laidTests := true, laidLooks := .later }
def FnTouchUsedUptoCardSaid : Prop := Claim7.holds Tryz.pinned (.plain (OpenSpec.upto fnTouchUsedSpec)) fnTouchUsedUptoCard

/-- THE SECOND FORM's CARD OF 'laws.FnTouch'. -/
def fnTouchUptoCard : Claim7 := { stood := { row := fnTouchUptoRow, standIns := [], harness := (true, "8cde31b4d5ed1275b5937cad3f571114aa08e0db4346b621873af334ff017b06"), looks := false }, kinds := [], alts := [], laidByText := true, laidKinds := [.data, .pinned], laidTests := true, laidLooks := .later }
def FnTouchUptoCardSaid : Prop := Claim7.holds Tryz.pinned (.plain (OpenSpec.upto fnTouchSpec)) fnTouchUptoCard

/-- THE SECOND FORM's CARD OF 'laws.FnTouchOne'. -/
def fnTouchOneUptoCard : Claim7 := { stood := { row := fnTouchOneUptoRow, standIns := [], harness := (true, "8cde31b4d5ed1275b5937cad3f571114aa08e0db4346b621873af334ff017b06"), looks := false }, kinds := [], alts := [], laidByText := true, laidKinds := [.data, .pinned], laidTests := true, laidLooks := .later }
def FnTouchOneUptoCardSaid : Prop := Claim7.holds Tryz.pinned (.plain (OpenSpec.upto fnTouchOneSpec)) fnTouchOneUptoCard

/-- THE SECOND FORM's CARD OF 'laws.FnTouchRoom'. -/
def fnTouchRoomUptoCard : Claim7 := { stood := { row := fnTouchRoomUptoRow, standIns := [], harness := (true, "8cde31b4d5ed1275b5937cad3f571114aa08e0db4346b621873af334ff017b06"), looks := false }, kinds := [], alts := [], laidByText := true, laidKinds := [.data, .pinned], laidTests := true, laidLooks := .later }
def FnTouchRoomUptoCardSaid : Prop := Claim7.holds Tryz.pinned (.plain (OpenSpec.upto fnTouchRoomSpec)) fnTouchRoomUptoCard
end Rows
end Go.Proofs.YtinbcpipjfljeaaGreatDoor
