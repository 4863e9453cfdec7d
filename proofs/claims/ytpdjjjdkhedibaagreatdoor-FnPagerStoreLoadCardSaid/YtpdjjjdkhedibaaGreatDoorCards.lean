/-
  DERIVED. GIVEN WITH THE SEED: THE CARDS: each row of YtpdjjjdkhedibaaGreatDoorRows.lean that lists a variable, with what it lists TIED to the program's text (the seventh form; the later family's looks); each row that meets fmt, with fmt's text TOLD by the authors' own Lean function (tested against real Go, not proved from fmt's source: count such statements apart). THE CARD IS WHAT COUNTS. Prove the row's statement (the work); the ties are given (YtpdjjjdkhedibaaGreatDoorTie.lean); close each card by the builder's one call (the guide's Derived/Test/ToyasCard.lean, 'card_holds'). Laid BY PROGRAM, IN A SANDBOX (cutbox-door.mjs). By AI agents, Wed Nov 11 2026. No macro, syntax, notation, axiom, sorry.
-/
import Derived.Test.YtpdjjjdkhedibaaGreatDoorRows
import GoSem.ClaimSeven
namespace Go.Proofs.YtpdjjjdkhedibaaGreatDoor
namespace Rows

/-- THE TIED CARD OF 'laws.FnPagerLoadRoom'. -/
def fnPagerLoadRoomCard : Claim7 := { stood := { row := fnPagerLoadRoomRow, standIns := [], harness := (true, "91dd017955b4c5fe469053baff3663d5030a06fa428b2c82f3cb3e9091a56954"), looks := false }, kinds := [], alts := [], laidByText := true, laidKinds := [.data, .pinned], laidTests := true, laidLooks := .later }
def FnPagerLoadRoomCardSaid : Prop := Claim7.holds Tryz.pinned (.plain (OpenSpec.ofChange fnPagerLoadRoomSpec)) fnPagerLoadRoomCard

/-- THE TIED CARD OF 'laws.FnTouch'. -/
def fnTouchCard : Claim7 := { stood := { row := fnTouchRow, standIns := [], harness := (true, "91dd017955b4c5fe469053baff3663d5030a06fa428b2c82f3cb3e9091a56954"), looks := false }, kinds := [], alts := [], laidByText := true, laidKinds := [.data, .pinned], laidTests := true, laidLooks := .later }
def FnTouchCardSaid : Prop := Claim7.holds Tryz.pinned (.plain (OpenSpec.ofChange fnTouchSpec)) fnTouchCard

/-- THE TIED CARD OF 'laws.FnTouchOne'. -/
def fnTouchOneCard : Claim7 := { stood := { row := fnTouchOneRow, standIns := [], harness := (true, "91dd017955b4c5fe469053baff3663d5030a06fa428b2c82f3cb3e9091a56954"), looks := false }, kinds := [], alts := [], laidByText := true, laidKinds := [.data, .pinned], laidTests := true, laidLooks := .later }
def FnTouchOneCardSaid : Prop := Claim7.holds Tryz.pinned (.plain (OpenSpec.ofChange fnTouchOneSpec)) fnTouchOneCard

/-- THE TIED CARD OF 'laws.FnTouchRoom'. -/
def fnTouchRoomCard : Claim7 := { stood := { row := fnTouchRoomRow, standIns := [], harness := (true, "91dd017955b4c5fe469053baff3663d5030a06fa428b2c82f3cb3e9091a56954"), looks := false }, kinds := [], alts := [], laidByText := true, laidKinds := [.data, .pinned], laidTests := true, laidLooks := .later }
def FnTouchRoomCardSaid : Prop := Claim7.holds Tryz.pinned (.plain (OpenSpec.ofChange fnTouchRoomSpec)) fnTouchRoomCard

/-- THE TIED CARD OF 'laws.FnPagerStoreLoad'. -/
def fnPagerStoreLoadCard : Claim7 := { stood := { row := fnPagerStoreLoadRow, standIns := [], harness := (true, "91dd017955b4c5fe469053baff3663d5030a06fa428b2c82f3cb3e9091a56954"), looks := false }, kinds := [], alts := [], laidByText := true, laidKinds := [.data, .pinned], laidTests := true, laidLooks := .later }
def FnPagerStoreLoadCardSaid : Prop := Claim7.holds Tryz.pinned (.plain (OpenSpec.ofChange fnPagerStoreLoadSpec)) fnPagerStoreLoadCard

/-- THE TIED CARD OF 'laws.FnPagerLoad'. -/
def fnPagerLoadCard : Claim7 := { stood := { row := fnPagerLoadRow, standIns := [], harness := (true, "91dd017955b4c5fe469053baff3663d5030a06fa428b2c82f3cb3e9091a56954"), looks := false }, kinds := [], alts := [], laidByText := true, laidKinds := [.data, .pinned], laidTests := true, laidLooks := .later }
def FnPagerLoadCardSaid : Prop := Claim7.holds Tryz.pinned (.plain (OpenSpec.ofChange fnPagerLoadSpec)) fnPagerLoadCard

/-- THE TIED CARD OF 'laws.FnPagerStore'. -/
def fnPagerStoreCard : Claim7 := { stood := { row := fnPagerStoreRow, standIns := [], harness := (true, "91dd017955b4c5fe469053baff3663d5030a06fa428b2c82f3cb3e9091a56954"), looks := false }, kinds := [], alts := [], laidByText := true, laidKinds := [.data, .pinned], laidTests := true, laidLooks := .later }
def FnPagerStoreCardSaid : Prop := Claim7.holds Tryz.pinned (.plain (OpenSpec.ofChange fnPagerStoreSpec)) fnPagerStoreCard

/-- THE SECOND FORM's CARD OF 'laws.FnPagerLoadRoom'. -/
def fnPagerLoadRoomUptoCard : Claim7 := { stood := { row := fnPagerLoadRoomUptoRow, standIns := [], harness := (true, "91dd017955b4c5fe469053baff3663d5030a06fa428b2c82f3cb3e9091a56954"), looks := false }, kinds := [], alts := [], laidByText := true, laidKinds := [.data, .pinned], laidTests := true, laidLooks := .later }
def FnPagerLoadRoomUptoCardSaid : Prop := Claim7.holds Tryz.pinned (.plain (OpenSpec.upto fnPagerLoadRoomSpec)) fnPagerLoadRoomUptoCard

/-- THE SECOND FORM's CARD OF 'laws.FnTouch'. -/
def fnTouchUptoCard : Claim7 := { stood := { row := fnTouchUptoRow, standIns := [], harness := (true, "91dd017955b4c5fe469053baff3663d5030a06fa428b2c82f3cb3e9091a56954"), looks := false }, kinds := [], alts := [], laidByText := true, laidKinds := [.data, .pinned], laidTests := true, laidLooks := .later }
def FnTouchUptoCardSaid : Prop := Claim7.holds Tryz.pinned (.plain (OpenSpec.upto fnTouchSpec)) fnTouchUptoCard

/-- THE SECOND FORM's CARD OF 'laws.FnTouchOne'. -/
def fnTouchOneUptoCard : Claim7 := { stood := { row := fnTouchOneUptoRow, standIns := [], harness := (true, "91dd017955b4c5fe469053baff3663d5030a06fa428b2c82f3cb3e9091a56954"), looks := false }, kinds := [], alts := [], laidByText := true, laidKinds := [.data, .pinned], laidTests := true, laidLooks := .later }
def FnTouchOneUptoCardSaid : Prop := Claim7.holds Tryz.pinned (.plain (OpenSpec.upto fnTouchOneSpec)) fnTouchOneUptoCard

/-- THE SECOND FORM's CARD OF 'laws.FnTouchRoom'. -/
def fnTouchRoomUptoCard : Claim7 := { stood := { row := fnTouchRoomUptoRow, standIns := [], harness := (true, "91dd017955b4c5fe469053baff3663d5030a06fa428b2c82f3cb3e9091a56954"), looks := false }, kinds := [], alts := [], laidByText := true, laidKinds := [.data, .pinned], laidTests := true, laidLooks := .later }
def FnTouchRoomUptoCardSaid : Prop := Claim7.holds Tryz.pinned (.plain (OpenSpec.upto fnTouchRoomSpec)) fnTouchRoomUptoCard

/-- THE SECOND FORM's CARD OF 'laws.FnPagerStoreLoad'. -/
def fnPagerStoreLoadUptoCard : Claim7 := { stood := { row := fnPagerStoreLoadUptoRow, standIns := [], harness := (true, "91dd017955b4c5fe469053baff3663d5030a06fa428b2c82f3cb3e9091a56954"), looks := false }, kinds := [], alts := [], laidByText := true, laidKinds := [.data, .pinned], laidTests := true, laidLooks := .later }
def FnPagerStoreLoadUptoCardSaid : Prop := Claim7.holds Tryz.pinned (.plain (OpenSpec.upto fnPagerStoreLoadSpec)) fnPagerStoreLoadUptoCard

/-- THE SECOND FORM's CARD OF 'laws.FnPagerLoad'. -/
def fnPagerLoadUptoCard : Claim7 := { stood := { row := fnPagerLoadUptoRow, standIns := [], harness := (true, "91dd017955b4c5fe469053baff3663d5030a06fa428b2c82f3cb3e9091a56954"), looks := false }, kinds := [], alts := [], laidByText := true, laidKinds := [.data, .pinned], laidTests := true, laidLooks := .later }
def FnPagerLoadUptoCardSaid : Prop := Claim7.holds Tryz.pinned (.plain (OpenSpec.upto fnPagerLoadSpec)) fnPagerLoadUptoCard

/-- THE SECOND FORM's CARD OF 'laws.FnPagerStore'. -/
def fnPagerStoreUptoCard : Claim7 := { stood := { row := fnPagerStoreUptoRow, standIns := [], harness := (true, "91dd017955b4c5fe469053baff3663d5030a06fa428b2c82f3cb3e9091a56954"), looks := false }, kinds := [], alts := [], laidByText := true, laidKinds := [.data, .pinned], laidTests := true, laidLooks := .later }
def FnPagerStoreUptoCardSaid : Prop := Claim7.holds Tryz.pinned (.plain (OpenSpec.upto fnPagerStoreSpec)) fnPagerStoreUptoCard
end Rows
end Go.Proofs.YtpdjjjdkhedibaaGreatDoor
