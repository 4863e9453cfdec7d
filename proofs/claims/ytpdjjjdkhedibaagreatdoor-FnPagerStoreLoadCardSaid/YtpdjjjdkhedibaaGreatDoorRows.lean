/-
  NARROWER THAN 'FOR EVERY INPUT', by the rows' own cells (each row's printed sentence says how): FnPagerLoadRoom: laid · FnTouch: laid · FnTouchOne: laid · FnTouchRoom: laid · FnPagerStoreLoad: laid · FnPagerLoad: laid · FnPagerStore: laid.
  DERIVED. THE GIVEN ROWS OF THIS SEAT. 7 by the template 'for every input the law returns true; each argument reads behind the call as it read before'; 0 by the template 'total and deterministic' (their statements: YtpdjjjdkhedibaaGreatDoorTotals.lean).
  GIVEN WITH THE SEED: the statements are not yours to turn. If you find one false, say at which input.
  Laid BY PROGRAM, IN A SANDBOX (cutbox-rows.mjs): the forced cells as the released guide's own fill.sh prints them over the translation 9830bd79b7b32510… (all of the seat's roots in one cut). By AI agents, Wed Nov 11 2026. No macro, syntax, notation, axiom, sorry.
-/
import Derived.Test.YtpdjjjdkhedibaaGreatDoorChecked
import GoSem.PinnedTables
import GoSem.Claim
import GoSem.ClaimJoined
import GoSem.ClaimMapViews
import Derived.JoinedTies
import Derived.KernelRfl
namespace Go.Proofs.YtpdjjjdkhedibaaGreatDoor
/- THE CELL 'sum', in the pinned program and in every row, IS THE sha256 OF THE DUMP (.gsa) THAT YtpdjjjdkhedibaaGreatDoorProg.lean LOADS. Nothing in Lean hashes anything: it is a label: what it is worth is what the hold of that sum in a sandbox is worth. -/
noncomputable def Tryz.pinned : Pinned := { name := "ytpdjjjdkhedibaagreatdoor", sum := "9830bd79b7b32510ff7cda426ea68a89ee2f0e819fff558e6b9813de8fd53b4e", checked := Tryz.checked }
namespace Rows
def none {H : Type} : Left H := { results := [], args := [] }

/- WHAT THE LISTED PACKAGE-LEVEL VARIABLES READ AS WHEN THE CALL BEGINS. Each datum BY PROGRAM (the guide's laid-datum.mjs) off the statement by which the dump's own 'gosem.cut.vars' lays the variable. In a bare row this is a premise. The card (YtpdjjjdkhedibaaGreatDoorCards.lean) ties it to the program's text. -/
def laid_unicode_utf8_acceptRanges {H : Type} : DataW H := .agg [.agg [.lit (.int .u8 128), .lit (.int .u8 191)], .agg [.lit (.int .u8 160), .lit (.int .u8 191)], .agg [.lit (.int .u8 128), .lit (.int .u8 159)], .agg [.lit (.int .u8 144), .lit (.int .u8 191)], .agg [.lit (.int .u8 128), .lit (.int .u8 143)], .agg [.lit (.int .u8 0), .lit (.int .u8 0)], .agg [.lit (.int .u8 0), .lit (.int .u8 0)], .agg [.lit (.int .u8 0), .lit (.int .u8 0)], .agg [.lit (.int .u8 0), .lit (.int .u8 0)], .agg [.lit (.int .u8 0), .lit (.int .u8 0)], .agg [.lit (.int .u8 0), .lit (.int .u8 0)], .agg [.lit (.int .u8 0), .lit (.int .u8 0)], .agg [.lit (.int .u8 0), .lit (.int .u8 0)], .agg [.lit (.int .u8 0), .lit (.int .u8 0)], .agg [.lit (.int .u8 0), .lit (.int .u8 0)], .agg [.lit (.int .u8 0), .lit (.int .u8 0)]]
/-- One of Go's own tables, pinned by name: the form's constant. -/
def laid_unicode_utf8_first : DataW Unit := Go.Pinned.utf8First

/-- 'laws.FnPagerLoadRoom': WHATEVER THE INPUT: true; the input reads as it did. -/
def fnPagerLoadRoomSpec : ChangeSpec := { name := "fnPagerLoadRoom", fn := fun _ => fun
  | [d] => { results := [.lit (.bool true)], args := [d] }
  | _ => none }
def fnPagerLoadRoomRow : OpenClaim := { program := "ytpdjjjdkhedibaagreatdoor", sum := "9830bd79b7b32510ff7cda426ea68a89ee2f0e819fff558e6b9813de8fd53b4e", func := "loop.example/exopager/laws.FnPagerLoadRoom", spec := "fnPagerLoadRoom", inPlace := ["internal/bytealg.IndexByteString", "internal/bytealg.IndexString", "slices.overlaps[string]"], unfollowed := true, recurses := true, named := ["unicode/utf8.first", "unicode/utf8.acceptRanges", "internal/bytealg.MaxLen"], apart := false, laid := [("unicode/utf8.acceptRanges", laid_unicode_utf8_acceptRanges), ("unicode/utf8.first", laid_unicode_utf8_first)] }
def FnPagerLoadRoomSaid : Prop := fnPagerLoadRoomRow.holds Tryz.pinned (OpenSpec.ofChange fnPagerLoadRoomSpec)

/-- ITS FALSE NEIGHBOUR: 'it returns false'. Refute it at one input. -/
def fnPagerLoadRoomWrong : ChangeSpec := { name := "fnPagerLoadRoom", fn := fun _ => fun
  | [d] => { results := [.lit (.bool false)], args := [d] }
  | _ => none }
def FnPagerLoadRoomWrongFalsely : Prop := fnPagerLoadRoomRow.holds Tryz.pinned (OpenSpec.ofChange fnPagerLoadRoomWrong)

/-- 'laws.FnTouch': WHATEVER THE INPUT: true; the input reads as it did. -/
def fnTouchSpec : ChangeSpec := { name := "fnTouch", fn := fun _ => fun
  | [d] => { results := [.lit (.bool true)], args := [d] }
  | _ => none }
def fnTouchRow : OpenClaim := { program := "ytpdjjjdkhedibaagreatdoor", sum := "9830bd79b7b32510ff7cda426ea68a89ee2f0e819fff558e6b9813de8fd53b4e", func := "loop.example/exopager/laws.FnTouch", spec := "fnTouch", inPlace := ["internal/bytealg.IndexByteString", "internal/bytealg.IndexString", "slices.overlaps[string]"], unfollowed := true, recurses := true, named := ["unicode/utf8.first", "unicode/utf8.acceptRanges", "internal/bytealg.MaxLen"], apart := false, laid := [("unicode/utf8.acceptRanges", laid_unicode_utf8_acceptRanges), ("unicode/utf8.first", laid_unicode_utf8_first)] }
def FnTouchSaid : Prop := fnTouchRow.holds Tryz.pinned (OpenSpec.ofChange fnTouchSpec)

/-- ITS FALSE NEIGHBOUR: 'it returns false'. Refute it at one input. -/
def fnTouchWrong : ChangeSpec := { name := "fnTouch", fn := fun _ => fun
  | [d] => { results := [.lit (.bool false)], args := [d] }
  | _ => none }
def FnTouchWrongFalsely : Prop := fnTouchRow.holds Tryz.pinned (OpenSpec.ofChange fnTouchWrong)

/-- 'laws.FnTouchOne': WHATEVER THE INPUT: true; the input reads as it did. -/
def fnTouchOneSpec : ChangeSpec := { name := "fnTouchOne", fn := fun _ => fun
  | [d] => { results := [.lit (.bool true)], args := [d] }
  | _ => none }
def fnTouchOneRow : OpenClaim := { program := "ytpdjjjdkhedibaagreatdoor", sum := "9830bd79b7b32510ff7cda426ea68a89ee2f0e819fff558e6b9813de8fd53b4e", func := "loop.example/exopager/laws.FnTouchOne", spec := "fnTouchOne", inPlace := ["internal/bytealg.IndexByteString", "internal/bytealg.IndexString", "slices.overlaps[string]"], unfollowed := true, recurses := true, named := ["unicode/utf8.first", "unicode/utf8.acceptRanges", "internal/bytealg.MaxLen"], apart := false, laid := [("unicode/utf8.acceptRanges", laid_unicode_utf8_acceptRanges), ("unicode/utf8.first", laid_unicode_utf8_first)] }
def FnTouchOneSaid : Prop := fnTouchOneRow.holds Tryz.pinned (OpenSpec.ofChange fnTouchOneSpec)

/-- ITS FALSE NEIGHBOUR: 'it returns false'. Refute it at one input. -/
def fnTouchOneWrong : ChangeSpec := { name := "fnTouchOne", fn := fun _ => fun
  | [d] => { results := [.lit (.bool false)], args := [d] }
  | _ => none }
def FnTouchOneWrongFalsely : Prop := fnTouchOneRow.holds Tryz.pinned (OpenSpec.ofChange fnTouchOneWrong)

/-- 'laws.FnTouchRoom': WHATEVER THE INPUT: true; the input reads as it did. -/
def fnTouchRoomSpec : ChangeSpec := { name := "fnTouchRoom", fn := fun _ => fun
  | [d] => { results := [.lit (.bool true)], args := [d] }
  | _ => none }
def fnTouchRoomRow : OpenClaim := { program := "ytpdjjjdkhedibaagreatdoor", sum := "9830bd79b7b32510ff7cda426ea68a89ee2f0e819fff558e6b9813de8fd53b4e", func := "loop.example/exopager/laws.FnTouchRoom", spec := "fnTouchRoom", inPlace := ["internal/bytealg.IndexByteString", "internal/bytealg.IndexString", "slices.overlaps[string]"], unfollowed := true, recurses := true, named := ["unicode/utf8.first", "unicode/utf8.acceptRanges", "internal/bytealg.MaxLen"], apart := false, laid := [("unicode/utf8.acceptRanges", laid_unicode_utf8_acceptRanges), ("unicode/utf8.first", laid_unicode_utf8_first)] }
def FnTouchRoomSaid : Prop := fnTouchRoomRow.holds Tryz.pinned (OpenSpec.ofChange fnTouchRoomSpec)

/-- ITS FALSE NEIGHBOUR: 'it returns false'. Refute it at one input. -/
def fnTouchRoomWrong : ChangeSpec := { name := "fnTouchRoom", fn := fun _ => fun
  | [d] => { results := [.lit (.bool false)], args := [d] }
  | _ => none }
def FnTouchRoomWrongFalsely : Prop := fnTouchRoomRow.holds Tryz.pinned (OpenSpec.ofChange fnTouchRoomWrong)

/-- 'laws.FnPagerStoreLoad': WHATEVER THE INPUT: true; the input reads as it did. -/
def fnPagerStoreLoadSpec : ChangeSpec := { name := "fnPagerStoreLoad", fn := fun _ => fun
  | [d] => { results := [.lit (.bool true)], args := [d] }
  | _ => none }
def fnPagerStoreLoadRow : OpenClaim := { program := "ytpdjjjdkhedibaagreatdoor", sum := "9830bd79b7b32510ff7cda426ea68a89ee2f0e819fff558e6b9813de8fd53b4e", func := "loop.example/exopager/laws.FnPagerStoreLoad", spec := "fnPagerStoreLoad", inPlace := ["internal/bytealg.IndexByteString", "internal/bytealg.IndexString", "slices.overlaps[string]"], unfollowed := true, recurses := true, named := ["unicode/utf8.first", "unicode/utf8.acceptRanges", "internal/bytealg.MaxLen"], apart := false, laid := [("unicode/utf8.acceptRanges", laid_unicode_utf8_acceptRanges), ("unicode/utf8.first", laid_unicode_utf8_first)] }
def FnPagerStoreLoadSaid : Prop := fnPagerStoreLoadRow.holds Tryz.pinned (OpenSpec.ofChange fnPagerStoreLoadSpec)

/-- ITS FALSE NEIGHBOUR: 'it returns false'. Refute it at one input. -/
def fnPagerStoreLoadWrong : ChangeSpec := { name := "fnPagerStoreLoad", fn := fun _ => fun
  | [d] => { results := [.lit (.bool false)], args := [d] }
  | _ => none }
def FnPagerStoreLoadWrongFalsely : Prop := fnPagerStoreLoadRow.holds Tryz.pinned (OpenSpec.ofChange fnPagerStoreLoadWrong)

/-- 'laws.FnPagerLoad': WHATEVER THE INPUT: true; the input reads as it did. -/
def fnPagerLoadSpec : ChangeSpec := { name := "fnPagerLoad", fn := fun _ => fun
  | [d] => { results := [.lit (.bool true)], args := [d] }
  | _ => none }
def fnPagerLoadRow : OpenClaim := { program := "ytpdjjjdkhedibaagreatdoor", sum := "9830bd79b7b32510ff7cda426ea68a89ee2f0e819fff558e6b9813de8fd53b4e", func := "loop.example/exopager/laws.FnPagerLoad", spec := "fnPagerLoad", inPlace := ["internal/bytealg.IndexByteString", "internal/bytealg.IndexString", "slices.overlaps[string]"], unfollowed := true, recurses := true, named := ["unicode/utf8.first", "unicode/utf8.acceptRanges", "internal/bytealg.MaxLen"], apart := false, laid := [("unicode/utf8.acceptRanges", laid_unicode_utf8_acceptRanges), ("unicode/utf8.first", laid_unicode_utf8_first)] }
def FnPagerLoadSaid : Prop := fnPagerLoadRow.holds Tryz.pinned (OpenSpec.ofChange fnPagerLoadSpec)

/-- ITS FALSE NEIGHBOUR: 'it returns false'. Refute it at one input. -/
def fnPagerLoadWrong : ChangeSpec := { name := "fnPagerLoad", fn := fun _ => fun
  | [d] => { results := [.lit (.bool false)], args := [d] }
  | _ => none }
def FnPagerLoadWrongFalsely : Prop := fnPagerLoadRow.holds Tryz.pinned (OpenSpec.ofChange fnPagerLoadWrong)

/-- 'laws.FnPagerStore': WHATEVER THE INPUT: true; the input reads as it did. -/
def fnPagerStoreSpec : ChangeSpec := { name := "fnPagerStore", fn := fun _ => fun
  | [d] => { results := [.lit (.bool true)], args := [d] }
  | _ => none }
def fnPagerStoreRow : OpenClaim := { program := "ytpdjjjdkhedibaagreatdoor", sum := "9830bd79b7b32510ff7cda426ea68a89ee2f0e819fff558e6b9813de8fd53b4e", func := "loop.example/exopager/laws.FnPagerStore", spec := "fnPagerStore", inPlace := ["internal/bytealg.IndexByteString", "internal/bytealg.IndexString", "slices.overlaps[string]"], unfollowed := true, recurses := true, named := ["unicode/utf8.first", "unicode/utf8.acceptRanges", "internal/bytealg.MaxLen"], apart := false, laid := [("unicode/utf8.acceptRanges", laid_unicode_utf8_acceptRanges), ("unicode/utf8.first", laid_unicode_utf8_first)] }
def FnPagerStoreSaid : Prop := fnPagerStoreRow.holds Tryz.pinned (OpenSpec.ofChange fnPagerStoreSpec)

/-- ITS FALSE NEIGHBOUR: 'it returns false'. Refute it at one input. -/
def fnPagerStoreWrong : ChangeSpec := { name := "fnPagerStore", fn := fun _ => fun
  | [d] => { results := [.lit (.bool false)], args := [d] }
  | _ => none }
def FnPagerStoreWrongFalsely : Prop := fnPagerStoreRow.holds Tryz.pinned (OpenSpec.ofChange fnPagerStoreWrong)

/- THE SECOND FORM. 'bulk': how many values and letters a reading holds, each counted each time it is reached (what is shared counts as often as it is met; a slice's spare places count too). A statement '..UptoSaid' is the law's where the arguments, and the package variables that the reading takes, are together of bulk at most 1048576: NARROWER than '..Said'. Prove '..Said' where nothing that the law and all that it calls make is longer than what came in: it says more and counts as full. Else prove '..UptoSaid'. A law counts once. -/
mutual
def uptoBulk {H : Type} : DataW H → Nat
  | .lit (.string bytes) => bytes.length + 1
  | .lit _ => 1
  | .nil => 1
  | .ptr d => uptoBulk d + 1
  | .slice elems spare => uptoBulkAll elems + uptoBulkAll spare + 1
  | .agg parts => uptoBulkAll parts + 1
  | .iface _ d => uptoBulk d + 1
  | .map entries => uptoBulkEntries entries + 1
  | .held _ => 1
def uptoBulkAll {H : Type} : List (DataW H) → Nat
  | [] => 0
  | d :: r => uptoBulk d + uptoBulkAll r
def uptoBulkEntries {H : Type} : List (Lit × DataW H) → Nat
  | [] => 0
  | x :: r => uptoBulkEntry x + uptoBulkEntries r
def uptoBulkEntry {H : Type} : Lit × DataW H → Nat
  | (.string bytes, d) => bytes.length + uptoBulk d + 1
  | (_, d) => uptoBulk d + 1
 end
def uptoSmall : (H : Type) → List (DataW H) → Bool := fun _ ds => decide (uptoBulkAll ds ≤ 1048576)
def OpenSpec.upto (s : _root_.Go.ChangeSpec) : _root_.Go.OpenSpec := { _root_.Go.OpenSpec.ofChange s with cond := some uptoSmall }

/-- 'laws.FnPagerLoadRoom', WHERE WHAT IT READS IS OF BULK AT MOST 1048576: true; the input reads as it did. -/
def fnPagerLoadRoomUptoRow : OpenClaim := { program := "ytpdjjjdkhedibaagreatdoor", sum := "9830bd79b7b32510ff7cda426ea68a89ee2f0e819fff558e6b9813de8fd53b4e", func := "loop.example/exopager/laws.FnPagerLoadRoom", spec := "fnPagerLoadRoom", inPlace := ["internal/bytealg.IndexByteString", "internal/bytealg.IndexString", "slices.overlaps[string]"], unfollowed := true, recurses := true, named := ["unicode/utf8.first", "unicode/utf8.acceptRanges", "internal/bytealg.MaxLen"], apart := false, laid := [("unicode/utf8.acceptRanges", laid_unicode_utf8_acceptRanges), ("unicode/utf8.first", laid_unicode_utf8_first)], narrowed := true }
def FnPagerLoadRoomUptoSaid : Prop := fnPagerLoadRoomUptoRow.holds Tryz.pinned (OpenSpec.upto fnPagerLoadRoomSpec)

/-- 'laws.FnTouch', WHERE WHAT IT READS IS OF BULK AT MOST 1048576: true; the input reads as it did. -/
def fnTouchUptoRow : OpenClaim := { program := "ytpdjjjdkhedibaagreatdoor", sum := "9830bd79b7b32510ff7cda426ea68a89ee2f0e819fff558e6b9813de8fd53b4e", func := "loop.example/exopager/laws.FnTouch", spec := "fnTouch", inPlace := ["internal/bytealg.IndexByteString", "internal/bytealg.IndexString", "slices.overlaps[string]"], unfollowed := true, recurses := true, named := ["unicode/utf8.first", "unicode/utf8.acceptRanges", "internal/bytealg.MaxLen"], apart := false, laid := [("unicode/utf8.acceptRanges", laid_unicode_utf8_acceptRanges), ("unicode/utf8.first", laid_unicode_utf8_first)], narrowed := true }
def FnTouchUptoSaid : Prop := fnTouchUptoRow.holds Tryz.pinned (OpenSpec.upto fnTouchSpec)

/-- 'laws.FnTouchOne', WHERE WHAT IT READS IS OF BULK AT MOST 1048576: true; the input reads as it did. -/
def fnTouchOneUptoRow : OpenClaim := { program := "ytpdjjjdkhedibaagreatdoor", sum := "9830bd79b7b32510ff7cda426ea68a89ee2f0e819fff558e6b9813de8fd53b4e", func := "loop.example/exopager/laws.FnTouchOne", spec := "fnTouchOne", inPlace := ["internal/bytealg.IndexByteString", "internal/bytealg.IndexString", "slices.overlaps[string]"], unfollowed := true, recurses := true, named := ["unicode/utf8.first", "unicode/utf8.acceptRanges", "internal/bytealg.MaxLen"], apart := false, laid := [("unicode/utf8.acceptRanges", laid_unicode_utf8_acceptRanges), ("unicode/utf8.first", laid_unicode_utf8_first)], narrowed := true }
def FnTouchOneUptoSaid : Prop := fnTouchOneUptoRow.holds Tryz.pinned (OpenSpec.upto fnTouchOneSpec)

/-- 'laws.FnTouchRoom', WHERE WHAT IT READS IS OF BULK AT MOST 1048576: true; the input reads as it did. -/
def fnTouchRoomUptoRow : OpenClaim := { program := "ytpdjjjdkhedibaagreatdoor", sum := "9830bd79b7b32510ff7cda426ea68a89ee2f0e819fff558e6b9813de8fd53b4e", func := "loop.example/exopager/laws.FnTouchRoom", spec := "fnTouchRoom", inPlace := ["internal/bytealg.IndexByteString", "internal/bytealg.IndexString", "slices.overlaps[string]"], unfollowed := true, recurses := true, named := ["unicode/utf8.first", "unicode/utf8.acceptRanges", "internal/bytealg.MaxLen"], apart := false, laid := [("unicode/utf8.acceptRanges", laid_unicode_utf8_acceptRanges), ("unicode/utf8.first", laid_unicode_utf8_first)], narrowed := true }
def FnTouchRoomUptoSaid : Prop := fnTouchRoomUptoRow.holds Tryz.pinned (OpenSpec.upto fnTouchRoomSpec)

/-- 'laws.FnPagerStoreLoad', WHERE WHAT IT READS IS OF BULK AT MOST 1048576: true; the input reads as it did. -/
def fnPagerStoreLoadUptoRow : OpenClaim := { program := "ytpdjjjdkhedibaagreatdoor", sum := "9830bd79b7b32510ff7cda426ea68a89ee2f0e819fff558e6b9813de8fd53b4e", func := "loop.example/exopager/laws.FnPagerStoreLoad", spec := "fnPagerStoreLoad", inPlace := ["internal/bytealg.IndexByteString", "internal/bytealg.IndexString", "slices.overlaps[string]"], unfollowed := true, recurses := true, named := ["unicode/utf8.first", "unicode/utf8.acceptRanges", "internal/bytealg.MaxLen"], apart := false, laid := [("unicode/utf8.acceptRanges", laid_unicode_utf8_acceptRanges), ("unicode/utf8.first", laid_unicode_utf8_first)], narrowed := true }
def FnPagerStoreLoadUptoSaid : Prop := fnPagerStoreLoadUptoRow.holds Tryz.pinned (OpenSpec.upto fnPagerStoreLoadSpec)

/-- 'laws.FnPagerLoad', WHERE WHAT IT READS IS OF BULK AT MOST 1048576: true; the input reads as it did. -/
def fnPagerLoadUptoRow : OpenClaim := { program := "ytpdjjjdkhedibaagreatdoor", sum := "9830bd79b7b32510ff7cda426ea68a89ee2f0e819fff558e6b9813de8fd53b4e", func := "loop.example/exopager/laws.FnPagerLoad", spec := "fnPagerLoad", inPlace := ["internal/bytealg.IndexByteString", "internal/bytealg.IndexString", "slices.overlaps[string]"], unfollowed := true, recurses := true, named := ["unicode/utf8.first", "unicode/utf8.acceptRanges", "internal/bytealg.MaxLen"], apart := false, laid := [("unicode/utf8.acceptRanges", laid_unicode_utf8_acceptRanges), ("unicode/utf8.first", laid_unicode_utf8_first)], narrowed := true }
def FnPagerLoadUptoSaid : Prop := fnPagerLoadUptoRow.holds Tryz.pinned (OpenSpec.upto fnPagerLoadSpec)

/-- 'laws.FnPagerStore', WHERE WHAT IT READS IS OF BULK AT MOST 1048576: true; the input reads as it did. -/
def fnPagerStoreUptoRow : OpenClaim := { program := "ytpdjjjdkhedibaagreatdoor", sum := "9830bd79b7b32510ff7cda426ea68a89ee2f0e819fff558e6b9813de8fd53b4e", func := "loop.example/exopager/laws.FnPagerStore", spec := "fnPagerStore", inPlace := ["internal/bytealg.IndexByteString", "internal/bytealg.IndexString", "slices.overlaps[string]"], unfollowed := true, recurses := true, named := ["unicode/utf8.first", "unicode/utf8.acceptRanges", "internal/bytealg.MaxLen"], apart := false, laid := [("unicode/utf8.acceptRanges", laid_unicode_utf8_acceptRanges), ("unicode/utf8.first", laid_unicode_utf8_first)], narrowed := true }
def FnPagerStoreUptoSaid : Prop := fnPagerStoreUptoRow.holds Tryz.pinned (OpenSpec.upto fnPagerStoreSpec)

end Rows
end Go.Proofs.YtpdjjjdkhedibaaGreatDoor
