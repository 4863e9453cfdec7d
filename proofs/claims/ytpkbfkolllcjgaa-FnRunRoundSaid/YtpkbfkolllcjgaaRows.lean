/-
  No cell of these rows narrows 'for every input' (looked for: loops, veiled, ifaces, maps, wideKeys, modest, calm, conditions, laid).
  DERIVED. THE GIVEN ROWS OF THIS SEAT. 13 by the template 'for every input the law returns true; each argument reads behind the call as it read before'; 0 by the template 'total and deterministic' (their statements: YtpkbfkolllcjgaaTotals.lean).
  GIVEN WITH THE SEED: the statements are not yours to turn. If you find one false, say at which input.
  Laid BY PROGRAM, IN A SANDBOX (cutbox-rows.mjs): the forced cells as the released guide's own fill.sh prints them over the translation 0c3f4565b1667ed6… (all of the seat's roots in one cut). By AI agents, Wed Nov 11 2026. No macro, syntax, notation, axiom, sorry.
-/
import Derived.Test.YtpkbfkolllcjgaaChecked
import GoSem.Claim
import GoSem.ClaimJoined
import GoSem.ClaimMapViews
import Derived.JoinedTies
import Derived.KernelRfl
namespace Go.Proofs.Ytpkbfkolllcjgaa
/- THE CELL 'sum', in the pinned program and in every row, IS THE sha256 OF THE DUMP (.gsa) THAT YtpkbfkolllcjgaaProg.lean LOADS. Nothing in Lean hashes anything: it is a label: what it is worth is what the hold of that sum in a sandbox is worth. -/
noncomputable def Try.pinned : Pinned := { name := "ytpkbfkolllcjgaa", sum := "0c3f4565b1667ed605e83c68459749fa3bd62d1a8e1ef5b9ae35e990d6178553", checked := Try.checked }
namespace Rows
def none {H : Type} : Left H := { results := [], args := [] }

/-- 'laws.FnExactSlicesValid': WHATEVER THE INPUT: true; the input reads as it did. -/
def fnExactSlicesValidSpec : ChangeSpec := { name := "fnExactSlicesValid", fn := fun _ => fun
  | [d] => { results := [.lit (.bool true)], args := [d] }
  | _ => none }
def fnExactSlicesValidRow : OpenClaim := { program := "ytpkbfkolllcjgaa", sum := "0c3f4565b1667ed605e83c68459749fa3bd62d1a8e1ef5b9ae35e990d6178553", func := "loop.example/exopager/laws.FnExactSlicesValid", spec := "fnExactSlicesValid", unfollowed := true, recurses := true, apart := false }
def FnExactSlicesValidSaid : Prop := fnExactSlicesValidRow.holds Try.pinned (OpenSpec.ofChange fnExactSlicesValidSpec)

/-- ITS FALSE NEIGHBOUR: 'it returns false'. Refute it at one input. -/
def fnExactSlicesValidWrong : ChangeSpec := { name := "fnExactSlicesValid", fn := fun _ => fun
  | [d] => { results := [.lit (.bool false)], args := [d] }
  | _ => none }
def FnExactSlicesValidWrongFalsely : Prop := fnExactSlicesValidRow.holds Try.pinned (OpenSpec.ofChange fnExactSlicesValidWrong)

/-- 'laws.FnExactSlicesNext': WHATEVER THE INPUT: true; the input reads as it did. -/
def fnExactSlicesNextSpec : ChangeSpec := { name := "fnExactSlicesNext", fn := fun _ => fun
  | [d1, d2] => { results := [.lit (.bool true)], args := [d1, d2] }
  | _ => none }
def fnExactSlicesNextRow : OpenClaim := { program := "ytpkbfkolllcjgaa", sum := "0c3f4565b1667ed605e83c68459749fa3bd62d1a8e1ef5b9ae35e990d6178553", func := "loop.example/exopager/laws.FnExactSlicesNext", spec := "fnExactSlicesNext", unfollowed := true, recurses := true, apart := false }
def FnExactSlicesNextSaid : Prop := fnExactSlicesNextRow.holds Try.pinned (OpenSpec.ofChange fnExactSlicesNextSpec)

/-- ITS FALSE NEIGHBOUR: 'it returns false'. Refute it at one input. -/
def fnExactSlicesNextWrong : ChangeSpec := { name := "fnExactSlicesNext", fn := fun _ => fun
  | [d1, d2] => { results := [.lit (.bool false)], args := [d1, d2] }
  | _ => none }
def FnExactSlicesNextWrongFalsely : Prop := fnExactSlicesNextRow.holds Try.pinned (OpenSpec.ofChange fnExactSlicesNextWrong)

/-- 'laws.FnExactSlicesWait': WHATEVER THE INPUT: true; the input reads as it did. -/
def fnExactSlicesWaitSpec : ChangeSpec := { name := "fnExactSlicesWait", fn := fun _ => fun
  | [d1, d2] => { results := [.lit (.bool true)], args := [d1, d2] }
  | _ => none }
def fnExactSlicesWaitRow : OpenClaim := { program := "ytpkbfkolllcjgaa", sum := "0c3f4565b1667ed605e83c68459749fa3bd62d1a8e1ef5b9ae35e990d6178553", func := "loop.example/exopager/laws.FnExactSlicesWait", spec := "fnExactSlicesWait", unfollowed := true, recurses := true, apart := false }
def FnExactSlicesWaitSaid : Prop := fnExactSlicesWaitRow.holds Try.pinned (OpenSpec.ofChange fnExactSlicesWaitSpec)

/-- ITS FALSE NEIGHBOUR: 'it returns false'. Refute it at one input. -/
def fnExactSlicesWaitWrong : ChangeSpec := { name := "fnExactSlicesWait", fn := fun _ => fun
  | [d1, d2] => { results := [.lit (.bool false)], args := [d1, d2] }
  | _ => none }
def FnExactSlicesWaitWrongFalsely : Prop := fnExactSlicesWaitRow.holds Try.pinned (OpenSpec.ofChange fnExactSlicesWaitWrong)

/-- 'laws.FnExactSlicesGive': WHATEVER THE INPUT: true; the input reads as it did. -/
def fnExactSlicesGiveSpec : ChangeSpec := { name := "fnExactSlicesGive", fn := fun _ => fun
  | [d1, d2, d3] => { results := [.lit (.bool true)], args := [d1, d2, d3] }
  | _ => none }
def fnExactSlicesGiveRow : OpenClaim := { program := "ytpkbfkolllcjgaa", sum := "0c3f4565b1667ed605e83c68459749fa3bd62d1a8e1ef5b9ae35e990d6178553", func := "loop.example/exopager/laws.FnExactSlicesGive", spec := "fnExactSlicesGive", unfollowed := true, recurses := true, apart := false }
def FnExactSlicesGiveSaid : Prop := fnExactSlicesGiveRow.holds Try.pinned (OpenSpec.ofChange fnExactSlicesGiveSpec)

/-- ITS FALSE NEIGHBOUR: 'it returns false'. Refute it at one input. -/
def fnExactSlicesGiveWrong : ChangeSpec := { name := "fnExactSlicesGive", fn := fun _ => fun
  | [d1, d2, d3] => { results := [.lit (.bool false)], args := [d1, d2, d3] }
  | _ => none }
def FnExactSlicesGiveWrongFalsely : Prop := fnExactSlicesGiveRow.holds Try.pinned (OpenSpec.ofChange fnExactSlicesGiveWrong)

/-- 'laws.FnNext': WHATEVER THE INPUT: true; the input reads as it did. -/
def fnNextSpec : ChangeSpec := { name := "fnNext", fn := fun _ => fun
  | [d] => { results := [.lit (.bool true)], args := [d] }
  | _ => none }
def fnNextRow : OpenClaim := { program := "ytpkbfkolllcjgaa", sum := "0c3f4565b1667ed605e83c68459749fa3bd62d1a8e1ef5b9ae35e990d6178553", func := "loop.example/exopager/laws.FnNext", spec := "fnNext", unfollowed := true, recurses := true, apart := false }
def FnNextSaid : Prop := fnNextRow.holds Try.pinned (OpenSpec.ofChange fnNextSpec)

/-- ITS FALSE NEIGHBOUR: 'it returns false'. Refute it at one input. -/
def fnNextWrong : ChangeSpec := { name := "fnNext", fn := fun _ => fun
  | [d] => { results := [.lit (.bool false)], args := [d] }
  | _ => none }
def FnNextWrongFalsely : Prop := fnNextRow.holds Try.pinned (OpenSpec.ofChange fnNextWrong)

/-- 'laws.FnNextNone': WHATEVER THE INPUT: true; the input reads as it did. -/
def fnNextNoneSpec : ChangeSpec := { name := "fnNextNone", fn := fun _ => fun
  | [d] => { results := [.lit (.bool true)], args := [d] }
  | _ => none }
def fnNextNoneRow : OpenClaim := { program := "ytpkbfkolllcjgaa", sum := "0c3f4565b1667ed605e83c68459749fa3bd62d1a8e1ef5b9ae35e990d6178553", func := "loop.example/exopager/laws.FnNextNone", spec := "fnNextNone", unfollowed := true, recurses := true, apart := false }
def FnNextNoneSaid : Prop := fnNextNoneRow.holds Try.pinned (OpenSpec.ofChange fnNextNoneSpec)

/-- ITS FALSE NEIGHBOUR: 'it returns false'. Refute it at one input. -/
def fnNextNoneWrong : ChangeSpec := { name := "fnNextNone", fn := fun _ => fun
  | [d] => { results := [.lit (.bool false)], args := [d] }
  | _ => none }
def FnNextNoneWrongFalsely : Prop := fnNextNoneRow.holds Try.pinned (OpenSpec.ofChange fnNextNoneWrong)

/-- 'laws.FnWait': WHATEVER THE INPUT: true; the input reads as it did. -/
def fnWaitSpec : ChangeSpec := { name := "fnWait", fn := fun _ => fun
  | [d] => { results := [.lit (.bool true)], args := [d] }
  | _ => none }
def fnWaitRow : OpenClaim := { program := "ytpkbfkolllcjgaa", sum := "0c3f4565b1667ed605e83c68459749fa3bd62d1a8e1ef5b9ae35e990d6178553", func := "loop.example/exopager/laws.FnWait", spec := "fnWait", unfollowed := true, recurses := true, apart := false }
def FnWaitSaid : Prop := fnWaitRow.holds Try.pinned (OpenSpec.ofChange fnWaitSpec)

/-- ITS FALSE NEIGHBOUR: 'it returns false'. Refute it at one input. -/
def fnWaitWrong : ChangeSpec := { name := "fnWait", fn := fun _ => fun
  | [d] => { results := [.lit (.bool false)], args := [d] }
  | _ => none }
def FnWaitWrongFalsely : Prop := fnWaitRow.holds Try.pinned (OpenSpec.ofChange fnWaitWrong)

/-- 'laws.FnExactSlicesRun': WHATEVER THE INPUT: true; the input reads as it did. -/
def fnExactSlicesRunSpec : ChangeSpec := { name := "fnExactSlicesRun", fn := fun _ => fun
  | [d1, d2, d3] => { results := [.lit (.bool true)], args := [d1, d2, d3] }
  | _ => none }
def fnExactSlicesRunRow : OpenClaim := { program := "ytpkbfkolllcjgaa", sum := "0c3f4565b1667ed605e83c68459749fa3bd62d1a8e1ef5b9ae35e990d6178553", func := "loop.example/exopager/laws.FnExactSlicesRun", spec := "fnExactSlicesRun", unfollowed := true, recurses := true, apart := false }
def FnExactSlicesRunSaid : Prop := fnExactSlicesRunRow.holds Try.pinned (OpenSpec.ofChange fnExactSlicesRunSpec)

/-- ITS FALSE NEIGHBOUR: 'it returns false'. Refute it at one input. -/
def fnExactSlicesRunWrong : ChangeSpec := { name := "fnExactSlicesRun", fn := fun _ => fun
  | [d1, d2, d3] => { results := [.lit (.bool false)], args := [d1, d2, d3] }
  | _ => none }
def FnExactSlicesRunWrongFalsely : Prop := fnExactSlicesRunRow.holds Try.pinned (OpenSpec.ofChange fnExactSlicesRunWrong)

/-- 'laws.FnWaitNone': WHATEVER THE INPUT: true; the input reads as it did. -/
def fnWaitNoneSpec : ChangeSpec := { name := "fnWaitNone", fn := fun _ => fun
  | [d] => { results := [.lit (.bool true)], args := [d] }
  | _ => none }
def fnWaitNoneRow : OpenClaim := { program := "ytpkbfkolllcjgaa", sum := "0c3f4565b1667ed605e83c68459749fa3bd62d1a8e1ef5b9ae35e990d6178553", func := "loop.example/exopager/laws.FnWaitNone", spec := "fnWaitNone", unfollowed := true, recurses := true, apart := false }
def FnWaitNoneSaid : Prop := fnWaitNoneRow.holds Try.pinned (OpenSpec.ofChange fnWaitNoneSpec)

/-- ITS FALSE NEIGHBOUR: 'it returns false'. Refute it at one input. -/
def fnWaitNoneWrong : ChangeSpec := { name := "fnWaitNone", fn := fun _ => fun
  | [d] => { results := [.lit (.bool false)], args := [d] }
  | _ => none }
def FnWaitNoneWrongFalsely : Prop := fnWaitNoneRow.holds Try.pinned (OpenSpec.ofChange fnWaitNoneWrong)

/-- 'laws.FnGiveSlice': WHATEVER THE INPUT: true; the input reads as it did. -/
def fnGiveSliceSpec : ChangeSpec := { name := "fnGiveSlice", fn := fun _ => fun
  | [d] => { results := [.lit (.bool true)], args := [d] }
  | _ => none }
def fnGiveSliceRow : OpenClaim := { program := "ytpkbfkolllcjgaa", sum := "0c3f4565b1667ed605e83c68459749fa3bd62d1a8e1ef5b9ae35e990d6178553", func := "loop.example/exopager/laws.FnGiveSlice", spec := "fnGiveSlice", unfollowed := true, recurses := true, apart := false }
def FnGiveSliceSaid : Prop := fnGiveSliceRow.holds Try.pinned (OpenSpec.ofChange fnGiveSliceSpec)

/-- ITS FALSE NEIGHBOUR: 'it returns false'. Refute it at one input. -/
def fnGiveSliceWrong : ChangeSpec := { name := "fnGiveSlice", fn := fun _ => fun
  | [d] => { results := [.lit (.bool false)], args := [d] }
  | _ => none }
def FnGiveSliceWrongFalsely : Prop := fnGiveSliceRow.holds Try.pinned (OpenSpec.ofChange fnGiveSliceWrong)

/-- 'laws.FnGiveTaken': WHATEVER THE INPUT: true; the input reads as it did. -/
def fnGiveTakenSpec : ChangeSpec := { name := "fnGiveTaken", fn := fun _ => fun
  | [d] => { results := [.lit (.bool true)], args := [d] }
  | _ => none }
def fnGiveTakenRow : OpenClaim := { program := "ytpkbfkolllcjgaa", sum := "0c3f4565b1667ed605e83c68459749fa3bd62d1a8e1ef5b9ae35e990d6178553", func := "loop.example/exopager/laws.FnGiveTaken", spec := "fnGiveTaken", unfollowed := true, recurses := true, apart := false }
def FnGiveTakenSaid : Prop := fnGiveTakenRow.holds Try.pinned (OpenSpec.ofChange fnGiveTakenSpec)

/-- ITS FALSE NEIGHBOUR: 'it returns false'. Refute it at one input. -/
def fnGiveTakenWrong : ChangeSpec := { name := "fnGiveTaken", fn := fun _ => fun
  | [d] => { results := [.lit (.bool false)], args := [d] }
  | _ => none }
def FnGiveTakenWrongFalsely : Prop := fnGiveTakenRow.holds Try.pinned (OpenSpec.ofChange fnGiveTakenWrong)

/-- 'laws.FnRun': WHATEVER THE INPUT: true; the input reads as it did. -/
def fnRunSpec : ChangeSpec := { name := "fnRun", fn := fun _ => fun
  | [d] => { results := [.lit (.bool true)], args := [d] }
  | _ => none }
def fnRunRow : OpenClaim := { program := "ytpkbfkolllcjgaa", sum := "0c3f4565b1667ed605e83c68459749fa3bd62d1a8e1ef5b9ae35e990d6178553", func := "loop.example/exopager/laws.FnRun", spec := "fnRun", unfollowed := true, recurses := true, apart := false }
def FnRunSaid : Prop := fnRunRow.holds Try.pinned (OpenSpec.ofChange fnRunSpec)

/-- ITS FALSE NEIGHBOUR: 'it returns false'. Refute it at one input. -/
def fnRunWrong : ChangeSpec := { name := "fnRun", fn := fun _ => fun
  | [d] => { results := [.lit (.bool false)], args := [d] }
  | _ => none }
def FnRunWrongFalsely : Prop := fnRunRow.holds Try.pinned (OpenSpec.ofChange fnRunWrong)

/-- 'laws.FnRunRound': WHATEVER THE INPUT: true; the input reads as it did. -/
def fnRunRoundSpec : ChangeSpec := { name := "fnRunRound", fn := fun _ => fun
  | [d] => { results := [.lit (.bool true)], args := [d] }
  | _ => none }
def fnRunRoundRow : OpenClaim := { program := "ytpkbfkolllcjgaa", sum := "0c3f4565b1667ed605e83c68459749fa3bd62d1a8e1ef5b9ae35e990d6178553", func := "loop.example/exopager/laws.FnRunRound", spec := "fnRunRound", unfollowed := true, recurses := true, apart := false }
def FnRunRoundSaid : Prop := fnRunRoundRow.holds Try.pinned (OpenSpec.ofChange fnRunRoundSpec)

/-- ITS FALSE NEIGHBOUR: 'it returns false'. Refute it at one input. -/
def fnRunRoundWrong : ChangeSpec := { name := "fnRunRound", fn := fun _ => fun
  | [d] => { results := [.lit (.bool false)], args := [d] }
  | _ => none }
def FnRunRoundWrongFalsely : Prop := fnRunRoundRow.holds Try.pinned (OpenSpec.ofChange fnRunRoundWrong)

/- THE SECOND FORM. 'bulk': how many values and letters a reading holds, each counted each time it is reached (what is shared counts as often as it is met; a slice's spare places count too). A statement '..UptoSaid' is the law's where the arguments, and the package variables that the reading takes, are together of bulk at most 1048576: NARROWER than '..Said'. Prove '..Said' where nothing that the law and all that it calls make is longer than what came in: it says more and counts as full. Else prove '..UptoSaid'. A law counts once. -/
mutual
def uptoBulk {H : Type} : DataW H → Nat
  | .lit (.string bytes) => bytes.length + 1
  | .lit _ => 1
  | .nil => 1
  | .ptr d => uptoBulk d + 1
  | .slice elems spare => uptoBulkAll elems + uptoBulkAll spare + 1
  | .agg parts => uptoBulkAll parts + 1
  | .iface _ d => uptoBulk d + 1
  | .map entries => uptoBulkEntries entries + 1
  | .held _ => 1
def uptoBulkAll {H : Type} : List (DataW H) → Nat
  | [] => 0
  | d :: r => uptoBulk d + uptoBulkAll r
def uptoBulkEntries {H : Type} : List (Lit × DataW H) → Nat
  | [] => 0
  | x :: r => uptoBulkEntry x + uptoBulkEntries r
def uptoBulkEntry {H : Type} : Lit × DataW H → Nat
  | (.string bytes, d) => bytes.length + uptoBulk d + 1
  | (_, d) => uptoBulk d + 1
 end
def uptoSmall : (H : Type) → List (DataW H) → Bool := fun _ ds => decide (uptoBulkAll ds ≤ 1048576)
def OpenSpec.upto (s : _root_.Go.ChangeSpec) : _root_.Go.OpenSpec := { _root_.Go.OpenSpec.ofChange s with cond := some uptoSmall }

/-- 'laws.FnExactSlicesValid', WHERE WHAT IT READS IS OF BULK AT MOST 1048576: true; the input reads as it did. -/
def fnExactSlicesValidUptoRow : OpenClaim := { program := "ytpkbfkolllcjgaa", sum := "0c3f4565b1667ed605e83c68459749fa3bd62d1a8e1ef5b9ae35e990d6178553", func := "loop.example/exopager/laws.FnExactSlicesValid", spec := "fnExactSlicesValid", unfollowed := true, recurses := true, apart := false, narrowed := true }
def FnExactSlicesValidUptoSaid : Prop := fnExactSlicesValidUptoRow.holds Try.pinned (OpenSpec.upto fnExactSlicesValidSpec)

/-- 'laws.FnExactSlicesNext', WHERE WHAT IT READS IS OF BULK AT MOST 1048576: true; the input reads as it did. -/
def fnExactSlicesNextUptoRow : OpenClaim := { program := "ytpkbfkolllcjgaa", sum := "0c3f4565b1667ed605e83c68459749fa3bd62d1a8e1ef5b9ae35e990d6178553", func := "loop.example/exopager/laws.FnExactSlicesNext", spec := "fnExactSlicesNext", unfollowed := true, recurses := true, apart := false, narrowed := true }
def FnExactSlicesNextUptoSaid : Prop := fnExactSlicesNextUptoRow.holds Try.pinned (OpenSpec.upto fnExactSlicesNextSpec)

/-- 'laws.FnExactSlicesWait', WHERE WHAT IT READS IS OF BULK AT MOST 1048576: true; the input reads as it did. -/
def fnExactSlicesWaitUptoRow : OpenClaim := { program := "ytpkbfkolllcjgaa", sum := "0c3f4565b1667ed605e83c68459749fa3bd62d1a8e1ef5b9ae35e990d6178553", func := "loop.example/exopager/laws.FnExactSlicesWait", spec := "fnExactSlicesWait", unfollowed := true, recurses := true, apart := false, narrowed := true }
def FnExactSlicesWaitUptoSaid : Prop := fnExactSlicesWaitUptoRow.holds Try.pinned (OpenSpec.upto fnExactSlicesWaitSpec)

/-- 'laws.FnExactSlicesGive', WHERE WHAT IT READS IS OF BULK AT MOST 1048576: true; the input reads as it did. -/
def fnExactSlicesGiveUptoRow : OpenClaim := { program := "ytpkbfkolllcjgaa", sum := "0c3f4565b1667ed605e83c68459749fa3bd62d1a8e1ef5b9ae35e990d6178553", func := "loop.example/exopager/laws.FnExactSlicesGive", spec := "fnExactSlicesGive", unfollowed := true, recurses := true, apart := false, narrowed := true }
def FnExactSlicesGiveUptoSaid : Prop := fnExactSlicesGiveUptoRow.holds Try.pinned (OpenSpec.upto fnExactSlicesGiveSpec)

/-- 'laws.FnNext', WHERE WHAT IT READS IS OF BULK AT MOST 1048576: true; the input reads as it did. -/
def fnNextUptoRow : OpenClaim := { program := "ytpkbfkolllcjgaa", sum := "0c3f4565b1667ed605e83c68459749fa3bd62d1a8e1ef5b9ae35e990d6178553", func := "loop.example/exopager/laws.FnNext", spec := "fnNext", unfollowed := true, recurses := true, apart := false, narrowed := true }
def FnNextUptoSaid : Prop := fnNextUptoRow.holds Try.pinned (OpenSpec.upto fnNextSpec)

/-- 'laws.FnNextNone', WHERE WHAT IT READS IS OF BULK AT MOST 1048576: true; the input reads as it did. -/
def fnNextNoneUptoRow : OpenClaim := { program := "ytpkbfkolllcjgaa", sum := "0c3f4565b1667ed605e83c68459749fa3bd62d1a8e1ef5b9ae35e990d6178553", func := "loop.example/exopager/laws.FnNextNone", spec := "fnNextNone", unfollowed := true, recurses := true, apart := false, narrowed := true }
def FnNextNoneUptoSaid : Prop := fnNextNoneUptoRow.holds Try.pinned (OpenSpec.upto fnNextNoneSpec)

/-- 'laws.FnWait', WHERE WHAT IT READS IS OF BULK AT MOST 1048576: true; the input reads as it did. -/
def fnWaitUptoRow : OpenClaim := { program := "ytpkbfkolllcjgaa", sum := "0c3f4565b1667ed605e83c68459749fa3bd62d1a8e1ef5b9ae35e990d6178553", func := "loop.example/exopager/laws.FnWait", spec := "fnWait", unfollowed := true, recurses := true, apart := false, narrowed := true }
def FnWaitUptoSaid : Prop := fnWaitUptoRow.holds Try.pinned (OpenSpec.upto fnWaitSpec)

/-- 'laws.FnExactSlicesRun', WHERE WHAT IT READS IS OF BULK AT MOST 1048576: true; the input reads as it did. -/
def fnExactSlicesRunUptoRow : OpenClaim := { program := "ytpkbfkolllcjgaa", sum := "0c3f4565b1667ed605e83c68459749fa3bd62d1a8e1ef5b9ae35e990d6178553", func := "loop.example/exopager/laws.FnExactSlicesRun", spec := "fnExactSlicesRun", unfollowed := true, recurses := true, apart := false, narrowed := true }
def FnExactSlicesRunUptoSaid : Prop := fnExactSlicesRunUptoRow.holds Try.pinned (OpenSpec.upto fnExactSlicesRunSpec)

/-- 'laws.FnWaitNone', WHERE WHAT IT READS IS OF BULK AT MOST 1048576: true; the input reads as it did. -/
def fnWaitNoneUptoRow : OpenClaim := { program := "ytpkbfkolllcjgaa", sum := "0c3f4565b1667ed605e83c68459749fa3bd62d1a8e1ef5b9ae35e990d6178553", func := "loop.example/exopager/laws.FnWaitNone", spec := "fnWaitNone", unfollowed := true, recurses := true, apart := false, narrowed := true }
def FnWaitNoneUptoSaid : Prop := fnWaitNoneUptoRow.holds Try.pinned (OpenSpec.upto fnWaitNoneSpec)

/-- 'laws.FnGiveSlice', WHERE WHAT IT READS IS OF BULK AT MOST 1048576: true; the input reads as it did. -/
def fnGiveSliceUptoRow : OpenClaim := { program := "ytpkbfkolllcjgaa", sum := "0c3f4565b1667ed605e83c68459749fa3bd62d1a8e1ef5b9ae35e990d6178553", func := "loop.example/exopager/laws.FnGiveSlice", spec := "fnGiveSlice", unfollowed := true, recurses := true, apart := false, narrowed := true }
def FnGiveSliceUptoSaid : Prop := fnGiveSliceUptoRow.holds Try.pinned (OpenSpec.upto fnGiveSliceSpec)

/-- 'laws.FnGiveTaken', WHERE WHAT IT READS IS OF BULK AT MOST 1048576: true; the input reads as it did. -/
def fnGiveTakenUptoRow : OpenClaim := { program := "ytpkbfkolllcjgaa", sum := "0c3f4565b1667ed605e83c68459749fa3bd62d1a8e1ef5b9ae35e990d6178553", func := "loop.example/exopager/laws.FnGiveTaken", spec := "fnGiveTaken", unfollowed := true, recurses := true, apart := false, narrowed := true }
def FnGiveTakenUptoSaid : Prop := fnGiveTakenUptoRow.holds Try.pinned (OpenSpec.upto fnGiveTakenSpec)

/-- 'laws.FnRun', WHERE WHAT IT READS IS OF BULK AT MOST 1048576: true; the input reads as it did. -/
def fnRunUptoRow : OpenClaim := { program := "ytpkbfkolllcjgaa", sum := "0c3f4565b1667ed605e83c68459749fa3bd62d1a8e1ef5b9ae35e990d6178553", func := "loop.example/exopager/laws.FnRun", spec := "fnRun", unfollowed := true, recurses := true, apart := false, narrowed := true }
def FnRunUptoSaid : Prop := fnRunUptoRow.holds Try.pinned (OpenSpec.upto fnRunSpec)

/-- 'laws.FnRunRound', WHERE WHAT IT READS IS OF BULK AT MOST 1048576: true; the input reads as it did. -/
def fnRunRoundUptoRow : OpenClaim := { program := "ytpkbfkolllcjgaa", sum := "0c3f4565b1667ed605e83c68459749fa3bd62d1a8e1ef5b9ae35e990d6178553", func := "loop.example/exopager/laws.FnRunRound", spec := "fnRunRound", unfollowed := true, recurses := true, apart := false, narrowed := true }
def FnRunRoundUptoSaid : Prop := fnRunRoundUptoRow.holds Try.pinned (OpenSpec.upto fnRunRoundSpec)

end Rows
end Go.Proofs.Ytpkbfkolllcjgaa
