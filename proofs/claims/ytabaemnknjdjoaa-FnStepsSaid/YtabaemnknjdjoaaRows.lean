/-
  No cell of these rows narrows 'for every input' (looked for: loops, veiled, ifaces, maps, wideKeys, modest, calm, conditions, laid).
  DERIVED. THE GIVEN ROWS OF THIS SEAT. 6 by the template 'for every input the law returns true; each argument reads behind the call as it read before'; 0 by the template 'total and deterministic' (their statements: YtabaemnknjdjoaaTotals.lean).
  GIVEN WITH THE SEED: the statements are not yours to turn. If you find one false, say at which input.
  Laid BY PROGRAM, IN A SANDBOX (cutbox-rows.mjs): the forced cells as the released guide's own fill.sh prints them over the translation f4aae08e1f466c81… (all of the seat's roots in one cut). By AI agents, Wed Nov 11 2026. No macro, syntax, notation, axiom, sorry.
-/
import Derived.Test.YtabaemnknjdjoaaChecked
import GoSem.Claim
import GoSem.ClaimJoined
import GoSem.ClaimMapViews
import Derived.JoinedTies
import Derived.KernelRfl
namespace Go.Proofs.Ytabaemnknjdjoaa
/- THE CELL 'sum', in the pinned program and in every row, IS THE sha256 OF THE DUMP (.gsa) THAT YtabaemnknjdjoaaProg.lean LOADS. Nothing in Lean hashes anything: it is a label: what it is worth is what the hold of that sum in a sandbox is worth. -/
noncomputable def Try.pinned : Pinned := { name := "ytabaemnknjdjoaa", sum := "f4aae08e1f466c81d60d9c10c979ad7667848a830a2741bb7078e80e79903dc2", checked := Try.checked }
namespace Rows
def none {H : Type} : Left H := { results := [], args := [] }

/-- 'laws.FnExactStepsValid': WHATEVER THE INPUT: true; the input reads as it did. -/
def fnExactStepsValidSpec : ChangeSpec := { name := "fnExactStepsValid", fn := fun _ => fun
  | [d] => { results := [.lit (.bool true)], args := [d] }
  | _ => none }
def fnExactStepsValidRow : OpenClaim := { program := "ytabaemnknjdjoaa", sum := "f4aae08e1f466c81d60d9c10c979ad7667848a830a2741bb7078e80e79903dc2", func := "loop.example/exopager/laws.FnExactStepsValid", spec := "fnExactStepsValid", unfollowed := true, recurses := true, apart := false }
def FnExactStepsValidSaid : Prop := fnExactStepsValidRow.holds Try.pinned (OpenSpec.ofChange fnExactStepsValidSpec)

/-- ITS FALSE NEIGHBOUR: 'it returns false'. Refute it at one input. -/
def fnExactStepsValidWrong : ChangeSpec := { name := "fnExactStepsValid", fn := fun _ => fun
  | [d] => { results := [.lit (.bool false)], args := [d] }
  | _ => none }
def FnExactStepsValidWrongFalsely : Prop := fnExactStepsValidRow.holds Try.pinned (OpenSpec.ofChange fnExactStepsValidWrong)

/-- 'laws.FnUnpack': WHATEVER THE INPUT: true; the input reads as it did. -/
def fnUnpackSpec : ChangeSpec := { name := "fnUnpack", fn := fun _ => fun
  | [d] => { results := [.lit (.bool true)], args := [d] }
  | _ => none }
def fnUnpackRow : OpenClaim := { program := "ytabaemnknjdjoaa", sum := "f4aae08e1f466c81d60d9c10c979ad7667848a830a2741bb7078e80e79903dc2", func := "loop.example/exopager/laws.FnUnpack", spec := "fnUnpack", unfollowed := true, recurses := true, apart := false }
def FnUnpackSaid : Prop := fnUnpackRow.holds Try.pinned (OpenSpec.ofChange fnUnpackSpec)

/-- ITS FALSE NEIGHBOUR: 'it returns false'. Refute it at one input. -/
def fnUnpackWrong : ChangeSpec := { name := "fnUnpack", fn := fun _ => fun
  | [d] => { results := [.lit (.bool false)], args := [d] }
  | _ => none }
def FnUnpackWrongFalsely : Prop := fnUnpackRow.holds Try.pinned (OpenSpec.ofChange fnUnpackWrong)

/-- 'laws.FnSteps': WHATEVER THE INPUT: true; the input reads as it did. -/
def fnStepsSpec : ChangeSpec := { name := "fnSteps", fn := fun _ => fun
  | [d1, d2] => { results := [.lit (.bool true)], args := [d1, d2] }
  | _ => none }
def fnStepsRow : OpenClaim := { program := "ytabaemnknjdjoaa", sum := "f4aae08e1f466c81d60d9c10c979ad7667848a830a2741bb7078e80e79903dc2", func := "loop.example/exopager/laws.FnSteps", spec := "fnSteps", unfollowed := true, recurses := true, apart := false }
def FnStepsSaid : Prop := fnStepsRow.holds Try.pinned (OpenSpec.ofChange fnStepsSpec)

/-- ITS FALSE NEIGHBOUR: 'it returns false'. Refute it at one input. -/
def fnStepsWrong : ChangeSpec := { name := "fnSteps", fn := fun _ => fun
  | [d1, d2] => { results := [.lit (.bool false)], args := [d1, d2] }
  | _ => none }
def FnStepsWrongFalsely : Prop := fnStepsRow.holds Try.pinned (OpenSpec.ofChange fnStepsWrong)

/-- 'laws.FnExactFlatPlay': WHATEVER THE INPUT: true; the input reads as it did. -/
def fnExactFlatPlaySpec : ChangeSpec := { name := "fnExactFlatPlay", fn := fun _ => fun
  | [d] => { results := [.lit (.bool true)], args := [d] }
  | _ => none }
def fnExactFlatPlayRow : OpenClaim := { program := "ytabaemnknjdjoaa", sum := "f4aae08e1f466c81d60d9c10c979ad7667848a830a2741bb7078e80e79903dc2", func := "loop.example/exopager/laws.FnExactFlatPlay", spec := "fnExactFlatPlay", unfollowed := true, recurses := true, apart := false }
def FnExactFlatPlaySaid : Prop := fnExactFlatPlayRow.holds Try.pinned (OpenSpec.ofChange fnExactFlatPlaySpec)

/-- ITS FALSE NEIGHBOUR: 'it returns false'. Refute it at one input. -/
def fnExactFlatPlayWrong : ChangeSpec := { name := "fnExactFlatPlay", fn := fun _ => fun
  | [d] => { results := [.lit (.bool false)], args := [d] }
  | _ => none }
def FnExactFlatPlayWrongFalsely : Prop := fnExactFlatPlayRow.holds Try.pinned (OpenSpec.ofChange fnExactFlatPlayWrong)

/-- 'laws.FnFlat': WHATEVER THE INPUT: true; the input reads as it did. -/
def fnFlatSpec : ChangeSpec := { name := "fnFlat", fn := fun _ => fun
  | [d] => { results := [.lit (.bool true)], args := [d] }
  | _ => none }
def fnFlatRow : OpenClaim := { program := "ytabaemnknjdjoaa", sum := "f4aae08e1f466c81d60d9c10c979ad7667848a830a2741bb7078e80e79903dc2", func := "loop.example/exopager/laws.FnFlat", spec := "fnFlat", unfollowed := true, recurses := true, apart := false }
def FnFlatSaid : Prop := fnFlatRow.holds Try.pinned (OpenSpec.ofChange fnFlatSpec)

/-- ITS FALSE NEIGHBOUR: 'it returns false'. Refute it at one input. -/
def fnFlatWrong : ChangeSpec := { name := "fnFlat", fn := fun _ => fun
  | [d] => { results := [.lit (.bool false)], args := [d] }
  | _ => none }
def FnFlatWrongFalsely : Prop := fnFlatRow.holds Try.pinned (OpenSpec.ofChange fnFlatWrong)

/-- 'laws.FnFlatCalls': WHATEVER THE INPUT: true; the input reads as it did. -/
def fnFlatCallsSpec : ChangeSpec := { name := "fnFlatCalls", fn := fun _ => fun
  | [d] => { results := [.lit (.bool true)], args := [d] }
  | _ => none }
def fnFlatCallsRow : OpenClaim := { program := "ytabaemnknjdjoaa", sum := "f4aae08e1f466c81d60d9c10c979ad7667848a830a2741bb7078e80e79903dc2", func := "loop.example/exopager/laws.FnFlatCalls", spec := "fnFlatCalls", unfollowed := true, recurses := true, apart := false }
def FnFlatCallsSaid : Prop := fnFlatCallsRow.holds Try.pinned (OpenSpec.ofChange fnFlatCallsSpec)

/-- ITS FALSE NEIGHBOUR: 'it returns false'. Refute it at one input. -/
def fnFlatCallsWrong : ChangeSpec := { name := "fnFlatCalls", fn := fun _ => fun
  | [d] => { results := [.lit (.bool false)], args := [d] }
  | _ => none }
def FnFlatCallsWrongFalsely : Prop := fnFlatCallsRow.holds Try.pinned (OpenSpec.ofChange fnFlatCallsWrong)

/- THE SECOND FORM. 'bulk': how many values and letters a reading holds, each counted each time it is reached (what is shared counts as often as it is met; a slice's spare places count too). A statement '..UptoSaid' is the law's where the arguments, and the package variables that the reading takes, are together of bulk at most 1048576: NARROWER than '..Said'. Prove '..Said' where nothing that the law and all that it calls make is longer than what came in: it says more and counts as full. Else prove '..UptoSaid'. A law counts once. -/
mutual
def uptoBulk {H : Type} : DataW H → Nat
  | .lit (.string bytes) => bytes.length + 1
  | .lit _ => 1
  | .nil => 1
  | .ptr d => uptoBulk d + 1
  | .slice elems spare => uptoBulkAll elems + uptoBulkAll spare + 1
  | .agg parts => uptoBulkAll parts + 1
  | .iface _ d => uptoBulk d + 1
  | .map entries => uptoBulkEntries entries + 1
  | .held _ => 1
def uptoBulkAll {H : Type} : List (DataW H) → Nat
  | [] => 0
  | d :: r => uptoBulk d + uptoBulkAll r
def uptoBulkEntries {H : Type} : List (Lit × DataW H) → Nat
  | [] => 0
  | x :: r => uptoBulkEntry x + uptoBulkEntries r
def uptoBulkEntry {H : Type} : Lit × DataW H → Nat
  | (.string bytes, d) => bytes.length + uptoBulk d + 1
  | (_, d) => uptoBulk d + 1
 end
def uptoSmall : (H : Type) → List (DataW H) → Bool := fun _ ds => decide (uptoBulkAll ds ≤ 1048576)
def OpenSpec.upto (s : _root_.Go.ChangeSpec) : _root_.Go.OpenSpec := { _root_.Go.OpenSpec.ofChange s with cond := some uptoSmall }

/-- 'laws.FnExactStepsValid', WHERE WHAT IT READS IS OF BULK AT MOST 1048576: true; the input reads as it did. -/
def fnExactStepsValidUptoRow : OpenClaim := { program := "ytabaemnknjdjoaa", sum := "f4aae08e1f466c81d60d9c10c979ad7667848a830a2741bb7078e80e79903dc2", func := "loop.example/exopager/laws.FnExactStepsValid", spec := "fnExactStepsValid", unfollowed := true, recurses := true, apart := false, narrowed := true }
def FnExactStepsValidUptoSaid : Prop := fnExactStepsValidUptoRow.holds Try.pinned (OpenSpec.upto fnExactStepsValidSpec)

/-- 'laws.FnUnpack', WHERE WHAT IT READS IS OF BULK AT MOST 1048576: true; the input reads as it did. -/
def fnUnpackUptoRow : OpenClaim := { program := "ytabaemnknjdjoaa", sum := "f4aae08e1f466c81d60d9c10c979ad7667848a830a2741bb7078e80e79903dc2", func := "loop.example/exopager/laws.FnUnpack", spec := "fnUnpack", unfollowed := true, recurses := true, apart := false, narrowed := true }
def FnUnpackUptoSaid : Prop := fnUnpackUptoRow.holds Try.pinned (OpenSpec.upto fnUnpackSpec)

/-- 'laws.FnSteps', WHERE WHAT IT READS IS OF BULK AT MOST 1048576: true; the input reads as it did. -/
def fnStepsUptoRow : OpenClaim := { program := "ytabaemnknjdjoaa", sum := "f4aae08e1f466c81d60d9c10c979ad7667848a830a2741bb7078e80e79903dc2", func := "loop.example/exopager/laws.FnSteps", spec := "fnSteps", unfollowed := true, recurses := true, apart := false, narrowed := true }
def FnStepsUptoSaid : Prop := fnStepsUptoRow.holds Try.pinned (OpenSpec.upto fnStepsSpec)

/-- 'laws.FnExactFlatPlay', WHERE WHAT IT READS IS OF BULK AT MOST 1048576: true; the input reads as it did. -/
def fnExactFlatPlayUptoRow : OpenClaim := { program := "ytabaemnknjdjoaa", sum := "f4aae08e1f466c81d60d9c10c979ad7667848a830a2741bb7078e80e79903dc2", func := "loop.example/exopager/laws.FnExactFlatPlay", spec := "fnExactFlatPlay", unfollowed := true, recurses := true, apart := false, narrowed := true }
def FnExactFlatPlayUptoSaid : Prop := fnExactFlatPlayUptoRow.holds Try.pinned (OpenSpec.upto fnExactFlatPlaySpec)

/-- 'laws.FnFlat', WHERE WHAT IT READS IS OF BULK AT MOST 1048576: true; the input reads as it did. -/
def fnFlatUptoRow : OpenClaim := { program := "ytabaemnknjdjoaa", sum := "f4aae08e1f466c81d60d9c10c979ad7667848a830a2741bb7078e80e79903dc2", func := "loop.example/exopager/laws.FnFlat", spec := "fnFlat", unfollowed := true, recurses := true, apart := false, narrowed := true }
def FnFlatUptoSaid : Prop := fnFlatUptoRow.holds Try.pinned (OpenSpec.upto fnFlatSpec)

/-- 'laws.FnFlatCalls', WHERE WHAT IT READS IS OF BULK AT MOST 1048576: true; the input reads as it did. -/
def fnFlatCallsUptoRow : OpenClaim := { program := "ytabaemnknjdjoaa", sum := "f4aae08e1f466c81d60d9c10c979ad7667848a830a2741bb7078e80e79903dc2", func := "loop.example/exopager/laws.FnFlatCalls", spec := "fnFlatCalls", unfollowed := true, recurses := true, apart := false, narrowed := true }
def FnFlatCallsUptoSaid : Prop := fnFlatCallsUptoRow.holds Try.pinned (OpenSpec.upto fnFlatCallsSpec)

end Rows
end Go.Proofs.Ytabaemnknjdjoaa
