/-
  Walks: a text of a call drawn.
-/
import Derived.Test.YtgdehdfbdjgmdaaGreatDoorCText
import Derived.Test.YtgdehdfbdjgmdaaGreatDoorDrC
set_option linter.unusedVariables false
namespace Go.Proofs.YtgdehdfbdjgmdaaGreatDoor
open Go.RowKit

def drN (L : Nat → Bool) : Nat := (if L 5 = true then 1 else 0) + (if L 10 = true then 1 else 0)

end Go.Proofs.YtgdehdfbdjgmdaaGreatDoor
