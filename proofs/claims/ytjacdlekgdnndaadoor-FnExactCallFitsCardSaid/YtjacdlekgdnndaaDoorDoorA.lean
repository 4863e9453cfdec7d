/-
  Walks for the door seats: calls as values, rights tested by the reference and by the program (strings.Trim by the shelf's contract).
-/
import Derived.Test.YtjacdlekgdnndaaDoorCore
import Derived.Test.YtjacdlekgdnndaaDoorShelf
import Derived.Test.YtjacdlekgdnndaaDoorRvI
set_option linter.unusedVariables false
namespace Go.Proofs.YtjacdlekgdnndaaDoor
open Go.RowKit Go.Shelf

def CallV.cells (c : CallV) : Array Value := #[.int .i64 c.k, .int .i64 c.e, .int .i64 c.a, .int .i64 c.b, .int .i64 c.c, .string c.nm]
def CallV.val (c : CallV) : Value := .agg c.cells

set_option maxHeartbeats 400000 in
theorem szCall_any (c : CallV) (l : Int) (w : World) :
    Calls Tryd.prog 4 #[c.val, .int .i64 l] w fun e w' => (∃ r : Int, e = .returned (.int .i64 r)) ∧ Below w.heap.size w w' := by
  obtain ⟨k, e, a, b, c, nm⟩ := c
  simp only [CallV.val, CallV.cells]
  go_enter Tryd.func4, Tryd.ntmps4
  go_wp2_with fail
  all_goals
    go_ret
    exact ⟨⟨_, rfl⟩, (Below.refl _ _).alloc (Nat.le_refl _) _⟩

set_option maxHeartbeats 400000 in
theorem toCall_lit (c : CallV) (w : World) :
    Calls Tryd.prog 6 #[c.val] w fun e w' => e = .returned c.val ∧ ((w.alloc (.cells c.cells 23)).alloc (.cells c.cells 26)).alloc (.cells c.cells 26) = w' := by
  obtain ⟨k, e, a, b, c, nm⟩ := c
  simp only [CallV.val, CallV.cells]
  go_enter Tryd.func6, Tryd.ntmps6
  go_wp2_with fail
  exact bodyPost_ret (v := .agg #[.int .i64 k, .int .i64 e, .int .i64 a, .int .i64 b, .int .i64 c, .string nm]) (by simp [results, Tryd.results6, go_sem]) rfl ⟨rfl, rfl⟩

end Go.Proofs.YtjacdlekgdnndaaDoor
