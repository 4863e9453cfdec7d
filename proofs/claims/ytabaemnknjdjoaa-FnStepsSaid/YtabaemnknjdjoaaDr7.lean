/-
  Walks: the drawers of steps.
-/
import Derived.Test.YtabaemnknjdjoaaDr6
set_option linter.unusedVariables false
namespace Go.Proofs.Ytabaemnknjdjoaa
open Go.RowKit

/-- A list of steps of the call's own is handed back. -/
def DrewSteps (w : World) (e : Ending) (w' : World) : Prop := ∃ v ss, e = .returned v ∧ OwnSteps w.heap.size w' v ss ∧ ss.length ≤ 82 ∧ Below w.heap.size w w'

set_option maxHeartbeats 1000000 in
theorem DrawStepsValid_any (v : Value) (bs : List Int) (w : World) (h : RdBytes w v bs) :
    Calls Try.prog 19 #[v] w (DrewSteps w) := by
  go_enter Try.func19, Try.ntmps19
  go_wp2_with fail
  refine (l6Open_any _ bs _ h).mono ?_; rintro e w1 ⟨R, rfl, hR, hb1⟩
  obtain ⟨g, rfl, hD⟩ := Dr.of hR hb1
  have hs := hb1.size
  go_wp2_with fail
  refine (l92Steps_any true hD (by decide)).mono ?_; rintro e w2 ⟨v2, rfl, ⟨ss, hown, hl⟩, hD2, _⟩
  go_wp2_with fail
  go_ret
  exact ⟨_, ss, rfl, own_loV hown hs, hl, hD2.2.1⟩

set_option maxHeartbeats 1000000 in
theorem DrawFlatPlay_any (v : Value) (bs : List Int) (w : World) (h : RdBytes w v bs) :
    Calls Try.prog 26 #[v] w (DrewSteps w) := by
  go_enter Try.func26, Try.ntmps26
  go_wp2_with fail
  refine (l6Open_any _ bs _ h).mono ?_; rintro e w1 ⟨R, rfl, hR, hb1⟩
  obtain ⟨g, rfl, hD⟩ := Dr.of hR hb1
  have hs := hb1.size
  go_wp2_with fail
  refine (hD.pick _ (by decide) (by decide)).mono ?_; rintro e w3 ⟨x, rfl, _, _, h3, g3⟩
  have hs3 := g3.size
  go_wp2_with fail
  refine (l92Steps_any _ h3 (by decide)).mono ?_; rintro e w2 ⟨v2, rfl, ⟨ss, hown, hl⟩, hD2, _⟩
  go_wp2_with fail
  go_ret
  exact ⟨_, ss, rfl, own_loV hown (by omega), hl, hD2.2.1⟩
end Go.Proofs.Ytabaemnknjdjoaa
