/-
  The law laws.FnExactStepsValid returns true for every list of steps. No conditions.
-/
import Derived.Test.YtabaemnknjdjoaaStep5
namespace Go.Proofs.Ytabaemnknjdjoaa.fnExactStepsValid
open Go.RowKit
open Go.Proofs.Ytabaemnknjdjoaa

theorem RdSteps.below {w w' : World} {v : Value} {ss : List StepV} (h : RdSteps w v ss) (hb : Below w.heap.size w w') : RdSteps w' v ss := Rd.below h hb

set_option maxRecDepth 100000 in
set_option maxHeartbeats 2000000 in
theorem walkR (v : Value) (ss : List StepV) (w : World) (h : RdSteps w v ss) :
    Calls Try.prog 3 #[v] w fun e w' => e = .returned (.bool true) ∧ Below w.heap.size w w' := by
  go_enter Try.func3, Try.ntmps3
  go_wp2_with fail
  refine (szStepS_any v ss _ _ h (by decide) (by decide)).mono ?_; rintro e w1 ⟨⟨r, rfl, hr⟩, b1⟩
  by_cases h0 : r < 0
  · go_wp2_with fail
    go_ret
    exact ⟨rfl, b1⟩
  have hl := hr (by omega)
  clear hr
  go_wp2_with fail
  refine (toStepS_any v ss _ (Rd.below h b1) hl).mono ?_; rintro e w2 ⟨v2, rfl, o2, c2⟩
  have b2 := b1.trans (c2.mono b1.size)
  clear c2 b1
  go_wp2_with fail
  refine (StepsValid_spec v2 ss _ o2.rd).mono ?_; rintro e w3 ⟨rfl, c3⟩
  have b3 := b2.trans (c3.mono b2.size)
  clear c3 b2 o2
  go_wp2_with fail
  refine (toStepS_any v ss _ (Rd.below h b3) hl).mono ?_; rintro e w4 ⟨v4, rfl, o4, c4⟩
  have b4 := b3.trans (c4.mono b3.size)
  clear c4 b3
  go_wp2_with fail
  refine (StepsValid_impl v4 ss _ o4.rd).mono ?_; rintro e w5 ⟨rfl, c5⟩
  have b5 := b4.trans (c5.mono b4.size)
  have o5 : RdSteps w5 v4 ss := Rd.below o4.rd c5
  clear c5 b4 o4
  generalize stepsOk ss = q
  have hq : (q != q) = false := by simp
  go_wp2_with fail
  refine (toStepS_any v ss _ (Rd.below h b5) hl).mono ?_; rintro e w6 ⟨v6, rfl, o6, c6⟩
  have b6 := b5.trans (c6.mono b5.size)
  have o5b : RdSteps w6 v4 ss := Rd.below o5 c6
  clear c6 b5 o5
  go_wp2_with fail
  refine (eqStepS_same v4 v6 ss _ o5b o6.rd).mono ?_; rintro e w7 ⟨rfl, c7⟩
  have b7 := b6.trans (c7.mono b6.size)
  clear c7 b6 o5b o6
  go_wp2_with fail
  go_ret
  exact ⟨rfl, b7⟩
end Go.Proofs.Ytabaemnknjdjoaa.fnExactStepsValid
