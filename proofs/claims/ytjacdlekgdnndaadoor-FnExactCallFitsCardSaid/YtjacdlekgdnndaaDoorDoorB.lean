/-
  Walks: does a call have a text (door seats).
-/
import Derived.Test.YtjacdlekgdnndaaDoorDoorA
import Derived.Test.YtjacdlekgdnndaaDoorGen
set_option linter.unusedVariables false
namespace Go.Proofs.YtjacdlekgdnndaaDoor
open Go.RowKit

def fitsC (x : CallV) : Bool := inB x.k 1 11 && inB x.e 0 2 && inB x.a 0 9999 && inB x.b 0 9999 && inB x.c 0 9999 && rightOk x.nm

set_option maxHeartbeats 400000 in
theorem isWord_any (n : Int) (w : World) :
    Calls Tryd.prog 12 #[.int .i64 n] w fun e w' => e = .returned (.bool (inB n 0 9999)) ∧ w = w' := by
  go_enter Tryd.func12, Tryd.ntmps12
  go_wp2_with (go_at_call 10; refine (within_any _ _ _ _).mono ?_; rintro e w' ⟨rfl, rfl⟩)
  go_ret
  exact ⟨rfl, rfl⟩

set_option maxRecDepth 100000 in
set_option maxHeartbeats 2000000 in
theorem CallFits_spec (x : CallV) (w : World) (hs : x.nm.size ≤ maxLen) :
    Calls Tryd.prog 5 #[x.val] w fun e w' => e = .returned (.bool (fitsC x)) ∧ Below w.heap.size w w' := by
  obtain ⟨k, e, a, b, c, nm⟩ := x
  simp only [CallV.val, CallV.cells, fitsC]
  have B1 := Lib.hid (below1 w (.cells #[.int .i64 k, .int .i64 e, .int .i64 a, .int .i64 b, .int .i64 c, .string nm] 26))
  have H1 := Lib.hid (fun w => l6In_any k 1 11 w)
  have H2 := Lib.hid (fun w => l6In_any e 0 2 w)
  have H3 := Lib.hid (fun w => l6In_any a 0 9999 w)
  have H4 := Lib.hid (fun w => l6In_any b 0 9999 w)
  have H5 := Lib.hid (fun w => l6In_any c 0 9999 w)
  have H6 := Lib.hid (fun w => RightValid_spec nm w hs)
  generalize inB k 1 11 = q1 at H1 ⊢
  generalize inB e 0 2 = q2 at H2 ⊢
  generalize inB a 0 9999 = q3 at H3 ⊢
  generalize inB b 0 9999 = q4 at H4 ⊢
  generalize inB c 0 9999 = q5 at H5 ⊢
  generalize rightOk nm = q6 at H6 ⊢
  cases q1
  · go_enter Tryd.func5, Tryd.ntmps5
    go_wp2_with fail
    refine (H1.out _).mono ?_; rintro e' w' ⟨rfl, rfl⟩
    go_wp2_with fail
    go_ret
    exact ⟨rfl, B1.out⟩
  cases q2
  · go_enter Tryd.func5, Tryd.ntmps5
    go_wp2_with fail
    refine (H1.out _).mono ?_; rintro e' w' ⟨rfl, rfl⟩
    go_wp2_with fail
    refine (H2.out _).mono ?_; rintro e' w' ⟨rfl, rfl⟩
    go_wp2_with fail
    go_ret
    exact ⟨rfl, B1.out⟩
  cases q3
  · go_enter Tryd.func5, Tryd.ntmps5
    go_wp2_with fail
    refine (H1.out _).mono ?_; rintro e' w' ⟨rfl, rfl⟩
    go_wp2_with fail
    refine (H2.out _).mono ?_; rintro e' w' ⟨rfl, rfl⟩
    go_wp2_with fail
    refine (H3.out _).mono ?_; rintro e' w' ⟨rfl, rfl⟩
    go_wp2_with fail
    go_ret
    exact ⟨rfl, B1.out⟩
  cases q4
  · go_enter Tryd.func5, Tryd.ntmps5
    go_wp2_with fail
    refine (H1.out _).mono ?_; rintro e' w' ⟨rfl, rfl⟩
    go_wp2_with fail
    refine (H2.out _).mono ?_; rintro e' w' ⟨rfl, rfl⟩
    go_wp2_with fail
    refine (H3.out _).mono ?_; rintro e' w' ⟨rfl, rfl⟩
    go_wp2_with fail
    refine (H4.out _).mono ?_; rintro e' w' ⟨rfl, rfl⟩
    go_wp2_with fail
    go_ret
    exact ⟨rfl, B1.out⟩
  cases q5
  · go_enter Tryd.func5, Tryd.ntmps5
    go_wp2_with fail
    refine (H1.out _).mono ?_; rintro e' w' ⟨rfl, rfl⟩
    go_wp2_with fail
    refine (H2.out _).mono ?_; rintro e' w' ⟨rfl, rfl⟩
    go_wp2_with fail
    refine (H3.out _).mono ?_; rintro e' w' ⟨rfl, rfl⟩
    go_wp2_with fail
    refine (H4.out _).mono ?_; rintro e' w' ⟨rfl, rfl⟩
    go_wp2_with fail
    refine (H5.out _).mono ?_; rintro e' w' ⟨rfl, rfl⟩
    go_wp2_with fail
    go_ret
    exact ⟨rfl, B1.out⟩
  cases q6
  all_goals
    go_enter Tryd.func5, Tryd.ntmps5
    go_wp2_with fail
    refine (H1.out _).mono ?_; rintro e' w' ⟨rfl, rfl⟩
    go_wp2_with fail
    refine (H2.out _).mono ?_; rintro e' w' ⟨rfl, rfl⟩
    go_wp2_with fail
    refine (H3.out _).mono ?_; rintro e' w' ⟨rfl, rfl⟩
    go_wp2_with fail
    refine (H4.out _).mono ?_; rintro e' w' ⟨rfl, rfl⟩
    go_wp2_with fail
    refine (H5.out _).mono ?_; rintro e' w' ⟨rfl, rfl⟩
    go_wp2_with fail
    refine (H6.out _).mono ?_; rintro e' w' ⟨rfl, rfl⟩
    go_wp2_with fail
    go_ret
    exact ⟨rfl, B1.out⟩

set_option maxRecDepth 100000 in
set_option maxHeartbeats 2000000 in
theorem CallFits_impl (x : CallV) (w : World) (hs : x.nm.size ≤ maxLen) :
    Calls Tryd.prog 7 #[x.val] w fun e w' => e = .returned (.bool (fitsC x)) ∧ Below w.heap.size w w' := by
  obtain ⟨k, e, a, b, c, nm⟩ := x
  simp only [CallV.val, CallV.cells, fitsC]
  have B1 := Lib.hid (below1 w (.cells #[.int .i64 k, .int .i64 e, .int .i64 a, .int .i64 b, .int .i64 c, .string nm] 26))
  have H1 := Lib.hid (fun w => within_any k 1 11 w)
  have H2 := Lib.hid (fun w => isEnv_any e w)
  have H3 := Lib.hid (fun w => isWord_any a w)
  have H4 := Lib.hid (fun w => isWord_any b w)
  have H5 := Lib.hid (fun w => isWord_any c w)
  have H6 := Lib.hid (fun w => RightValid_impl nm w hs)
  generalize inB k 1 11 = q1 at H1 ⊢
  generalize inB e 0 2 = q2 at H2 ⊢
  generalize inB a 0 9999 = q3 at H3 ⊢
  generalize inB b 0 9999 = q4 at H4 ⊢
  generalize inB c 0 9999 = q5 at H5 ⊢
  generalize rightOk nm = q6 at H6 ⊢
  cases q1
  · go_enter Tryd.func7, Tryd.ntmps7
    go_wp2_with fail
    refine (H1.out _).mono ?_; rintro e' w' ⟨rfl, rfl⟩
    go_wp2_with fail
    go_ret
    exact ⟨rfl, B1.out⟩
  cases q2
  · go_enter Tryd.func7, Tryd.ntmps7
    go_wp2_with fail
    refine (H1.out _).mono ?_; rintro e' w' ⟨rfl, rfl⟩
    go_wp2_with fail
    refine (H2.out _).mono ?_; rintro e' w' ⟨rfl, rfl⟩
    go_wp2_with fail
    go_ret
    exact ⟨rfl, B1.out⟩
  cases q3
  · go_enter Tryd.func7, Tryd.ntmps7
    go_wp2_with fail
    refine (H1.out _).mono ?_; rintro e' w' ⟨rfl, rfl⟩
    go_wp2_with fail
    refine (H2.out _).mono ?_; rintro e' w' ⟨rfl, rfl⟩
    go_wp2_with fail
    refine (H3.out _).mono ?_; rintro e' w' ⟨rfl, rfl⟩
    go_wp2_with fail
    go_ret
    exact ⟨rfl, B1.out⟩
  cases q4
  · go_enter Tryd.func7, Tryd.ntmps7
    go_wp2_with fail
    refine (H1.out _).mono ?_; rintro e' w' ⟨rfl, rfl⟩
    go_wp2_with fail
    refine (H2.out _).mono ?_; rintro e' w' ⟨rfl, rfl⟩
    go_wp2_with fail
    refine (H3.out _).mono ?_; rintro e' w' ⟨rfl, rfl⟩
    go_wp2_with fail
    refine (H4.out _).mono ?_; rintro e' w' ⟨rfl, rfl⟩
    go_wp2_with fail
    go_ret
    exact ⟨rfl, B1.out⟩
  cases q5
  · go_enter Tryd.func7, Tryd.ntmps7
    go_wp2_with fail
    refine (H1.out _).mono ?_; rintro e' w' ⟨rfl, rfl⟩
    go_wp2_with fail
    refine (H2.out _).mono ?_; rintro e' w' ⟨rfl, rfl⟩
    go_wp2_with fail
    refine (H3.out _).mono ?_; rintro e' w' ⟨rfl, rfl⟩
    go_wp2_with fail
    refine (H4.out _).mono ?_; rintro e' w' ⟨rfl, rfl⟩
    go_wp2_with fail
    refine (H5.out _).mono ?_; rintro e' w' ⟨rfl, rfl⟩
    go_wp2_with fail
    go_ret
    exact ⟨rfl, B1.out⟩
  cases q6
  all_goals
    go_enter Tryd.func7, Tryd.ntmps7
    go_wp2_with fail
    refine (H1.out _).mono ?_; rintro e' w' ⟨rfl, rfl⟩
    go_wp2_with fail
    refine (H2.out _).mono ?_; rintro e' w' ⟨rfl, rfl⟩
    go_wp2_with fail
    refine (H3.out _).mono ?_; rintro e' w' ⟨rfl, rfl⟩
    go_wp2_with fail
    refine (H4.out _).mono ?_; rintro e' w' ⟨rfl, rfl⟩
    go_wp2_with fail
    refine (H5.out _).mono ?_; rintro e' w' ⟨rfl, rfl⟩
    go_wp2_with fail
    refine (H6.out _).mono ?_; rintro e' w' ⟨rfl, b6⟩
    go_wp2_with fail
    go_ret
    exact ⟨rfl, B1.out.trans (b6.mono (by simp))⟩
end Go.Proofs.YtjacdlekgdnndaaDoor
