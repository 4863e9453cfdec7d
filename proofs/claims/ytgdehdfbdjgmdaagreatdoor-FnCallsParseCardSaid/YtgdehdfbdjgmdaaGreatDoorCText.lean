/-
  Walks: the text of a call, by the reference.
-/
import Derived.Test.YtgdehdfbdjgmdaaGreatDoorCTextA
import Derived.Lib.QuietBelow
set_option linter.unusedVariables false
namespace Go.Proofs.YtgdehdfbdjgmdaaGreatDoor
open Go.RowKit Go.Shelf

set_option maxRecDepth 1000000 in
set_option maxHeartbeats 4000000 in
theorem CallText_spec (x : CallV) (w : World) (hs : x.nm.size ≤ maxLen) :
    Calls Tryz.prog 23 #[x.val] w fun e w' => e = .returned (.string (textB x)) ∧ Below w.heap.size w w' := by
  have F := Lib.hid (fun w => CallFits_spec x w hs)
  cases hf : fitsC x
  · have T := Lib.hid (show textB x = ⟨#[]⟩ by simp [textB, hf])
    rw [hf] at F
    clear hf
    obtain ⟨k, e, a, b, c, nm⟩ := x
    simp only [CallV.val, CallV.cells] at F ⊢
    have B1 := Lib.hid (below1 w (.cells #[.int .i64 k, .int .i64 e, .int .i64 a, .int .i64 b, .int .i64 c, .string nm] 30))
    go_enter Tryz.func23, Tryz.ntmps23
    go_wp2_with fail
    refine (F.out _).mono ?_; rintro e' w1 ⟨rfl, b1⟩
    go_wp2_with fail
    go_ret
    exact ⟨by rw [T.out]; rfl, B1.out.trans (b1.mono (by simp))⟩
  · obtain ⟨k, e, a, b, c, hx, hk1, hk2, he, ha, hb, hc, hn, _⟩ := fits_ranges hf
    have T := Lib.hid (show textB x = callB x by simp [textB, hf])
    rw [hf] at F
    clear hf
    obtain ⟨k', e', a', b', c', nm⟩ := x
    simp only [CallV.mk.injEq, and_true] at hx
    obtain ⟨rfl, rfl, rfl, rfl, rfl⟩ := hx
    simp only [CallV.val, CallV.cells] at F ⊢
    have P := Lib.hid (call_put k e a b c nm)
    have s1 := kindB_size hk2
    have s0 : nm.size ≤ 4 := hn
    have s2 := decB_size4 (show e ≤ 9999 by omega)
    have s3 := decB_size4 ha
    have s4 := decB_size4 hb
    have s5 := decB_size4 hc
    have hB := below1 w (.cells #[.int .i64 k, .int .i64 e, .int .i64 a, .int .i64 b, .int .i64 c, .string nm] 30)
    have hN := heap_alloc_new w (.cells #[.int .i64 k, .int .i64 e, .int .i64 a, .int .i64 b, .int .i64 c, .string nm] 30)
    go_enter Tryz.func23, Tryz.ntmps23
    have HB := Lib.hid hB; clear hB
    have HN := Lib.hid hN; clear hN
    go_wp2_with fail
    refine (F.out _).mono ?_; rintro e' w1 ⟨rfl, b1⟩
    have B1 := Lib.hid (HB.out.trans (b1.mono (by simp)))
    have N0 := (b1.block w.heap.size (by simp)).trans HN.out
    have N1 := Lib.hid N0
    clear N0
    clear b1
    go_wp2_with fail
    have N2 := N1.out
    clear N1
    have k0 := cell_regrown (cell_of_row w1 _ 0 _ _ _ N2)
    have k1 := cell_regrown (cell_of_row w1 _ 1 _ _ _ N2)
    have k2 := cell_regrown (cell_of_row w1 _ 2 _ _ _ N2)
    have k3 := cell_regrown (cell_of_row w1 _ 3 _ _ _ N2)
    have k4 := cell_regrown (cell_of_row w1 _ 4 _ _ _ N2)
    have k5 := cell_regrown (cell_of_row w1 _ 5 _ _ _ N2)
    clear N2
    have cW := Regrown.of (w1 := w1) (fun w => l43Word_any k w ⟨hk1, hk2⟩)
    have CD := Lib.hid (fun n (h : n ≤ 9999) => Regrown.of (w1 := w1) (fun w => l6Dec_any n w (by omega)))
    clear HB HN F
    have n2 : ¬ 9223372036854775807 < (kindB k).size + 1 := by omega
    have n3 : ¬ 9223372036854775807 < (kindB k).size + 1 + (decB e).size := by omega
    have n4 : ¬ 9223372036854775807 < (kindB k).size + 1 + (decB e).size + 1 := by omega
    have n5 : ¬ 9223372036854775807 < (kindB k).size + 1 + (decB e).size + 1 + (decB a).size := by omega
    have n6 : ¬ 9223372036854775807 < (kindB k).size + 1 + (decB e).size + 1 + (decB a).size + 1 := by omega
    have n7 : ¬ 9223372036854775807 < (kindB k).size + 1 + (decB e).size + 1 + (decB a).size + 1 + (decB b).size := by omega
    have n8 : ¬ 9223372036854775807 < (kindB k).size + 1 + (decB e).size + 1 + (decB a).size + 1 + (decB b).size + 1 := by omega
    have n9 : ¬ 9223372036854775807 < (kindB k).size + 1 + (decB e).size + 1 + (decB a).size + 1 + (decB b).size + 1 + (decB c).size := by omega
    have n10 : ¬ 9223372036854775807 < (kindB k).size + 1 + (decB e).size + 1 + (decB a).size + 1 + (decB b).size + 1 + (decB c).size + 2 := by omega
    have n11 : ¬ 9223372036854775807 < (kindB k).size + 1 + (decB e).size + 1 + (decB a).size + 1 + (decB b).size + 1 + (decB c).size + 2 + nm.size := by omega
    refine wp_region_quiet_below Tryz.mixed (by kernel_rfl) ?_
    repeat (quiet_step (first | exact cW _ _ | exact CD.out _ (by omega) _ _))
    refine wpQuiet_nil ?_
    intro _ hw'
    obtain ⟨⟨dq, osq⟩, hw''⟩ := hw'
    subst hw''
    go_wp2_with fail
    go_ret
    exact ⟨by rw [T.out, ← P.out]; rfl, B1.out.trans ((below_regrown w1 dq osq).mono B1.out.size)⟩
end Go.Proofs.YtgdehdfbdjgmdaaGreatDoor
