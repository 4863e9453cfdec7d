/-
  The law laws.FnExactCallParse returns true for every text. Conditions: some variables of the library lie as laid.
-/
import Derived.Test.YtgdehdfbdjgmdaaDoorCallS
import Derived.Test.YtgdehdfbdjgmdaaDoorParsI
set_option linter.unusedVariables false
namespace Go.Proofs.YtgdehdfbdjgmdaaDoor.fnExactCallParse
open Go.RowKit
open Go.Proofs.YtgdehdfbdjgmdaaDoor

set_option maxHeartbeats 2000000 in
theorem walkR (s : ByteArray) (w : World) (_ : s.size ≤ maxLen) (ht : PTabs w) :
    Calls Tryd.prog 7 #[.string s] w fun e w' => e = .returned (.bool true) ∧ Below w.heap.size w w' := by
  have Ht := Lib.hid ht; clear ht
  by_cases hl : 1048576 < s.size
  · have t0 : (1048576 : Int) < s.size := by omega
    go_enter Tryd.func7, Tryd.ntmps7
    go_wp2_with fail
    go_ret
    exact ⟨rfl, Below.refl _ _⟩
  have t0 : ¬ (1048576 : Int) < s.size := by omega
  have hs : s.size ≤ 1048577 := by omega
  go_enter Tryd.func7, Tryd.ntmps7
  go_wp2_with fail
  refine (CallParse_spec s _ hs).mono ?_; rintro e w1 ⟨⟨x, ok, rfl, hp⟩, b1⟩
  have Hp := Lib.hid hp
  have B1 := Lib.hid b1
  have hN := Lib.hid (heap_alloc_new w1 (.cells x.cells 26))
  have hB := Lib.hid (b1.trans ((below1 w1 (.cells x.cells 26)).mono b1.size))
  have I := Lib.hid (fun w h => CallParse_impl s w hs h)
  have E := Lib.hid (eqCall_same x)
  clear hp b1
  obtain ⟨k, e, a, b, c, nm⟩ := x
  simp only [CallV.val, CallV.cells] at hN hB E ⊢
  go_wp2_with fail
  refine (I.out _ (Ht.out.below hB.out)).mono ?_; rintro e' w2 ⟨⟨y, ok', rfl, hp'⟩, b2⟩
  obtain ⟨rfl, rfl⟩ := Hp.out.uniq hp'
  have HN2 := (b2.block w1.heap.size (by simp)).trans hN.out
  have HB2 := Lib.hid (hB.out.trans (b2.mono hB.out.size))
  have hne := blk_lt HN2
  have hne' : w1.heap.size ≠ w2.heap.size := by omega
  obtain ⟨d0, d1, d2, d3, d4, d5⟩ := call_cells (x := ⟨k, e, a, b, c, nm⟩) (blk_under HN2 (below1 w2 (.cells (CallV.mk k e a b c nm).cells 26)))
  simp only [CallV.cells] at d0 d1 d2 d3 d4 d5
  have HN2 := Lib.hid HN2
  have hN3 := Lib.hid (heap_alloc_new w2 (.cells (CallV.mk k e a b c nm).cells 26))
  have hB3 := Lib.hid (HB2.out.trans ((below1 w2 (.cells (CallV.mk k e a b c nm).cells 26)).mono HB2.out.size))
  simp only [CallV.val, CallV.cells] at hN3 hB3 ⊢
  clear b2 hp' Hp
  go_wp2_with fail
  refine (E.out _).mono ?_; rintro e' w3 ⟨rfl, hw3⟩
  have B4 := Lib.hid (hB3.out.trans ((hw3 ▸ below2 _ _ _ : Below _ _ w3).mono hB3.out.size))
  clear hw3 d0 d1 d2 d3 d4 d5
  have hq : (ok != ok) = false := by simp
  go_wp2_with fail
  go_ret
  exact ⟨rfl, B4.out⟩
end Go.Proofs.YtgdehdfbdjgmdaaDoor.fnExactCallParse
