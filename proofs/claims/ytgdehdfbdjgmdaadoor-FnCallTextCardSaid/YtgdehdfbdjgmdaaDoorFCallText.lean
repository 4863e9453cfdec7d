/-
  The law laws.FnCallText returns true for every drawn call. Conditions: some variables of the library lie as laid.
-/
import Derived.Test.YtgdehdfbdjgmdaaDoorCallEq
import Derived.Test.YtgdehdfbdjgmdaaDoorParsI
import Derived.Test.YtgdehdfbdjgmdaaDoorTNone
set_option linter.unusedVariables false
namespace Go.Proofs.YtgdehdfbdjgmdaaDoor
open Go.RowKit

set_option maxRecDepth 100000 in
set_option maxHeartbeats 4000000 in
theorem fnCallText.walkR (v : Value) (bs : List Int) (w : World) (h : RdBytes w v bs) (ht : PTabs w) :
    Calls Tryd.prog 6 #[v] w fun e w' => e = .returned (.bool true) ∧ Below w.heap.size w w' := by
  obtain ⟨a, c, hv, hc, hcm, _⟩ := h.open
  subst hv
  unfold maxLen at hcm
  have Ht := Lib.hid ht; clear ht
  by_cases hl : 1048576 < bs.length
  · have t0 : (1048576 : Int) < bs.length := by omega
    go_enter Tryd.func6, Tryd.ntmps6
    go_wp2_with fail
    go_ret
    exact ⟨rfl, Below.refl _ _⟩
  have t0 : ¬ (1048576 : Int) < bs.length := by omega
  go_enter Tryd.func6, Tryd.ntmps6
  go_wp2_with fail
  refine (DrawCallText_any _ bs _ h).mono ?_; rintro e' w1 ⟨⟨x, rfl, hx⟩, b1⟩
  have hs : x.nm.size ≤ maxLen := Nat.le_trans hx (by decide)
  have F := Lib.hid (fun w => CallFits_impl x w hs)
  have S := Lib.hid (fun w => CallText_spec x w hs)
  have I := Lib.hid (fun w h => CallText_impl x w hs h)
  have Tn := Lib.hid (text_none x)
  have B1 := Lib.hid (b1.trans ((below1 w1 (.cells x.cells 26)).mono b1.size))
  have N1 := Lib.hid (heap_alloc_new w1 (.cells x.cells 26))
  clear b1
  cases hf : fitsC x
  · rw [hf] at F Tn
    clear hf
    obtain ⟨k, e, a, b, c, nm⟩ := x
    simp only [CallV.val, CallV.cells] at S I F B1 N1 ⊢
    generalize textB ⟨k, e, a, b, c, nm⟩ = q at S I Tn
    have hq0 : q.toList.isEmpty = true := by rw [Tn.out]; rfl
    go_wp2_with fail
    refine (I.out _ (Ht.out.below B1.out).1).mono ?_; rintro e' w2 ⟨rfl, b2⟩
    have N2 := Lib.hid ((b2.block _ (by simp)).trans N1.out)
    have B2 := Lib.hid (B1.out.trans (b2.mono B1.out.size))
    obtain ⟨d0, d1, d2, d3, d4, d5⟩ := call_cells (x := ⟨k, e, a, b, c, nm⟩) N2.out
    clear b2
    go_wp2_with fail
    refine (S.out _).mono ?_; rintro e' w3 ⟨rfl, b3⟩
    have B3 := Lib.hid (B2.out.trans (b3.mono B2.out.size))
    clear d0 d1 d2 d3 d4 d5 b3
    have hq := sameSelf q
    go_wp2_with fail
    go_ret
    exact ⟨rfl, B3.out⟩
  · have ht : textB x = callB x := by simp [textB, hf]
    have P := Lib.hid (show Parsed (callB x) x true from .inl ⟨rfl, hf, rfl⟩)
    have hz := callB_size hf
    rw [hf] at F Tn
    rw [ht] at S I Tn
    clear hf ht
    obtain ⟨k, e, a, b, c, nm⟩ := x
    simp only [CallV.val, CallV.cells] at S I F B1 N1 ⊢
    generalize callB ⟨k, e, a, b, c, nm⟩ = q at S I Tn P hz
    have hq0 : q.toList.isEmpty = false := by rw [Tn.out]; rfl
    have C := Lib.hid (fun w h => CallParse_impl q w (by omega) h)
    go_wp2_with fail
    refine (I.out _ (Ht.out.below B1.out).1).mono ?_; rintro e' w2 ⟨rfl, b2⟩
    have N2 := Lib.hid ((b2.block _ (by simp)).trans N1.out)
    have B2 := Lib.hid (B1.out.trans (b2.mono B1.out.size))
    obtain ⟨d0, d1, d2, d3, d4, d5⟩ := call_cells (x := ⟨k, e, a, b, c, nm⟩) N2.out
    clear b2
    go_wp2_with fail
    refine (S.out _).mono ?_; rintro e' w3 ⟨rfl, b3⟩
    have B3 := Lib.hid (B2.out.trans (b3.mono B2.out.size))
    have N3 := Lib.hid (blk_under N2.out b3)
    clear d0 d1 d2 d3 d4 d5 b3
    have hq := sameSelf q
    go_wp2_with fail
    refine (C.out _ (Ht.out.below B3.out)).mono ?_; rintro e' w4 ⟨⟨y, ok, rfl, hp⟩, b4⟩
    obtain ⟨rfl, rfl⟩ := hp.uniq P.out
    have B4 := Lib.hid (B3.out.trans (b4.mono B3.out.size))
    have N4 := blk_under N3.out b4
    have hlt := blk_lt N4
    have hne : w1.heap.size ≠ w4.heap.size := by omega
    have N5 := blk_under N4 (below1 w4 (.cells (CallV.mk k e a b c nm).cells 26))
    have B5 := Lib.hid (B4.out.trans ((below1 w4 (.cells (CallV.mk k e a b c nm).cells 26)).mono B4.out.size))
    obtain ⟨d0, d1, d2, d3, d4, d5⟩ := call_cells (x := ⟨k, e, a, b, c, nm⟩) N5
    simp only [CallV.cells, CallV.val] at d0 d1 d2 d3 d4 d5 B5 ⊢
    have E := fun w => eqlCall_same k e a b c nm w
    have G := fun op x y xs ys w => guardCall op x y xs ys w
    clear N4 N5 b4 hp P
    go_wp2_with fail
    refine (F.out _).mono ?_; rintro e' w6 ⟨rfl, b6⟩
    go_wp2_with fail
    go_ret
    exact ⟨rfl, B5.out.trans (b6.mono B5.out.size)⟩
end Go.Proofs.YtgdehdfbdjgmdaaDoor
