/-
  The laws laws.FnCallParse and laws.FnCallParseBad return true for every drawn text. Conditions: some variables of the library lie as laid.
-/
import Derived.Test.YtgdehdfbdjgmdaaDoorCallEq
import Derived.Test.YtgdehdfbdjgmdaaDoorParsI
import Derived.Test.YtgdehdfbdjgmdaaDoorDrP
set_option linter.unusedVariables false
namespace Go.Proofs.YtgdehdfbdjgmdaaDoor
open Go.RowKit

theorem six_words {y : CallV} (h : fitsC y = true) : (callB y).data.toList.count 32 = 5 := by
  have h1 := congrArg List.length (cut_callB h)
  rw [callWsB_len] at h1
  unfold cutB at h1
  rw [List.length_map, cutL_len] at h1
  omega
theorem bad_right {x : CallV} (hx : fitsC x = true) : ∀ y : CallV, fitsC y = true → callB y ≠ callB x ++ ⟨#[32]⟩ := by
  intro y hy e
  have h1 := six_words hy
  rw [e, ByteArray.data_append, Array.toList_append, List.count_append, six_words hx] at h1
  simp at h1
theorem bad_left {x : CallV} (hx : fitsC x = true) : ∀ y : CallV, fitsC y = true → callB y ≠ ⟨#[32]⟩ ++ callB x := by
  intro y hy e
  have h1 := six_words hy
  rw [e, ByteArray.data_append, Array.toList_append, List.count_append, six_words hx] at h1
  simp at h1

set_option maxRecDepth 100000 in
set_option maxHeartbeats 4000000 in
theorem fnCallParse.walkR (v : Value) (bs : List Int) (w : World) (h : RdBytes w v bs) (ht : PTabs w) :
    Calls Tryd.prog 9 #[v] w fun e w' => e = .returned (.bool true) ∧ Below w.heap.size w w' := by
  obtain ⟨a, c, hv, hc, hcm, _⟩ := h.open
  subst hv
  unfold maxLen at hcm
  have Ht := Lib.hid ht; clear ht
  by_cases hl : 1048576 < bs.length
  · have t0 : (1048576 : Int) < bs.length := by omega
    go_enter Tryd.func9, Tryd.ntmps9
    go_wp2_with fail
    go_ret
    exact ⟨rfl, Below.refl _ _⟩
  have t0 : ¬ (1048576 : Int) < bs.length := by omega
  go_enter Tryd.func9, Tryd.ntmps9
  go_wp2_with fail
  refine (DrawCallParse_any _ bs _ h).mono ?_; rintro e w1 ⟨⟨s, rfl, hs⟩, b1⟩
  have hs' : s.size ≤ 1048577 := by omega
  have B1 := Lib.hid b1
  clear b1
  go_wp2_with fail
  refine (CallParse_impl s _ hs' (Ht.out.below B1.out)).mono ?_; rintro e w2 ⟨⟨x, ok, rfl, hp⟩, b2⟩
  have B2 := Lib.hid (B1.out.trans (b2.mono B1.out.size))
  have Hp := Lib.hid hp
  have N3 := Lib.hid (heap_alloc_new w2 (.cells x.cells 26))
  have B3 := Lib.hid (B2.out.trans ((below1 w2 (.cells x.cells 26)).mono B2.out.size))
  clear b2 hp
  obtain ⟨k, e, a, b, c, nm⟩ := x
  simp only [CallV.val, CallV.cells] at N3 B3 ⊢
  go_wp2_with fail
  refine (CallParse_spec s _ hs').mono ?_; rintro e' w4 ⟨⟨y, ok', rfl, hp'⟩, b4⟩
  obtain ⟨rfl, rfl⟩ := Hp.out.uniq hp'
  have N4 := (b4.block w2.heap.size (by simp)).trans N3.out
  have B4 := Lib.hid (B3.out.trans (b4.mono B3.out.size))
  have hlt := blk_lt N4
  have hne : w2.heap.size ≠ w4.heap.size := by omega
  have N5 := blk_under N4 (below1 w4 (.cells (CallV.mk k e a b c nm).cells 26))
  have B5 := Lib.hid (B4.out.trans ((below1 w4 (.cells (CallV.mk k e a b c nm).cells 26)).mono B4.out.size))
  obtain ⟨d0, d1, d2, d3, d4, d5⟩ := call_cells (x := ⟨k, e, a, b, c, nm⟩) N5
  simp only [CallV.cells, CallV.val] at d0 d1 d2 d3 d4 d5 B5 ⊢
  have E := fun w => eqlCall_same k e a b c nm w
  have E' := fun w => neqCall_same k e a b c nm w
  have G := fun op x y xs ys w => guardCall op x y xs ys w
  clear N4 N5 b4 hp'
  rcases Hp.out with ⟨rfl, hf, ht⟩ | ⟨rfl, _, _⟩
  · have Htx := Lib.hid (show textB ⟨k, e, a, b, c, nm⟩ = s by simp [textB, hf, ht])
    have hz : nm.size ≤ maxLen := by
      obtain ⟨_, _, _, _, _, _, _, _, _, _, _, _, h7, _⟩ := fits_ranges hf
      exact Nat.le_trans h7 (by decide)
    have T := Lib.hid (fun w h => CallText_impl ⟨k, e, a, b, c, nm⟩ w hz h)
    rw [Htx.out] at T
    simp only [CallV.val, CallV.cells] at T
    have hq := sameSelf s
    clear hf ht
    go_wp2_with fail
    refine (T.out _ (Ht.out.below B5.out).1).mono ?_; rintro e' w6 ⟨rfl, b6⟩
    go_wp2_with fail
    go_ret
    exact ⟨rfl, B5.out.trans (b6.mono B5.out.size)⟩
  · go_wp2_with fail
    go_ret
    exact ⟨rfl, B5.out⟩

set_option maxRecDepth 100000 in
set_option maxHeartbeats 4000000 in
theorem fnCallParseBad.walkR (v : Value) (bs : List Int) (w : World) (h : RdBytes w v bs) (ht : PTabs w) :
    Calls Tryd.prog 8 #[v] w fun e w' => e = .returned (.bool true) ∧ Below w.heap.size w w' := by
  obtain ⟨a, c, hv, hc, hcm, _⟩ := h.open
  subst hv
  unfold maxLen at hcm
  have Ht := Lib.hid ht; clear ht
  by_cases hl : 1048576 < bs.length
  · have t0 : (1048576 : Int) < bs.length := by omega
    go_enter Tryd.func8, Tryd.ntmps8
    go_wp2_with fail
    go_ret
    exact ⟨rfl, Below.refl _ _⟩
  have t0 : ¬ (1048576 : Int) < bs.length := by omega
  go_enter Tryd.func8, Tryd.ntmps8
  go_wp2_with fail
  refine (DrawCallParse_any _ bs _ h).mono ?_; rintro e w1 ⟨⟨s, rfl, hs⟩, b1⟩
  have hs' : s.size ≤ 1048577 := by omega
  have B1 := Lib.hid b1
  clear b1
  go_wp2_with fail
  refine (CallParse_impl s _ hs' (Ht.out.below B1.out)).mono ?_; rintro e w2 ⟨⟨x, ok, rfl, hp⟩, b2⟩
  have B2 := Lib.hid (B1.out.trans (b2.mono B1.out.size))
  have Hp := Lib.hid hp
  have N3 := Lib.hid (heap_alloc_new w2 (.cells x.cells 26))
  have B3 := Lib.hid (B2.out.trans ((below1 w2 (.cells x.cells 26)).mono B2.out.size))
  clear b2 hp
  obtain ⟨k, e, a, b, c, nm⟩ := x
  simp only [CallV.val, CallV.cells] at N3 B3 ⊢
  go_wp2_with fail
  refine (CallParse_spec s _ hs').mono ?_; rintro e' w4 ⟨⟨y, ok', rfl, hp'⟩, b4⟩
  obtain ⟨rfl, rfl⟩ := Hp.out.uniq hp'
  have N4 := (b4.block w2.heap.size (by simp)).trans N3.out
  have B4 := Lib.hid (B3.out.trans (b4.mono B3.out.size))
  have hlt := blk_lt N4
  have hne : w2.heap.size ≠ w4.heap.size := by omega
  have N5 := blk_under N4 (below1 w4 (.cells (CallV.mk k e a b c nm).cells 26))
  have B5 := Lib.hid (B4.out.trans ((below1 w4 (.cells (CallV.mk k e a b c nm).cells 26)).mono B4.out.size))
  obtain ⟨d0, d1, d2, d3, d4, d5⟩ := call_cells (x := ⟨k, e, a, b, c, nm⟩) N5
  simp only [CallV.cells, CallV.val] at d0 d1 d2 d3 d4 d5 B5 ⊢
  have E := fun w => eqlCall_same k e a b c nm w
  have E' := fun w => neqCall_same k e a b c nm w
  have G := fun op x y xs ys w => guardCall op x y xs ys w
  clear N4 N5 b4 hp'
  rcases Hp.out with ⟨rfl, hf, ht⟩ | ⟨rfl, _, _⟩
  · have Q1 := Lib.hid (bad_right hf)
    have Q2 := Lib.hid (bad_left hf)
    rw [ht] at Q1 Q2
    have n1 : ¬ 9223372036854775807 < s.size + 1 := by omega
    have n2 : ¬ 9223372036854775807 < 1 + s.size := by omega
    have C1 := Lib.hid (fun w h => CallParse_impl (s ++ ⟨#[32]⟩) w (by rw [ByteArray.size_append]; have e : (⟨#[32]⟩ : ByteArray).size = 1 := rfl; omega) h)
    have C2 := Lib.hid (fun w h => CallParse_impl (⟨#[32]⟩ ++ s) w (by rw [ByteArray.size_append]; have e : (⟨#[32]⟩ : ByteArray).size = 1 := rfl; omega) h)
    clear hf ht
    go_wp2_with fail
    refine (C1.out _ (Ht.out.below B5.out)).mono ?_; rintro e' w6 ⟨⟨y6, o6, rfl, p6⟩, b6⟩
    rcases p6 with ⟨_, h1, h2⟩ | ⟨rfl, rfl, _⟩
    · exact absurd h2 (Q1.out y6 h1)
    have B6 := Lib.hid (B5.out.trans (b6.mono B5.out.size))
    have B7 := Lib.hid (B6.out.trans ((below1 w6 (.cells CallV.zero.cells 26)).mono B6.out.size))
    clear b6 d0 d1 d2 d3 d4 d5
    simp only [CallV.cells, CallV.val, CallV.zero] at B7 ⊢
    go_wp2_with fail
    refine (C2.out _ (Ht.out.below B7.out)).mono ?_; rintro e' w8 ⟨⟨y8, o8, rfl, p8⟩, b8⟩
    rcases p8 with ⟨_, h1, h2⟩ | ⟨rfl, rfl, _⟩
    · exact absurd h2 (Q2.out y8 h1)
    have B8 := Lib.hid (B7.out.trans (b8.mono B7.out.size))
    have B9 := Lib.hid (B8.out.trans ((below1 w8 (.cells CallV.zero.cells 26)).mono B8.out.size))
    clear b8
    simp only [CallV.cells, CallV.val, CallV.zero] at B9 ⊢
    go_wp2_with fail
    go_ret
    exact ⟨rfl, B9.out⟩
  · go_wp2_with fail
    go_ret
    exact ⟨rfl, B5.out⟩
end Go.Proofs.YtgdehdfbdjgmdaaDoor
