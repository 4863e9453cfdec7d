/-
  The law laws.FnCallsParseOne returns true for every drawn text. Conditions: some variables of the library lie as laid.
-/
import Derived.Test.YtgdehdfbdjgmdaaDoorCsParsI
import Derived.Test.YtgdehdfbdjgmdaaDoorFCallParse
set_option linter.unusedVariables false
set_option linter.unusedSimpArgs false
namespace Go.Proofs.YtgdehdfbdjgmdaaDoor
open Go.RowKit

set_option maxRecDepth 100000 in
set_option maxHeartbeats 1000000 in
theorem sameCallList_same (v1 v2 : Value) (xs : List CallV) (w : World) (h1 : RdCalls w v1 xs) (h2 : RdCalls w v2 xs) :
    Calls Tryd.prog 29 #[v1, v2] w fun e w' => e = .returned (.bool true) ∧ Below w.heap.size w w' := by
  obtain ⟨a1, c1, hv1, hc1, hcm1, H1⟩ := h1.open
  obtain ⟨a2, c2, hv2, hc2, hcm2, H2⟩ := h2.open
  subst hv1 hv2
  unfold maxLen at hcm1 hcm2
  clear h1 h2
  go_enter Tryd.func29, Tryd.ntmps29
  go_wp2_with fail
  go_loopw [5] (fun i wr => ∃ k : Nat, k ≤ xs.length ∧ i = .int .i64 k ∧ Below w.heap.size w wr) (fun i _ => xs.length - (intOf i).toNat)
  case atStart => exact ⟨0, Nat.zero_le _, rfl, Below.refl _ _⟩
  case round =>
    obtain ⟨k, hk, rfl, hbel⟩ := hrel
    by_cases hlt : k < xs.length
    · obtain ⟨x, hx⟩ : ∃ x, xs[k]? = some x := ⟨_, List.getElem?_eq_getElem hlt⟩
      obtain ⟨b1, o1, rfl, D0, D1, D2, D3, D4, D5⟩ := H1.six hbel hx
      obtain ⟨b2, o2, rfl, E0, E1, E2, E3, E4, E5⟩ := H2.six hbel hx
      have Hx := Lib.hid hx; clear hx
      have hk1 : (k : Int) < xs.length := by omega
      obtain ⟨xk, xe, xa, xb, xc, xn⟩ := x
      have E := fun w => neqCall_same xk xe xa xb xc xn w
      have G := fun op x y xs ys w => guardCall op x y xs ys w
      simp only at D0 D1 D2 D3 D4 D5 E0 E1 E2 E3 E4 E5
      go_wp2_with fail
      go_quiet (fail)
      have hbd : Below w.heap.size w (wr.drewN nq) := below_drewN hbel nq
      generalize wr.drewN nq = w2 at hbd
      clear D0 D1 D2 D3 D4 D5 E0 E1 E2 E3 E4 E5 hbel
      go_wp2_with fail
      go_roundw
      case rel => exact ⟨k + 1, by omega, by go_num, hbd⟩
      case measure => simp [intOf]; omega
    · go_wp2_with fail
      go_ret
      exact ⟨rfl, hbel⟩

theorem one_text {x : CallV} (hx : fitsC x = true) : ParsedS (callB x) [x] true := by
  have hf : listFit [x] = true := listFit_iff.2 ⟨fun y hy => by rw [List.mem_singleton.1 hy]; exact hx, by simp⟩
  exact .inl ⟨rfl, hf, by rw [callsB_fit hf, pre_one]⟩
theorem two_texts {x : CallV} (hx : fitsC x = true) : ParsedS (callB x ++ ⟨#[59]⟩ ++ callB x) [x, x] true := by
  have hf : listFit [x, x] = true := listFit_iff.2 ⟨fun y hy => by simp at hy; rw [hy]; exact hx, by simp⟩
  refine .inl ⟨rfl, hf, ?_⟩
  rw [callsB_fit hf]
  have h2 := pre_snoc (xs := [x]) (by simp) x
  rw [pre_one] at h2
  exact h2
theorem lit_calls (w : World) (xs : List CallV) (hl : xs.length ≤ 1000) : RdCalls (w.alloc (.cells (callCells xs).toArray 26)) (.slice (some ⟨w.heap.size, 0, none⟩) xs.length xs.length) xs :=
  Rd.of_owns (ownsRow_lit w 26 6 xs.length (callCells xs) (callCells_len xs) (Nat.le_trans hl (by decide)))

set_option maxRecDepth 100000 in
set_option maxHeartbeats 4000000 in
theorem fnCallsParseOne.walkR (v : Value) (bs : List Int) (w : World) (h : RdBytes w v bs) (ht : PTabs w) :
    Calls Tryd.prog 10 #[v] w fun e w' => e = .returned (.bool true) ∧ Below w.heap.size w w' := by
  obtain ⟨a, c, hv, hc, hcm, _⟩ := h.open
  subst hv
  unfold maxLen at hcm
  have Ht := Lib.hid ht; clear ht
  by_cases hl : 1048576 < bs.length
  · have t0 : (1048576 : Int) < bs.length := by omega
    go_enter Tryd.func10, Tryd.ntmps10
    go_wp2_with fail
    go_ret
    exact ⟨rfl, Below.refl _ _⟩
  have t0 : ¬ (1048576 : Int) < bs.length := by omega
  go_enter Tryd.func10, Tryd.ntmps10
  go_wp2_with fail
  refine (DrawCallParse_any _ bs _ h).mono ?_; rintro e w1 ⟨⟨s, rfl, hs⟩, b1⟩
  have hs' : s.size ≤ 1048577 := by omega
  have B1 := Lib.hid b1
  clear b1
  go_wp2_with fail
  refine (CallParse_impl s _ hs' (Ht.out.below B1.out)).mono ?_; rintro e w2 ⟨⟨x, ok, rfl, hp⟩, b2⟩
  have B2 := Lib.hid (B1.out.trans (b2.mono B1.out.size))
  have Hp := Lib.hid hp
  have N3 := Lib.hid (heap_alloc_new w2 (.cells x.cells 26))
  have B3 := Lib.hid (B2.out.trans ((below1 w2 (.cells x.cells 26)).mono B2.out.size))
  clear b2 hp
  obtain ⟨k, e, a, b, c, nm⟩ := x
  simp only [CallV.val, CallV.cells] at N3 B3 ⊢
  go_wp2_with fail
  refine (CallParse_spec s _ hs').mono ?_; rintro e' w4 ⟨⟨y, ok', rfl, hp'⟩, b4⟩
  obtain ⟨rfl, rfl⟩ := Hp.out.uniq hp'
  have N4 := (b4.block w2.heap.size (by simp)).trans N3.out
  have B4 := Lib.hid (B3.out.trans (b4.mono B3.out.size))
  have hlt := blk_lt N4
  have hne : w2.heap.size ≠ w4.heap.size := by omega
  have N5 := blk_under N4 (below1 w4 (.cells (CallV.mk k e a b c nm).cells 26))
  have B5 := Lib.hid (B4.out.trans ((below1 w4 (.cells (CallV.mk k e a b c nm).cells 26)).mono B4.out.size))
  obtain ⟨d0, d1, d2, d3, d4, d5⟩ := call_cells (x := ⟨k, e, a, b, c, nm⟩) N5
  simp only [CallV.cells, CallV.val] at d0 d1 d2 d3 d4 d5 B5 ⊢
  have E := fun w => eqlCall_same k e a b c nm w
  have E' := fun w => neqCall_same k e a b c nm w
  have G := fun op x y xs ys w => guardCall op x y xs ys w
  have HN5 := Lib.hid N5
  clear N4 N5 b4 hp'
  rcases Hp.out with ⟨rfl, hf, ht⟩ | ⟨rfl, _, _⟩
  · have P1 := Lib.hid (one_text hf)
    have P2 := Lib.hid (two_texts hf)
    rw [ht] at P1 P2
    have n1 : ¬ 9223372036854775807 < s.size + 1 := by omega
    have n2 : ¬ 9223372036854775807 < s.size + 1 + s.size := by omega
    have C1 := Lib.hid (fun w h => CallsParse_impl s w hs' h)
    have C2 := Lib.hid (fun w h => CallsParse_impl (s ++ ⟨#[59]⟩ ++ s) w (by rw [ByteArray.size_append, ByteArray.size_append]; have e : (⟨#[59]⟩ : ByteArray).size = 1 := rfl; omega) h)
    clear hf ht d0 d1 d2 d3 d4 d5
    obtain ⟨d0, d1, d2, d3, d4, d5⟩ := call_cells (x := ⟨k, e, a, b, c, nm⟩) HN5.out
    simp only [CallV.cells, CallV.val] at d0 d1 d2 d3 d4 d5
    go_wp2_with fail
    refine (C1.out _ (Ht.out.below B5.out)).mono ?_; rintro e' w6 ⟨⟨v6, x6, o6, rfl, ow6, p6⟩, b6⟩
    obtain ⟨rfl, rfl⟩ := p6.uniq P1.out
    have B6 := Lib.hid (B5.out.trans (b6.mono B5.out.size))
    have N6 := Lib.hid (blk_under HN5.out b6)
    have R6 := Lib.hid ow6.rd
    obtain ⟨a6, c6, rfl, _, _, _⟩ := ow6.rd.open
    clear d0 d1 d2 d3 d4 d5 b6 ow6 p6
    go_wp2_with fail
    refine (C2.out _ (Ht.out.below B6.out)).mono ?_; rintro e' w7 ⟨⟨v7, x7, o7, rfl, ow7, p7⟩, b7⟩
    obtain ⟨rfl, rfl⟩ := p7.uniq P2.out
    have B7 := Lib.hid (B6.out.trans (b7.mono B6.out.size))
    have N7 := Lib.hid (blk_under N6.out b7)
    have R7 := Lib.hid (R6.out.below b7)
    have R8 := Lib.hid ow7.rd
    obtain ⟨a7, c7, rfl, _, _, _⟩ := ow7.rd.open
    clear b7 ow7 p7
    obtain ⟨d0, d1, d2, d3, d4, d5⟩ := call_cells (x := ⟨k, e, a, b, c, nm⟩) N7.out
    have L1 := Lib.hid (lit_calls w7 [⟨k, e, a, b, c, nm⟩] (by simp))
    have BL := Lib.hid (below1 w7 (.cells (callCells [⟨k, e, a, b, c, nm⟩]).toArray 26))
    simp only [CallV.cells, CallV.val, callCells, flat, callCs, List.flatMap_cons, List.flatMap_nil, List.append_nil, List.length_cons, List.length_nil, Nat.zero_add] at d0 d1 d2 d3 d4 d5 L1 BL ⊢
    go_wp2_with fail
    refine (sameCallList_same _ _ _ _ (R7.out.below BL.out) L1.out).mono ?_; rintro e' w8 ⟨rfl, b8⟩
    have B8 := Lib.hid (B7.out.trans ((BL.out.trans (b8.mono BL.out.size)).mono B7.out.size))
    have N8 := Lib.hid (blk_under (blk_under N7.out BL.out) b8)
    have R9 := Lib.hid ((R8.out.below BL.out).below b8)
    clear d0 d1 d2 d3 d4 d5 b8
    obtain ⟨d0, d1, d2, d3, d4, d5⟩ := call_cells (x := ⟨k, e, a, b, c, nm⟩) N8.out
    have L2 := Lib.hid (lit_calls w8 [⟨k, e, a, b, c, nm⟩, ⟨k, e, a, b, c, nm⟩] (by simp))
    have BL2 := Lib.hid (below1 w8 (.cells (callCells [⟨k, e, a, b, c, nm⟩, ⟨k, e, a, b, c, nm⟩]).toArray 26))
    simp only [CallV.cells, CallV.val, callCells, flat, callCs, List.flatMap_cons, List.flatMap_nil, List.append_nil, List.length_cons, List.length_nil, Nat.zero_add] at d0 d1 d2 d3 d4 d5 L2 BL2 ⊢
    go_wp2_with fail
    refine (sameCallList_same _ _ _ _ (R9.out.below BL2.out) L2.out).mono ?_; rintro e' w9 ⟨rfl, b9⟩
    go_wp2_with fail
    go_ret
    exact ⟨rfl, B8.out.trans ((BL2.out.trans (b9.mono BL2.out.size)).mono B8.out.size)⟩
  · go_wp2_with fail
    go_ret
    exact ⟨rfl, B5.out⟩
end Go.Proofs.YtgdehdfbdjgmdaaDoor
