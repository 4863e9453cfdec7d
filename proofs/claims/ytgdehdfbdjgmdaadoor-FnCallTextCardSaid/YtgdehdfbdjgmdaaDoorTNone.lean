/-
  The law laws.FnCallTextNone returns true for every drawn call. Condition: the table of strconv.Itoa lies as laid.
-/
import Derived.Test.YtgdehdfbdjgmdaaDoorCText
import Derived.Test.YtgdehdfbdjgmdaaDoorCTextB
import Derived.Test.YtgdehdfbdjgmdaaDoorDrC
set_option linter.unusedVariables false
namespace Go.Proofs.YtgdehdfbdjgmdaaDoor
open Go.RowKit

set_option maxRecDepth 100000 in
set_option maxHeartbeats 4000000 in
theorem DrawCallText_any (v : Value) (bs : List Int) (w : World) (h : RdBytes w v bs) :
    Calls Tryd.prog 17 #[v] w fun e w' => (∃ x : CallV, e = .returned x.val ∧ x.nm.size ≤ 8) ∧ Below w.heap.size w w' := by
  obtain ⟨a, c, hv, hc, hcm, _⟩ := h.open
  subst hv
  have hB := Lib.hid (below1 w (.cells (CallV.mk 0 0 0 0 0 ⟨#[]⟩).cells 26))
  have hN := Lib.hid (heap_alloc_new w (.cells (CallV.mk 0 0 0 0 0 ⟨#[]⟩).cells 26))
  go_enter Tryd.func17, Tryd.ntmps17
  go_wp2_with fail
  refine (l6Open_any _ bs _ (Rd.below h.1 hB.out |> fun r => ⟨r, h.2⟩)).mono ?_; rintro e w1 ⟨R, rfl, hr, hb⟩
  obtain ⟨g, rfl, hd⟩ := Dr.of hr hb
  go_wp2_with fail
  refine (l93Call_any hd (by omega)).mono ?_; rintro e w2 ⟨u, rfl, ⟨x, rfl, hx⟩, hd2, hg2⟩
  have b2 := hd2.2.1
  have hN2 := (b2.block w.heap.size (by simp)).trans hN.out
  obtain ⟨d0, d1, d2, d3, d4, d5⟩ := call_cells hN2
  have hf := blk_frozen hN2
  have E := set6 (x := x) hN2
  have hB2 := hB.out.trans (b2.mono hB.out.size)
  clear hN2 hd hd2 hr hb hg2 b2
  obtain ⟨k, e, a, b, c, nm⟩ := x
  simp only [CallV.val, CallV.cells] at E ⊢
  have E' := Lib.hid E; clear E
  go_wp2_with fail
  have c0 := cell_of_row _ _ 0 _ _ _ E'.out
  have c1 := cell_of_row _ _ 1 _ _ _ E'.out
  have c2 := cell_of_row _ _ 2 _ _ _ E'.out
  have c3 := cell_of_row _ _ 3 _ _ _ E'.out
  have c4 := cell_of_row _ _ 4 _ _ _ E'.out
  have c5 := cell_of_row _ _ 5 _ _ _ E'.out
  refine bodyPost_ret (v := .agg #[.int .i64 k, .int .i64 e, .int .i64 a, .int .i64 b, .int .i64 c, .string nm]) (by simp [results, Tryd.results17, go_sem, c0, c1, c2, c3, c4, c5]) rfl ⟨⟨⟨k, e, a, b, c, nm⟩, rfl, hx⟩, ?_⟩
  exact (((((hB2.setCell (Nat.le_refl _) _).setCell (Nat.le_refl _) _).setCell (Nat.le_refl _) _).setCell (Nat.le_refl _) _).setCell (Nat.le_refl _) _).setCell (Nat.le_refl _) _

theorem text_none (x : CallV) : (textB x).toList.isEmpty = !fitsC x := by
  unfold textB
  cases h : fitsC x
  · simp
  · rw [if_pos rfl]
    show _ = false
    rw [Bool.eq_false_iff]
    intro he
    rw [isEmpty_iff] at he
    have h2 : (callL x).toArray = #[] := by simpa [callB] using he
    exact txt_ne (by simpa [callL] using h2)

set_option maxRecDepth 100000 in
set_option maxHeartbeats 4000000 in
theorem fnCallTextNone.walkR (v : Value) (bs : List Int) (w : World) (h : RdBytes w v bs) (ht : Tabs w) :
    Calls Tryd.prog 4 #[v] w fun e w' => e = .returned (.bool true) ∧ Below w.heap.size w w' := by
  obtain ⟨a, c, hv, hc, hcm, _⟩ := h.open
  subst hv
  unfold maxLen at hcm
  have Ht := Lib.hid ht; clear ht
  by_cases hl : 1048576 < bs.length
  · have t0 : (1048576 : Int) < bs.length := by omega
    go_enter Tryd.func4, Tryd.ntmps4
    go_wp2_with fail
    go_ret
    exact ⟨rfl, Below.refl _ _⟩
  have t0 : ¬ (1048576 : Int) < bs.length := by omega
  go_enter Tryd.func4, Tryd.ntmps4
  go_wp2_with fail
  refine (DrawCallText_any _ bs _ h).mono ?_; rintro e' w1 ⟨⟨x, rfl, hx⟩, b1⟩
  have hs : x.nm.size ≤ maxLen := Nat.le_trans hx (by decide)
  have F := Lib.hid (fun w => CallFits_impl x w hs)
  have S := Lib.hid (fun w => CallText_spec x w hs)
  have I := Lib.hid (fun w h => CallText_impl x w hs h)
  have Tn := Lib.hid (text_none x)
  obtain ⟨k, e, a, b, c, nm⟩ := x
  simp only [CallV.val, CallV.cells] at S I F ⊢
  have B1 := Lib.hid (b1.trans ((below1 w1 (.cells #[.int .i64 k, .int .i64 e, .int .i64 a, .int .i64 b, .int .i64 c, .string nm] 26)).mono b1.size))
  have N1 := Lib.hid (heap_alloc_new w1 (.cells #[.int .i64 k, .int .i64 e, .int .i64 a, .int .i64 b, .int .i64 c, .string nm] 26))
  generalize textB ⟨k, e, a, b, c, nm⟩ = q at S I Tn
  generalize fitsC ⟨k, e, a, b, c, nm⟩ = f at F Tn
  clear b1
  go_wp2_with fail
  refine (I.out _ (Ht.out.below B1.out)).mono ?_; rintro e' w2 ⟨rfl, b2⟩
  have N2 := Lib.hid ((b2.block _ (by simp)).trans N1.out)
  have B2 := Lib.hid (B1.out.trans (b2.mono B1.out.size))
  have d0 := cell_of_row _ _ 0 _ _ _ N2.out
  have d1 := cell_of_row _ _ 1 _ _ _ N2.out
  have d2 := cell_of_row _ _ 2 _ _ _ N2.out
  have d3 := cell_of_row _ _ 3 _ _ _ N2.out
  have d4 := cell_of_row _ _ 4 _ _ _ N2.out
  have d5 := cell_of_row _ _ 5 _ _ _ N2.out
  clear b2
  go_wp2_with fail
  refine (S.out _).mono ?_; rintro e' w3 ⟨rfl, b3⟩
  have N3 := Lib.hid (blk_under N2.out b3)
  have B3 := Lib.hid (B2.out.trans (b3.mono B2.out.size))
  clear d0 d1 d2 d3 d4 d5 b3
  have d0 := cell_of_row _ _ 0 _ _ _ N3.out
  have d1 := cell_of_row _ _ 1 _ _ _ N3.out
  have d2 := cell_of_row _ _ 2 _ _ _ N3.out
  have d3 := cell_of_row _ _ 3 _ _ _ N3.out
  have d4 := cell_of_row _ _ 4 _ _ _ N3.out
  have d5 := cell_of_row _ _ 5 _ _ _ N3.out
  have hq : (q.toList != q.toList) = false := by simp
  go_wp2_with fail
  refine (F.out _).mono ?_; rintro e' w4 ⟨rfl, b4⟩
  have B4 := Lib.hid (B3.out.trans (b4.mono B3.out.size))
  clear b4 d0 d1 d2 d3 d4 d5
  go_wp2_with fail
  go_ret
  exact ⟨ret_bool (by rw [Tn.out]; cases f <;> rfl), B4.out⟩
end Go.Proofs.YtgdehdfbdjgmdaaDoor
