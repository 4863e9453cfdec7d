/-
  The law laws.FnExactCallFits returns true for every call. No conditions.
-/
import Derived.Test.YtjacdlekgdnndaaDoorDoorB
set_option linter.unusedVariables false
namespace Go.Proofs.YtjacdlekgdnndaaDoor.fnExactCallFits
open Go.RowKit
open Go.Proofs.YtjacdlekgdnndaaDoor

set_option maxHeartbeats 2000000 in
theorem walkR (v : Value) (x : CallV) (w : World) (h : v = x.val ∧ x.nm.size ≤ maxLen) :
    Calls Tryd.prog 3 #[v] w fun e w' => e = .returned (.bool true) ∧ Below w.heap.size w w' := by
  obtain ⟨rfl, hs⟩ := h
  have Z := Lib.hid (szCall_any x)
  have C := Lib.hid (toCall_lit x)
  have S := Lib.hid (fun w => CallFits_spec x w hs)
  have I := Lib.hid (fun w => CallFits_impl x w hs)
  obtain ⟨k, e, a, b, c, nm⟩ := x
  simp only [CallV.val, CallV.cells] at Z C S I ⊢
  generalize fitsC ⟨k, e, a, b, c, nm⟩ = q at S I
  go_enter Tryd.func3, Tryd.ntmps3
  go_wp2_with fail
  refine (Z.out _ _).mono ?_; rintro e' w1 ⟨⟨r, rfl⟩, b1⟩
  have hB := (b1.block w.heap.size (by simp)).trans (heap_alloc_new w (.cells #[.int .i64 k, .int .i64 e, .int .i64 a, .int .i64 b, .int .i64 c, .string nm] 23))
  have b1' := (below1 w (.cells #[.int .i64 k, .int .i64 e, .int .i64 a, .int .i64 b, .int .i64 c, .string nm] 23)).trans (b1.mono (by simp))
  by_cases h0 : r < 0
  · go_wp2_with fail
    go_ret
    exact ⟨rfl, b1'⟩
  have D0 : w1.cell? ⟨w.heap.size, 0, none⟩ = some (.int .i64 k) := cell_of_row w1 _ 0 _ _ _ hB
  have D1 : w1.cell? ⟨w.heap.size, 1, none⟩ = some (.int .i64 e) := cell_of_row w1 _ 1 _ _ _ hB
  have D2 : w1.cell? ⟨w.heap.size, 2, none⟩ = some (.int .i64 a) := cell_of_row w1 _ 2 _ _ _ hB
  have D3 : w1.cell? ⟨w.heap.size, 3, none⟩ = some (.int .i64 b) := cell_of_row w1 _ 3 _ _ _ hB
  have D4 : w1.cell? ⟨w.heap.size, 4, none⟩ = some (.int .i64 c) := cell_of_row w1 _ 4 _ _ _ hB
  have D5 : w1.cell? ⟨w.heap.size, 5, none⟩ = some (.string nm) := cell_of_row w1 _ 5 _ _ _ hB
  have HB := Lib.hid hB
  clear hB
  go_wp2_with fail
  refine (C.out _).mono ?_; rintro e' w2 ⟨rfl, hw2⟩
  have b2 := (((below1 w1 (.cells #[.int .i64 k, .int .i64 e, .int .i64 a, .int .i64 b, .int .i64 c, .string nm] 23)).alloc (by simp) (.cells #[.int .i64 k, .int .i64 e, .int .i64 a, .int .i64 b, .int .i64 c, .string nm] 26)).alloc (by simp; omega) (.cells #[.int .i64 k, .int .i64 e, .int .i64 a, .int .i64 b, .int .i64 c, .string nm] 26))
  rw [hw2] at b2
  clear hw2 D0 D1 D2 D3 D4 D5
  go_wp2_with fail
  refine (S.out _).mono ?_; rintro e' w3 ⟨rfl, b3⟩
  have hlt : w.heap.size < w1.heap.size := (Array.getElem?_eq_some_iff.1 HB.out).1
  have b13 := b2.trans (b3.mono b2.size)
  have hB := (b13.block w.heap.size hlt).trans HB.out
  have D0 : w3.cell? ⟨w.heap.size, 0, none⟩ = some (.int .i64 k) := cell_of_row w3 _ 0 _ _ _ hB
  have D1 : w3.cell? ⟨w.heap.size, 1, none⟩ = some (.int .i64 e) := cell_of_row w3 _ 1 _ _ _ hB
  have D2 : w3.cell? ⟨w.heap.size, 2, none⟩ = some (.int .i64 a) := cell_of_row w3 _ 2 _ _ _ hB
  have D3 : w3.cell? ⟨w.heap.size, 3, none⟩ = some (.int .i64 b) := cell_of_row w3 _ 3 _ _ _ hB
  have D4 : w3.cell? ⟨w.heap.size, 4, none⟩ = some (.int .i64 c) := cell_of_row w3 _ 4 _ _ _ hB
  have D5 : w3.cell? ⟨w.heap.size, 5, none⟩ = some (.string nm) := cell_of_row w3 _ 5 _ _ _ hB
  clear hB
  have b4 := b1'.trans (b13.mono b1'.size)
  go_wp2_with fail
  refine (C.out _).mono ?_; rintro e' w5 ⟨rfl, hw5⟩
  have b5 := (((below1 w3 (.cells #[.int .i64 k, .int .i64 e, .int .i64 a, .int .i64 b, .int .i64 c, .string nm] 23)).alloc (by simp) (.cells #[.int .i64 k, .int .i64 e, .int .i64 a, .int .i64 b, .int .i64 c, .string nm] 26)).alloc (by simp; omega) (.cells #[.int .i64 k, .int .i64 e, .int .i64 a, .int .i64 b, .int .i64 c, .string nm] 26))
  rw [hw5] at b5
  clear hw5 D0 D1 D2 D3 D4 D5
  go_wp2_with fail
  refine (I.out _).mono ?_; rintro e' w6 ⟨rfl, b6⟩
  have b7 := b4.trans ((b5.trans (b6.mono b5.size)).mono b4.size)
  have hq : (q != q) = false := by simp
  go_wp2_with fail
  go_ret
  exact ⟨rfl, b7⟩
end Go.Proofs.YtjacdlekgdnndaaDoor.fnExactCallFits
