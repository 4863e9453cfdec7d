/-
  An argument that is a call, opened (door seats).
-/
import Derived.Test.YtjacdlekgdnndaaDoorDoorA
import Derived.WideShapes
import Derived.ChangeArms
import Derived.OpenShut
namespace Go.Proofs.YtjacdlekgdnndaaDoor
open Go.RowKit Go.ChangeShapes Go.WideShapes

section
variable {H : Type} {enc : TypeId × Value → H} {W : World} {base : Nat} {spare : Nat → Bool} {held : Bool}

theorem len6 (l : List Value) (h : l.length = 6) : ∃ a b c d e f, l = [a, b, c, d, e, f] := by
  match l, h with
  | [a, b, c, d, e, f], _ => exact ⟨a, b, c, d, e, f, rfl⟩

theorem call_of {n : Nat} {l : List Value} {y} (h : DataW.trod enc Tryd.prog W base spare held n 23 l = some y) : ∃ c : CallV, l = c.cells.toList ∧ c.nm.size ≤ maxLen := by
  obtain ⟨xs, n', rfl, _, hl, hxl, hf⟩ := DataW.trod_struct Tryd.underlying23 h
  have hl6 : l.length = 6 := hl.trans (by kernel_rfl)
  obtain ⟨a, b, c, d, e, f, rfl⟩ := len6 l hl6
  have hint : Tryd.prog.cellsOf 3 = 1 := by kernel_rfl
  have hstr : Tryd.prog.cellsOf 9 = 1 := by kernel_rfl
  have get : ∀ j, j < 6 → ∃ x, xs[j]? = some x := fun j hj => ⟨_, List.getElem?_eq_getElem (by rw [hxl]; exact hj)⟩
  have f0 : DataW.trod enc Tryd.prog W base spare held n' 3 (([a, b, c, d, e, f].drop 0).take (Tryd.prog.cellsOf 3)) = xs[0]? := hf 0 _ rfl
  have f1 : DataW.trod enc Tryd.prog W base spare held n' 3 (([a, b, c, d, e, f].drop 1).take (Tryd.prog.cellsOf 3)) = xs[1]? := hf 1 _ rfl
  have f2 : DataW.trod enc Tryd.prog W base spare held n' 3 (([a, b, c, d, e, f].drop 2).take (Tryd.prog.cellsOf 3)) = xs[2]? := hf 2 _ rfl
  have f3 : DataW.trod enc Tryd.prog W base spare held n' 3 (([a, b, c, d, e, f].drop 3).take (Tryd.prog.cellsOf 3)) = xs[3]? := hf 3 _ rfl
  have f4 : DataW.trod enc Tryd.prog W base spare held n' 3 (([a, b, c, d, e, f].drop 4).take (Tryd.prog.cellsOf 3)) = xs[4]? := hf 4 _ rfl
  have f5 : DataW.trod enc Tryd.prog W base spare held n' 9 (([a, b, c, d, e, f].drop 5).take (Tryd.prog.cellsOf 9)) = xs[5]? := hf 5 _ rfl
  obtain ⟨x0, g0⟩ := get 0 (by decide)
  obtain ⟨x1, g1⟩ := get 1 (by decide)
  obtain ⟨x2, g2⟩ := get 2 (by decide)
  obtain ⟨x3, g3⟩ := get 3 (by decide)
  obtain ⟨x4, g4⟩ := get 4 (by decide)
  obtain ⟨x5, g5⟩ := get 5 (by decide)
  rw [g0] at f0
  rw [g1] at f1
  rw [g2] at f2
  rw [g3] at f3
  rw [g4] at f4
  rw [g5] at f5
  simp only [hint, hstr, List.drop_succ_cons, List.drop_zero, List.take_succ_cons, List.take_zero] at f0 f1 f2 f3 f4 f5
  obtain ⟨i0, e0, _⟩ := DataW.trod_int Tryd.underlying3 f0
  obtain ⟨i1, e1, _⟩ := DataW.trod_int Tryd.underlying3 f1
  obtain ⟨i2, e2, _⟩ := DataW.trod_int Tryd.underlying3 f2
  obtain ⟨i3, e3, _⟩ := DataW.trod_int Tryd.underlying3 f3
  obtain ⟨i4, e4, _⟩ := DataW.trod_int Tryd.underlying3 f4
  obtain ⟨i5, e5, _, hs⟩ := DataW.trod_string Tryd.underlying9 f5
  simp only [List.cons.injEq, and_true] at e0 e1 e2 e3 e4 e5
  subst e0 e1 e2 e3 e4 e5
  exact ⟨⟨i0, i1, i2, i3, i4, i5⟩, rfl, hs⟩

set_option maxRecDepth 100000 in
theorem open_call {b0 : Nat} {r : Reach} {v : Value} {d : DataW H} {p : List MemPlace} (hv : Value.okWide Tryd.prog W r b0 23 v) (h : DataW.Trod enc Tryd.prog W base spare held 23 v d p) : ∃ x : CallV, v = x.val ∧ x.nm.size ≤ maxLen := by
  obtain ⟨cs, rfl, _⟩ := okWide_struct Tryd.underlying23 hv
  obtain ⟨fuel, hf⟩ := h
  obtain ⟨x, hx, hs⟩ := call_of hf
  refine ⟨x, ?_, hs⟩
  rw [CallV.val]
  congr 1
  exact Array.ext' hx
end
end Go.Proofs.YtjacdlekgdnndaaDoor
