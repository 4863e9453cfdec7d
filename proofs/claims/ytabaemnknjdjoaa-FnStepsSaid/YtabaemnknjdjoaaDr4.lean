/-
  Walks: a call of another environment drawn.
-/
import Derived.Test.YtabaemnknjdjoaaDr3
set_option linter.unusedVariables false
namespace Go.Proofs.Ytabaemnknjdjoaa
open Go.RowKit

set_option maxRecDepth 100000 in
set_option maxHeartbeats 8000000 in
theorem l92Other_any {w0 w : World} {g N : Nat} (m i e c : Value) (xs : List InfoV) (h : Dr w0 g N w) (hN : N ≤ 700000) (hi : ∀ w', w.grownBy w' (some g) → RdInfos w' i xs) (hl : xs.length ≤ 12) :
    Calls Try.prog 57 #[.pointer (some ⟨g, 0, none⟩), .agg #[m, i, e, c]] w (DrPost w0 g (N + 30) w fun v => ∃ x : CallV, v = x.val ∧ x.nm.size ≤ 8) := by
  have hlt := h.lt
  have hw0 : w0.heap.size ≤ w.heap.size := h.2.1.size
  have Hi := Lib.hid hi; clear hi
  go_enter Try.func57, Try.ntmps57
  go_wp2_with fail
  have gA := grown_below (below2 w (.cells #[m, i, e, c] 74) (.cells #[.int .i64 0, .int .i64 0, .int .i64 0, .int .i64 0, .int .i64 0, .string ⟨#[]⟩] 38)) (some g)
  refine (l92Call_any m i e c xs ((h.alloc _).alloc _) (by omega) (fun w' hg => Hi.out w' (grown_trans gA hg)) hl).mono ?_; rintro e' w1 ⟨v, rfl, ⟨x, rfl, hx⟩, h1, g1⟩
  have St : CallSt w0 g (N + 20) w m i e c w1.heap.size (w1.alloc (.cells x.cells 38)) := by
    have hz := g1.size
    simp at hz
    have B1 := heap_alloc_new (w.alloc (.cells #[m, i, e, c] 74)) (.cells #[.int .i64 0, .int .i64 0, .int .i64 0, .int .i64 0, .int .i64 0, .string ⟨#[]⟩] 38)
    have B0 := blk_below (heap_alloc_new w (.cells #[m, i, e, c] 74)) (below1 _ (.cells #[.int .i64 0, .int .i64 0, .int .i64 0, .int .i64 0, .int .i64 0, .string ⟨#[]⟩] 38))
    simp only [World.size_alloc] at B1
    have far : ∀ {q : Nat} {o : Obj}, w.heap.size ≤ q → ((w.alloc (.cells #[m, i, e, c] 74)).alloc (.cells #[.int .i64 0, .int .i64 0, .int .i64 0, .int .i64 0, .int .i64 0, .string ⟨#[]⟩] 38)).heap[q]? = some o → (w1.alloc (.cells x.cells 38)).heap[q]? = some o := fun {q o} hq hb => blk_below ((g1.block q (blk_lt hb) (by simp; omega)).trans hb) (below1 _ _)
    exact ⟨x, hx, h1.alloc _, grown_alloc (grown_trans gA g1) _, by omega, hlt, hw0, heap_alloc_new _ _, far (Nat.le_refl _) B0, ⟨⟨0, 0, 0, 0, 0, ⟨#[]⟩⟩, far (by omega) B1⟩⟩
  clear h1 g1 h gA
  simp only [CallV.val, CallV.cells] at St ⊢
  go_wp2_with fail
  generalize w1.alloc (.cells #[.int .i64 x.k, .int .i64 x.e, .int .i64 x.a, .int .i64 x.b, .int .i64 x.c, .string x.nm] 38) = wr at St ⊢
  generalize w1.heap.size = b at St ⊢
  obtain ⟨hbne, hbne', hbne1, hbne1'⟩ := St.ne
  obtain ⟨hbne, hbne', hbne1, hbne1'⟩ := St.ne
  refine (St.dr.pick _ (by omega) (by decide)).mono ?_; rintro e' w4 ⟨z, rfl, z0, z1, h4, g4⟩
  replace z1 := z1 (by decide)
  replace St := St.draw h4 g4
  clear h4 g4
  obtain ⟨x1, c0, c1, c2, c3, c4, c5, hf, hBx⟩ := St.cc
  by_cases hk : x1.k = 1
  · have t0 : (x1.k == 1) = true := by simp [hk]
    clear hk
    go_wp2_with fail
    refine ((St.set1 _).dr.pick _ (by omega) (by decide)).mono ?_; rintro e' w5 ⟨u, rfl, u0, u1, h5, g5⟩
    replace u1 := u1 (by decide)
    replace St := (St.set1 _).draw h5 g5
    clear h5 g5 c0 c1 c2 c3 c4 c5 hf hBx t0
    by_cases hu : 0 < u
    · go_wp2_with fail
      have StA := St.draw (St.dr.alloc (.cells #[.string ⟨#[98]⟩, .string ⟨#[99]⟩] 9)) (grown_below (below1 _ _) _)
      refine (of_any w5.heap.size 2 [⟨#[98]⟩, ⟨#[99]⟩] StA.dr (by omega) rfl (by decide) (by decide) (by have := St.dr.lt; omega) (by simp) (fun k hk => lit_strs w5 [⟨#[98]⟩, ⟨#[99]⟩] _ hk)).mono ?_
      rintro e' w6 ⟨v, rfl, ⟨s, hs, rfl⟩, h6, g6⟩
      replace St := StA.draw h6 g6
      clear h6 g6 StA
      simp only [List.mem_cons, List.not_mem_nil, or_false] at hs
      obtain ⟨x1, c0, c1, c2, c3, c4, c5, hf, hBx⟩ := St.cc
      rcases hs with rfl | rfl
      · obtain ⟨y1, d0, d1, d2, d3, d4, d5, hf'⟩ := St.qc
        go_wp2_with fail
        obtain ⟨⟨E0, E1, E2, E3, E4, E5⟩, Fin⟩ := CallSt.fin (M := N + 30) ((St.setS ⟨#[98]⟩ (by decide)).set1 1) ⟨x1.k, 1, x1.a, x1.b, x1.c, ⟨#[98]⟩⟩ (by have h0 := heap_setCell_same w6 b 5 _ _ (.string ⟨#[98]⟩) hBx.out; have h1 := heap_setCell_same _ b 1 _ _ (.int .i64 1) h0; simpa [CallV.cells] using h1) (by omega)
        exact bodyPost_ret (v := .agg #[_, _, _, _, _, _]) (by simp [results, Try.results57, go_sem, E0, E1, E2, E3, E4, E5]) rfl Fin
      · obtain ⟨y1, d0, d1, d2, d3, d4, d5, hf'⟩ := St.qc
        have hB3 : (((w6.setCell ⟨b, 5, none⟩ (.string ⟨#[99]⟩)).setCell ⟨b, 1, none⟩ (.int .i64 1)).setCell ⟨b, 1, none⟩ (.int .i64 2)).heap[b]? = some (.cells (CallV.cells ⟨x1.k, 2, x1.a, x1.b, x1.c, ⟨#[99]⟩⟩) 38 (0, 0)) := by
          have h0 := heap_setCell_same w6 b 5 _ _ (.string ⟨#[99]⟩) hBx.out
          have h1 := heap_setCell_same _ b 1 _ _ (.int .i64 1) h0
          have h2 := heap_setCell_same _ b 1 _ _ (.int .i64 2) h1
          simpa [CallV.cells] using h2
        have cd := (call_cells hB3).2.1
        have HB3 := Lib.hid hB3
        clear hB3
        go_wp2_with fail
        obtain ⟨⟨E0, E1, E2, E3, E4, E5⟩, Fin⟩ := CallSt.fin (M := N + 30) (((St.setS ⟨#[99]⟩ (by decide)).set1 1).set1 2) ⟨x1.k, 2, x1.a, x1.b, x1.c, ⟨#[99]⟩⟩ HB3.out (by omega)
        exact bodyPost_ret (v := .agg #[_, _, _, _, _, _]) (by simp [results, Try.results57, go_sem, E0, E1, E2, E3, E4, E5]) rfl Fin
    · have u2 : u ≤ 0 := by omega
      obtain ⟨x1, c0, c1, c2, c3, c4, c5, hf, hBx⟩ := St.cc
      obtain ⟨y1, d0, d1, d2, d3, d4, d5, hf'⟩ := St.qc
      go_wp2_with fail
      obtain ⟨⟨E0, E1, E2, E3, E4, E5⟩, Fin⟩ := CallSt.fin (M := N + 30) St x1 hBx.out (by omega)
      exact bodyPost_ret (v := .agg #[_, _, _, _, _, _]) (by simp [results, Try.results57, go_sem, E0, E1, E2, E3, E4, E5]) rfl Fin
  · have t0 : (x1.k == 1) = false := by simp [hk]
    clear hk
    obtain ⟨y1, d0, d1, d2, d3, d4, d5, hf'⟩ := St.qc
    go_wp2_with fail
    obtain ⟨⟨E0, E1, E2, E3, E4, E5⟩, Fin⟩ := CallSt.fin (M := N + 30) (St.set1 _) ⟨x1.k, 1 + z, x1.a, x1.b, x1.c, x1.nm⟩ (by have := heap_setCell_same w4 b 1 _ _ (.int .i64 (1 + z)) hBx.out; simpa [CallV.cells] using this) (by omega)
    exact bodyPost_ret (v := .agg #[_, _, _, _, _, _]) (by simp [results, Try.results57, go_sem, E0, E1, E2, E3, E4, E5]) rfl Fin
end Go.Proofs.Ytabaemnknjdjoaa
