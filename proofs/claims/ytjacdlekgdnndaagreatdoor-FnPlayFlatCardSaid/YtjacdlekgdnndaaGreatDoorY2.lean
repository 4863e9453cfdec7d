/-
  Packed: 14 texts.
-/
import Derived.Test.YtjacdlekgdnndaaGreatDoorY1
import Derived.Deep.DeepCutAuto
import Derived.Deep.CutBlock
import Derived.StillTailTactics
set_option linter.unusedVariables false
namespace Go.Proofs.YtjacdlekgdnndaaGreatDoor
open Go.RowKit
theorem Tryz.infoString : (Tryz.prog.info? 9).map (fun i => (i.zero, i.size, i.bytes)) = some (some (.string ⟨#[]⟩), 1, 16) := by kernel_rfl
theorem Tryz.infoEnv : (Tryz.prog.info? 80).map (fun i => (i.zero, i.size, i.bytes)) = some (some (.agg #[.slice none 0 0, .int .i64 0]), 2, 32) := by kernel_rfl
theorem mem_strs {ts : List ByteArray} : ∀ u ∈ flat strCs ts, u.oneCell' = true := by
 intro u hu
 obtain ⟨s, _, hs⟩ := List.mem_flatMap.1 hu
 simp [strCs] at hs
 subst hs
 rfl
theorem RdF.keep {α : Type} {sz : Nat} {cs : α → List Value} {w w' : World} {v : Value} {xs : List α} (h : RdF sz cs w v xs) (hk : ∀ k, k < w.heap.size → w'.heap[k]? = w.heap[k]?) : RdF sz cs w' v xs := Rd.keep h hk
theorem OwnEnvs.push {lo lo' : Nat} {w w1 w2 : World} {v v' r : Value} {ps : List (Value × Int)} {es : List EnvV} {ts : List ByteArray} {n : Int}
 (h : OwnEnvs lo w v ps es) (hb : Below w.heap.size w w1) (hlo : lo ≤ lo') (hlo' : w.heap.size ≤ lo') (hr : OwnF lo' 9 1 strCs w1 r ts)
 (h1 : w2.ownsRow lo 80 2 v' (ps.length + 1) (flat pairCs ps ++ [r, .int .i64 n])) (h2 : w1.grownBy w2 v.ownBlock) : OwnEnvs lo w2 v' (ps ++ [(r, n)]) (es ++ [⟨ts, n⟩]) := by
 obtain ⟨a1, a2, a3⟩ := h
 have a1' := a1.below hb
 have hne : 9 ≠ 80 := by decide
 refine ⟨?_, Both.snoc (a2.mono fun y ys hy => ⟨?_, hy.2⟩) ⟨?_, rfl⟩, ?_⟩
 ·unfold OwnF
  rw [flat_append, flat_one, List.length_append]
  exact h1
 ·have hy' := hy.1.below hb
  exact own_grown hy' h2 (apart_type hy' a1' hne).ne
 ·exact own_grown (own_loV hr hlo) h2 (apart_type hr a1' hne).ne
 ·rw [List.map_append]
  refine AllApart.snoc a3 fun y hy => ?_
  obtain ⟨p, hp, rfl⟩ := List.mem_map.1 hy
  obtain ⟨i, hi⟩ := List.getElem?_of_mem hp
  obtain ⟨e, he⟩ : ∃ e, es[i]? = some e := ⟨_, List.getElem?_eq_getElem (by rw [← a2.1]; exact (List.getElem?_eq_some_iff.1 hi).1)⟩
  exact own_apart (B := 0) (a2.2 i p e hi he).1 (fun k hk => Nat.le_trans hlo' (hr.lt k hk).1)
def envR (lo lo' g : Nat) (arg u ev : Value) (b at_ : Nat) (k : Int) (ts : List ByteArray) (ps : List (Value × Int)) (es : List EnvV) (i : Nat) (v : Value) (w : World) : Prop := match i with
 | 0 => v = .pointer (some ⟨g, 2, none⟩)
 | 1 => v = ev
 | 2 => ∃ g2, v = .slice (some ⟨g2, 0, none⟩) 0 0 ∧ lo' ≤ g2 ∧ w.heap[g2]? = some (.cells #[] 9 (0, 0))
 | 3 => v = arg
 | 4 => v = .int .i64 k
 | 5 => v = .pointer (some ⟨b, at_, none⟩)
 | 6 => v = u
 | 7 => OwnF lo' 9 1 strCs w v ts
 | 8 => ∃ r, v = .agg #[r, .int .i64 (-1)] ∧ OwnF lo' 9 1 strCs w r ts
 | 9 => ∃ r g9, v = .slice (some ⟨g9, 0, none⟩) 1 1 ∧ lo' ≤ g9 ∧ w.heap[g9]? = some (.cells #[r, .int .i64 (-1)] 80 (0, 0)) ∧ OwnF lo' 9 1 strCs w r ts
 | 10 => ∃ r, OwnEnvs lo w v (ps ++ [(r, -1)]) (es ++ [⟨ts, -1⟩])
 | 11 => v = .pointer (some ⟨g, 2, none⟩)
 | _ => True
theorem own_past {lo e sz n : Nat} {w w' : World} {v : Value} {xs : List Value} {row : Option Nat} (h : w.ownsRow lo e sz v n xs) (hg : w.grownBy w' row) (hr : ∀ k, row = some k → k < lo) : w'.ownsRow lo e sz v n xs := by
 refine own_grown h hg ?_
 cases hv : v.ownBlock with
 | none => exact .inl rfl
 | some k =>
  refine .inr fun he => ?_
  have h1 := hr k he.symm
  have h2 := (h.lt k hv).1
  omega
theorem blk_past {w w' : World} {lo g : Nat} {o : Obj} {row : Option Nat} (h : w.heap[g]? = some o) (hl : lo ≤ g) (hg : w.grownBy w' row) (hr : ∀ k, row = some k → k < lo) : w'.heap[g]? = some o :=
 (hg.block g (Array.getElem?_eq_some_iff.1 h).1 (fun e => by have := hr g e.symm; omega)).trans h
theorem envR_keep {lo lo' g : Nat} {arg u ev : Value} {b at_ : Nat} {k : Int} {ts : List ByteArray} {ps : List (Value × Int)} {es : List EnvV} {i : Nat} {v : Value} {w w' : World} {row : Option Nat}
 (h : envR lo lo' g arg u ev b at_ k ts ps es i v w) (hg : w.grownBy w' row) (hr : ∀ k, row = some k → k < lo') (hi : i ≠ 10 ∨ row = none) : envR lo lo' g arg u ev b at_ k ts ps es i v w' := by
 match i with
 | 0 => exact h
 | 1 => exact h
 | 2 => obtain ⟨g2, h0, h1, h2⟩ := h; exact ⟨g2, h0, h1, blk_past h2 h1 hg hr⟩
 | 3 => exact h
 | 4 => exact h
 | 5 => exact h
 | 6 => exact h
 | 7 => exact own_past h hg hr
 | 8 => obtain ⟨r, h0, h1⟩ := h; exact ⟨r, h0, own_past h1 hg hr⟩
 | 9 => obtain ⟨r, g9, h0, h1, h2, h3⟩ := h; exact ⟨r, g9, h0, h1, blk_past h2 h1 hg hr, own_past h3 hg hr⟩
 | 10 =>
  obtain ⟨r, h0⟩ := h
  rcases hi with hi | hi
  ·exact absurd rfl hi
  ·subst hi; exact ⟨r, h0.below ⟨hg.os, hg.tape, hg.output, hg.size, fun k hk => hg.block k hk (by simp)⟩⟩
 | 11 => exact h
 | _ + 12 => trivial
def CallSt (w0 : World) (g N : Nat) (w : World) (m i e c : Value) (b : Nat) (wr : World) : Prop :=
 ∃ x : CallV, x.nm.size ≤ 8 ∧ Dr w0 g N wr ∧ w.grownBy wr (some g) ∧ w.heap.size + 1 < b ∧ g < w.heap.size ∧ w0.heap.size ≤ w.heap.size ∧ wr.heap[b]? = some (.cells x.cells 60 (0, 0)) ∧
  wr.heap[w.heap.size]? = some (.cells #[m, i, e, c] 33 (0, 0)) ∧ (∃ y : CallV, wr.heap[w.heap.size + 1]? = some (.cells y.cells 60 (0, 0)))
theorem call_cells {w : World} {b : Nat} {x : CallV} (h : w.heap[b]? = some (.cells x.cells 60 (0, 0))) : w.cell? ⟨b, 0, none⟩ = some (.int .i64 x.k) ∧ w.cell? ⟨b, 1, none⟩ = some (.int .i64 x.e) ∧ w.cell? ⟨b, 2, none⟩ = some (.int .i64 x.a) ∧ w.cell? ⟨b, 3, none⟩ = some (.int .i64 x.b) ∧ w.cell? ⟨b, 4, none⟩ = some (.int .i64 x.c) ∧ w.cell? ⟨b, 5, none⟩ = some (.string x.nm) :=
 ⟨cell_of_row w b 0 _ _ _ h, cell_of_row w b 1 _ _ _ h, cell_of_row w b 2 _ _ _ h, cell_of_row w b 3 _ _ _ h, cell_of_row w b 4 _ _ _ h, cell_of_row w b 5 _ _ _ h⟩
section
variable {w0 w wr w' : World} {g N M b : Nat} {m i e c : Value}
theorem CallSt.kc (h : CallSt w0 g N w m i e c b wr) : wr.cell? ⟨w.heap.size, 0, none⟩ = some m ∧ wr.cell? ⟨w.heap.size, 1, none⟩ = some i ∧ wr.cell? ⟨w.heap.size, 2, none⟩ = some e ∧ wr.cell? ⟨w.heap.size, 3, none⟩ = some c := by
 obtain ⟨x, _, _, _, _, _, _, _, h1, _⟩ := h
 exact blk_cells4 h1
theorem CallSt.cc (h : CallSt w0 g N w m i e c b wr) : ∃ x : CallV, wr.cell? ⟨b, 0, none⟩ = some (.int .i64 x.k) ∧ wr.cell? ⟨b, 1, none⟩ = some (.int .i64 x.e) ∧ wr.cell? ⟨b, 2, none⟩ = some (.int .i64 x.a) ∧ wr.cell? ⟨b, 3, none⟩ = some (.int .i64 x.b) ∧ wr.cell? ⟨b, 4, none⟩ = some (.int .i64 x.c) ∧ wr.cell? ⟨b, 5, none⟩ = some (.string x.nm) ∧ (∀ j, wr.frozen? ⟨b, j, none⟩ = false) ∧ Hid (wr.heap[b]? = some (.cells x.cells 60 (0, 0))) := by
 obtain ⟨x, _, _, _, _, _, _, h1, _⟩ := h
 obtain ⟨c0, c1, c2, c3, c4, c5⟩ := call_cells h1
 exact ⟨x, c0, c1, c2, c3, c4, c5, blk_frozen h1, Lib.hid h1⟩
theorem CallSt.dr (h : CallSt w0 g N w m i e c b wr) : Dr w0 g N wr := by
 obtain ⟨x, _, h1, _⟩ := h
 exact h1
theorem CallSt.draw (h : CallSt w0 g N w m i e c b wr) (hd : Dr w0 g M w') (hg : wr.grownBy w' (some g)) : CallSt w0 g M w m i e c b w' := by
 obtain ⟨x, h0, h1, h2, h3, h4, h5, h6, h7, ⟨y, h8⟩⟩ := h
 have far : ∀ {q : Nat} {o : Obj}, w.heap.size ≤ q → wr.heap[q]? = some o → w'.heap[q]? = some o := fun {q o} hq hb => (hg.block q (blk_lt hb) (by simp; omega)).trans hb
 exact ⟨x, h0, hd, grown_trans h2 hg, h3, h4, h5, far (by omega) h6, far (Nat.le_refl _) h7, ⟨y, far (by omega) h8⟩⟩
theorem CallSt.set0 (h : CallSt w0 g N w m i e c b wr) (z : Int) : CallSt w0 g N w m i e c b (wr.setCell ⟨b, 0, none⟩ (.int .i64 z)) := by
 obtain ⟨x, h0, h1, h2, h3, h4, h5, h6, h7, ⟨y, h8⟩⟩ := h
 have hb := heap_setCell_same wr b 0 _ _ (.int .i64 z) h6
 have far : ∀ {q : Nat} {o : Obj}, q ≠ b → wr.heap[q]? = some o → (wr.setCell ⟨b, 0, none⟩ (.int .i64 z)).heap[q]? = some o := fun {q o} hq hb => (heap_setCell_other wr ⟨b, 0, none⟩ q _ (fun e => hq (by simpa using e))).trans hb
 exact ⟨⟨z, x.e, x.a, x.b, x.c, x.nm⟩, h0, h1.set (by omega) (by omega), grown_new h2 (by omega) _, h3, h4, h5, by simpa [CallV.cells] using hb, far (by omega) h7, ⟨y, far (by omega) h8⟩⟩
theorem CallSt.set1 (h : CallSt w0 g N w m i e c b wr) (z : Int) : CallSt w0 g N w m i e c b (wr.setCell ⟨b, 1, none⟩ (.int .i64 z)) := by
 obtain ⟨x, h0, h1, h2, h3, h4, h5, h6, h7, ⟨y, h8⟩⟩ := h
 have hb := heap_setCell_same wr b 1 _ _ (.int .i64 z) h6
 have far : ∀ {q : Nat} {o : Obj}, q ≠ b → wr.heap[q]? = some o → (wr.setCell ⟨b, 1, none⟩ (.int .i64 z)).heap[q]? = some o := fun {q o} hq hb => (heap_setCell_other wr ⟨b, 1, none⟩ q _ (fun e => hq (by simpa using e))).trans hb
 exact ⟨⟨x.k, z, x.a, x.b, x.c, x.nm⟩, h0, h1.set (by omega) (by omega), grown_new h2 (by omega) _, h3, h4, h5, by simpa [CallV.cells] using hb, far (by omega) h7, ⟨y, far (by omega) h8⟩⟩
theorem CallSt.set2 (h : CallSt w0 g N w m i e c b wr) (z : Int) : CallSt w0 g N w m i e c b (wr.setCell ⟨b, 2, none⟩ (.int .i64 z)) := by
 obtain ⟨x, h0, h1, h2, h3, h4, h5, h6, h7, ⟨y, h8⟩⟩ := h
 have hb := heap_setCell_same wr b 2 _ _ (.int .i64 z) h6
 have far : ∀ {q : Nat} {o : Obj}, q ≠ b → wr.heap[q]? = some o → (wr.setCell ⟨b, 2, none⟩ (.int .i64 z)).heap[q]? = some o := fun {q o} hq hb => (heap_setCell_other wr ⟨b, 2, none⟩ q _ (fun e => hq (by simpa using e))).trans hb
 exact ⟨⟨x.k, x.e, z, x.b, x.c, x.nm⟩, h0, h1.set (by omega) (by omega), grown_new h2 (by omega) _, h3, h4, h5, by simpa [CallV.cells] using hb, far (by omega) h7, ⟨y, far (by omega) h8⟩⟩
theorem CallSt.set3 (h : CallSt w0 g N w m i e c b wr) (z : Int) : CallSt w0 g N w m i e c b (wr.setCell ⟨b, 3, none⟩ (.int .i64 z)) := by
 obtain ⟨x, h0, h1, h2, h3, h4, h5, h6, h7, ⟨y, h8⟩⟩ := h
 have hb := heap_setCell_same wr b 3 _ _ (.int .i64 z) h6
 have far : ∀ {q : Nat} {o : Obj}, q ≠ b → wr.heap[q]? = some o → (wr.setCell ⟨b, 3, none⟩ (.int .i64 z)).heap[q]? = some o := fun {q o} hq hb => (heap_setCell_other wr ⟨b, 3, none⟩ q _ (fun e => hq (by simpa using e))).trans hb
 exact ⟨⟨x.k, x.e, x.a, z, x.c, x.nm⟩, h0, h1.set (by omega) (by omega), grown_new h2 (by omega) _, h3, h4, h5, by simpa [CallV.cells] using hb, far (by omega) h7, ⟨y, far (by omega) h8⟩⟩
theorem CallSt.set4 (h : CallSt w0 g N w m i e c b wr) (z : Int) : CallSt w0 g N w m i e c b (wr.setCell ⟨b, 4, none⟩ (.int .i64 z)) := by
 obtain ⟨x, h0, h1, h2, h3, h4, h5, h6, h7, ⟨y, h8⟩⟩ := h
 have hb := heap_setCell_same wr b 4 _ _ (.int .i64 z) h6
 have far : ∀ {q : Nat} {o : Obj}, q ≠ b → wr.heap[q]? = some o → (wr.setCell ⟨b, 4, none⟩ (.int .i64 z)).heap[q]? = some o := fun {q o} hq hb => (heap_setCell_other wr ⟨b, 4, none⟩ q _ (fun e => hq (by simpa using e))).trans hb
 exact ⟨⟨x.k, x.e, x.a, x.b, z, x.nm⟩, h0, h1.set (by omega) (by omega), grown_new h2 (by omega) _, h3, h4, h5, by simpa [CallV.cells] using hb, far (by omega) h7, ⟨y, far (by omega) h8⟩⟩
theorem CallSt.setS (h : CallSt w0 g N w m i e c b wr) (s : ByteArray) (hs : s.size ≤ 8) : CallSt w0 g N w m i e c b (wr.setCell ⟨b, 5, none⟩ (.string s)) := by
 obtain ⟨x, h0, h1, h2, h3, h4, h5, h6, h7, ⟨y, h8⟩⟩ := h
 have hb := heap_setCell_same wr b 5 _ _ (.string s) h6
 have far : ∀ {q : Nat} {o : Obj}, q ≠ b → wr.heap[q]? = some o → (wr.setCell ⟨b, 5, none⟩ (.string s)).heap[q]? = some o := fun {q o} hq hb => (heap_setCell_other wr ⟨b, 5, none⟩ q _ (fun e => hq (by simpa using e))).trans hb
 exact ⟨⟨x.k, x.e, x.a, x.b, x.c, s⟩, hs, h1.set (by omega) (by omega), grown_new h2 (by omega) _, h3, h4, h5, by simpa [CallV.cells] using hb, far (by omega) h7, ⟨y, far (by omega) h8⟩⟩
theorem CallSt.gr (h : CallSt w0 g N w m i e c b wr) : w.grownBy wr (some g) := by
 obtain ⟨x, _, _, h1, _⟩ := h
 exact h1
theorem CallSt.ne (h : CallSt w0 g N w m i e c b wr) : w.heap.size ≠ b ∧ b ≠ w.heap.size ∧ w.heap.size + 1 ≠ b ∧ b ≠ w.heap.size + 1 := by
 obtain ⟨x, _, _, _, h1, _⟩ := h
 omega
theorem set6 {w : World} {q : Nat} {x y : CallV} (h : w.heap[q]? = some (.cells y.cells 60 (0, 0))) :
 ((((((w.setCell ⟨q, 0, none⟩ (.int .i64 x.k)).setCell ⟨q, 1, none⟩ (.int .i64 x.e)).setCell ⟨q, 2, none⟩ (.int .i64 x.a)).setCell ⟨q, 3, none⟩ (.int .i64 x.b)).setCell ⟨q, 4, none⟩ (.int .i64 x.c)).setCell ⟨q, 5, none⟩ (.string x.nm)).heap[q]? = some (.cells x.cells 60 (0, 0)) := by
 have h0 := heap_setCell_same w q 0 _ _ (.int .i64 x.k) h
 have h1 := heap_setCell_same _ q 1 _ _ (.int .i64 x.e) h0
 have h2 := heap_setCell_same _ q 2 _ _ (.int .i64 x.a) h1
 have h3 := heap_setCell_same _ q 3 _ _ (.int .i64 x.b) h2
 have h4 := heap_setCell_same _ q 4 _ _ (.int .i64 x.c) h3
 have h5 := heap_setCell_same _ q 5 _ _ (.string x.nm) h4
 simpa [CallV.cells] using h5
theorem CallSt.qc (h : CallSt w0 g N w m i e c b wr) : ∃ y : CallV, wr.cell? ⟨w.heap.size + 1, 0, none⟩ = some (.int .i64 y.k) ∧ wr.cell? ⟨w.heap.size + 1, 1, none⟩ = some (.int .i64 y.e) ∧ wr.cell? ⟨w.heap.size + 1, 2, none⟩ = some (.int .i64 y.a) ∧ wr.cell? ⟨w.heap.size + 1, 3, none⟩ = some (.int .i64 y.b) ∧ wr.cell? ⟨w.heap.size + 1, 4, none⟩ = some (.int .i64 y.c) ∧ wr.cell? ⟨w.heap.size + 1, 5, none⟩ = some (.string y.nm) ∧ ∀ j, wr.frozen? ⟨w.heap.size + 1, j, none⟩ = false := by
 obtain ⟨x, _, _, _, _, _, _, _, _, ⟨y, h1⟩⟩ := h
 obtain ⟨c0, c1, c2, c3, c4, c5⟩ := call_cells h1
 exact ⟨y, c0, c1, c2, c3, c4, c5, blk_frozen h1⟩
def CallEnd (w0 : World) (g N : Nat) (w : World) (x : CallV) (W : World) : Prop :=
 (W.cell? ⟨w.heap.size + 1, 0, none⟩ = some (.int .i64 x.k) ∧ W.cell? ⟨w.heap.size + 1, 1, none⟩ = some (.int .i64 x.e) ∧ W.cell? ⟨w.heap.size + 1, 2, none⟩ = some (.int .i64 x.a) ∧ W.cell? ⟨w.heap.size + 1, 3, none⟩ = some (.int .i64 x.b) ∧ W.cell? ⟨w.heap.size + 1, 4, none⟩ = some (.int .i64 x.c) ∧ W.cell? ⟨w.heap.size + 1, 5, none⟩ = some (.string x.nm)) ∧
 DrPost w0 g N w (fun v => ∃ x : CallV, v = x.val ∧ x.nm.size ≤ 8) (.returned x.val) W
theorem CallSt.fin (h : CallSt w0 g N w m i e c b wr) (x : CallV) (hb : wr.heap[b]? = some (.cells x.cells 60 (0, 0))) (hM : N ≤ M) : CallEnd w0 g M w x ((((((wr.setCell ⟨w.heap.size + 1, 0, none⟩ (.int .i64 x.k)).setCell ⟨w.heap.size + 1, 1, none⟩ (.int .i64 x.e)).setCell ⟨w.heap.size + 1, 2, none⟩ (.int .i64 x.a)).setCell ⟨w.heap.size + 1, 3, none⟩ (.int .i64 x.b)).setCell ⟨w.heap.size + 1, 4, none⟩ (.int .i64 x.c)).setCell ⟨w.heap.size + 1, 5, none⟩ (.string x.nm)) := by
 obtain ⟨x', h0, h1, h2, h3, h4, h5, h6, h7, ⟨y, h8⟩⟩ := h
 have hx : x'.nm = x.nm := by
  rw [h6] at hb
  simp [CallV.cells] at hb
  exact hb.2.2.2.2.2
 have n1 : w.heap.size + 1 ≠ g := by omega
 have n2 : w0.heap.size ≤ w.heap.size + 1 := by omega
 have n3 : w.heap.size ≤ w.heap.size + 1 := by omega
 exact ⟨call_cells (set6 h8), _, rfl, ⟨x, rfl, hx ▸ h0⟩, ((((((h1.set n1 n2).set n1 n2).set n1 n2).set n1 n2).set n1 n2).set n1 n2).mono hM, grown_new (grown_new (grown_new (grown_new (grown_new (grown_new h2 n3 _) n3 _) n3 _) n3 _) n3 _) n3 _⟩
theorem CallSt.mono (h : CallSt w0 g N w m i e c b wr) (hm : N ≤ M) : CallSt w0 g M w m i e c b wr := by
 obtain ⟨x, h0, h1, h2⟩ := h
 exact ⟨x, h0, h1.mono hm, h2⟩
end
def unpinR (g b : Nat) (m i e c : Value) (k : Nat) (v : Value) : Prop := match k with
 | 0 => v = .pointer (some ⟨g, 0, none⟩)
 | 1 => v = .agg #[m, i, e, c]
 | 2 => v = .pointer (some ⟨g, 0, none⟩)
 | 3 => ∃ z : Int, v = .int .i64 z ∧ 0 ≤ z ∧ z < 2
 | 4 => ∃ z : Int, v = .int .i64 z
 | 5 => ∃ z : Int, v = .int .i64 z
 | 6 => v = .pointer (some ⟨b, 2, none⟩)
 | _ => True
theorem l1Put_some (f : Int) (b : Bool) (w : World) (h0 : 0 ≤ f) (h1 : f ≤ 1000) :
 Calls Tryz.prog 63 #[.int .i64 f, .bool b] w fun e w' => ∃ d : Int, e = .returned (.int .i64 d) ∧ w = w' := (l1Put_any f b w h0 h1).mono fun _ _ h => ⟨_, h⟩
set_option maxRecDepth 100000 in
set_option maxHeartbeats 8000000 in
theorem l92Call_any {w0 w : World} {g N : Nat} (m i e c : Value) (xs : List InfoV) (h : Dr w0 g N w) (hN : N ≤ 800000) (hi : ∀ w', w.grownBy w' (some g) → RdInfos w' i xs) (hl : xs.length ≤ 12) :
 Calls Tryz.prog 201 #[.pointer (some ⟨g, 0, none⟩), .agg #[m, i, e, c]] w (DrPost w0 g (N + 20) w fun v => ∃ x : CallV, v = x.val ∧ x.nm.size ≤ 8) := by
 have hlt := h.lt
 have hw0 : w0.heap.size ≤ w.heap.size := h.2.1.size
 have hi' := hi
 have Hi := Lib.hid hi; clear hi hi'
 go_enter Tryz.func201, Tryz.ntmps201
 go_wp2_with fail
 refine (((h.alloc _).alloc _).pick _ (by omega) (by decide)).mono ?_; rintro e' w1 ⟨x, rfl, hx0, hx1, h1, g1⟩
 have hx1 := hx1 (by decide)
 go_wp2_with fail
 refine (h1.pick _ (by omega) (by decide)).mono ?_; rintro e' w2 ⟨y, rfl, hy0, hy1, h2, g2⟩
 go_wp2_with fail
 refine (of_any w2.heap.size 6 [⟨#[97]⟩, ⟨#[98]⟩, ⟨#[99]⟩, ⟨#[97, 98]⟩, ⟨#[98, 98]⟩, ⟨#[97]⟩] (h2.alloc _) (by omega) rfl (by decide) (by decide) (by have := h2.lt; omega) (by simp) (fun k hk => lit_strs w2 [⟨#[97]⟩, ⟨#[98]⟩, ⟨#[99]⟩, ⟨#[97, 98]⟩, ⟨#[98, 98]⟩, ⟨#[97]⟩] _ hk)).mono ?_
 rintro e' w3 ⟨v, rfl, ⟨s, hs, rfl⟩, h3, g3⟩
 have hl8 : s.size ≤ 8 := by
  simp only [List.mem_cons, List.not_mem_nil, or_false] at hs
  rcases hs with rfl | rfl | rfl | rfl | rfl | rfl <;> decide
 go_upto_block 0 with fail
 have St : CallSt w0 g (N + 3) w m i e c w3.heap.size (w3.alloc (.cells #[.int .i64 (1 + x), .int .i64 y, .int .i64 0, .int .i64 0, .int .i64 0, .string s] 60)) := by
  have G := grown_trans (grown_trans g1 g2) (grown_trans (grown_below (below1 _ _) _) g3)
  have hz := G.size
  simp at hz
  have B1 := heap_alloc_new (w.alloc (.cells #[m, i, e, c] 33)) (.cells #[.int .i64 0, .int .i64 0, .int .i64 0, .int .i64 0, .int .i64 0, .string ⟨#[]⟩] 60)
  have B0 := blk_below (heap_alloc_new w (.cells #[m, i, e, c] 33)) (below1 _ (.cells #[.int .i64 0, .int .i64 0, .int .i64 0, .int .i64 0, .int .i64 0, .string ⟨#[]⟩] 60))
  simp only [World.size_alloc] at B1
  have far : ∀ {q : Nat} {o : Obj}, w.heap.size ≤ q → ((w.alloc (.cells #[m, i, e, c] 33)).alloc (.cells #[.int .i64 0, .int .i64 0, .int .i64 0, .int .i64 0, .int .i64 0, .string ⟨#[]⟩] 60)).heap[q]? = some o → (w3.alloc (.cells #[.int .i64 (1 + x), .int .i64 y, .int .i64 0, .int .i64 0, .int .i64 0, .string s] 60)).heap[q]? = some o := fun {q o} hq hb => blk_below ((G.block q (blk_lt hb) (by simp; omega)).trans hb) (below1 _ _)
  exact ⟨⟨1 + x, y, 0, 0, 0, s⟩, hl8, h3.alloc _, grown_alloc (grown_trans (grown_below (below2 _ _ _) _) G) _, by omega, hlt, hw0, heap_alloc_new _ _, far (Nat.le_refl _) B0, ⟨⟨0, 0, 0, 0, 0, ⟨#[]⟩⟩, far (by omega) B1⟩⟩
 clear h1 h2 h3 g1 g2 g3 h hs
 generalize w3.alloc (.cells #[.int .i64 (1 + x), .int .i64 y, .int .i64 0, .int .i64 0, .int .i64 0, .string s] 60) = wr at St
 generalize w3.heap.size = b at St
 obtain ⟨hbne, hbne', hbne1, hbne1'⟩ := St.ne
 go_cut [] (fun wx => CallSt w0 g (N + 12) w m i e c b wx)
 case first =>
  rcases (show x = 0 ∨ x = 1 ∨ x = 2 ∨ x = 3 ∨ x = 4 ∨ x = 5 ∨ x = 6 ∨ x = 7 ∨ x = 8 ∨ x = 9 ∨ x = 10 by omega) with rfl | rfl | rfl | rfl | rfl | rfl | rfl | rfl | rfl | rfl | rfl
  ·go_wp2_with fail
   go_meet
   exact St.mono (by omega)
  ·obtain ⟨k0, k1, k2, k3⟩ := St.kc
   go_wp2_with fail
   refine (l92Kind_any m i e c xs _ St.dr (by omega) (Hi.out _ St.gr) hl).mono ?_; rintro e' w4 ⟨v, rfl, ⟨z, rfl, z0, z1⟩, h4, g4⟩
   replace St := St.draw h4 g4
   clear h4 g4 k0 k1 k2 k3
   obtain ⟨x1, c0, c1, c2, c3, c4, c5, hf, hBx⟩ := St.cc
   go_wp2_with fail
   go_meet
   exact (St.set2 _).mono (by omega)
  ·obtain ⟨k0, k1, k2, k3⟩ := St.kc
   go_wp2_with fail
   refine (l92Kind_any m i e c xs _ St.dr (by omega) (Hi.out _ St.gr) hl).mono ?_; rintro e' w4 ⟨v, rfl, ⟨z, rfl, z0, z1⟩, h4, g4⟩
   replace St := St.draw h4 g4
   clear h4 g4 k0 k1 k2 k3
   obtain ⟨x1, c0, c1, c2, c3, c4, c5, hf, hBx⟩ := St.cc
   go_wp2_with fail
   refine ((St.set2 _).dr.pick _ (by omega) (by decide)).mono ?_; rintro e' w4 ⟨z, rfl, z0, z1, h4, g4⟩
   replace z1 := z1 (by decide)
   replace St := (St.set2 _).draw h4 g4
   clear h4 g4 c0 c1 c2 c3 c4 c5 hf hBx
   obtain ⟨x1, c0, c1, c2, c3, c4, c5, hf, hBx⟩ := St.cc
   go_wp2_with fail
   refine ((St.set3 _).dr.pick _ (by omega) (by decide)).mono ?_; rintro e' w4 ⟨p, rfl, p0, p1, h4, g4⟩
   replace p1 := p1 (by decide)
   replace St := (St.set3 _).draw h4 g4
   clear h4 g4 c0 c1 c2 c3 c4 c5 hf hBx
   go_wp2_with fail
   refine (St.dr.pick _ (by omega) (by decide)).mono ?_; rintro e' w4 ⟨q, rfl, q0, q1, h4, g4⟩
   replace q1 := q1 (by decide)
   replace St := St.draw h4 g4
   clear h4 g4
   rcases (show p = 0 ∨ p = 1 by omega) with rfl | rfl
   ·obtain ⟨x1, c0, c1, c2, c3, c4, c5, hf, hBx⟩ := St.cc
    go_wp2_with fail
    go_meet
    exact (St.set4 _).mono (by omega)
   ·obtain ⟨x1, c0, c1, c2, c3, c4, c5, hf, hBx⟩ := St.cc
    go_wp2_with fail
    go_meet
    exact (St.set4 _).mono (by omega)
  ·obtain ⟨k0, k1, k2, k3⟩ := St.kc
   go_wp2_with fail
   refine (l92Kind_any m i e c xs _ St.dr (by omega) (Hi.out _ St.gr) hl).mono ?_; rintro e' w4 ⟨v, rfl, ⟨z, rfl, z0, z1⟩, h4, g4⟩
   replace St := St.draw h4 g4
   clear h4 g4 k0 k1 k2 k3
   obtain ⟨x1, c0, c1, c2, c3, c4, c5, hf, hBx⟩ := St.cc
   go_wp2_with fail
   refine ((St.set2 _).dr.pick _ (by omega) (by decide)).mono ?_; rintro e' w4 ⟨z, rfl, z0, z1, h4, g4⟩
   replace z1 := z1 (by decide)
   replace St := (St.set2 _).draw h4 g4
   clear h4 g4 c0 c1 c2 c3 c4 c5 hf hBx
   obtain ⟨x1, c0, c1, c2, c3, c4, c5, hf, hBx⟩ := St.cc
   go_wp2_with fail
   go_meet
   exact (St.set3 _).mono (by omega)
  ·go_wp2_with fail
   refine wp_region_posts 7 Tryz.mixed (by kernel_rfl) 152 rfl (by kernel_rfl) (fun k v _ => unpinR g b m i e c k v) (fun L wr => (L 3 = false → CallSt w0 g (N + 3) w m i e c b wr) ∧ (L 5 = false → CallSt w0 g (N + 4) w m i e c b wr) ∧ CallSt w0 g (N + 5) w m i e c b wr) ?_ ?_ ?_
   ·have Sd := St.draw (St.dr.below (below_drewN (Below.refl _ _) 1)) (grown_below (below_drewN (Below.refl _ _) 1) _)
    exact ⟨fun _ => Sd, fun _ => Sd.mono (by omega), Sd.mono (by omega)⟩
   ·intro k hk o ho a w5 Hb Hd L HL hG K HK
    match k, hk with
    | 0, _ =>
     obtain rfl := Option.some.inj ho
     have e0 : a.tmps[0]?.getD undef = .pointer (some ⟨g, 0, none⟩) := by rw [Hb.out.2.2 0 (by decide)]; rfl
     clear Hd Hb
     refine Does.of rfl ?_
     go_simp
     exact HK.out _ _ rfl ⟨fun h => hG.1 (upd_no h), fun h => hG.2.1 (upd_no h), hG.2.2⟩ (fun j u _ _ _ h => h)
    | 1, _ =>
     obtain rfl := Option.some.inj ho
     have e3 : a.tmps[3]?.getD undef = .pointer (some ⟨w.heap.size, 0, none⟩) := by rw [Hb.out.2.2 3 (by decide)]; rfl
     clear Hd Hb
     refine Does.of rfl ?_
     obtain ⟨k0, k1, k2, k3⟩ := hG.2.2.kc
     go_simp
     exact HK.out _ _ rfl ⟨fun h => hG.1 (upd_no h), fun h => hG.2.1 (upd_no h), hG.2.2⟩ (fun j u _ _ _ h => h)
    | 2, _ =>
     obtain rfl := Option.some.inj ho
     have e0 : a.tmps[0]?.getD undef = .pointer (some ⟨g, 0, none⟩) := by rw [Hb.out.2.2 0 (by decide)]; rfl
     clear Hd Hb
     refine Does.of rfl ?_
     go_simp
     exact HK.out _ _ rfl ⟨fun h => hG.1 (upd_no h), fun h => hG.2.1 (upd_no h), hG.2.2⟩ (fun j u _ _ _ h => h)
    | 3, _ =>
     obtain rfl := Option.some.inj ho
     have d2 := Hd.out 2 (by kernel_rfl)
     change a.tmps[53]?.getD undef = .pointer (some ⟨g, 0, none⟩) at d2
     clear Hd Hb
     refine Does.of rfl ?_
     have S3 := hG.1 HL.out.1
     go_simp
     refine (S3.dr.pick _ (by omega) (by decide)).mono ?_; rintro e' w6 ⟨z, rfl, z0, z1, h6, g6⟩
     have S4 := S3.draw h6 g6
     exact HK.out _ _ ⟨z, rfl, z0, z1 (by decide)⟩ ⟨fun h => by simp [upd] at h, fun _ => S4, S4.mono (by omega)⟩ (fun j u _ _ _ h => h)
    | 4, _ =>
     obtain rfl := Option.some.inj ho
     have d3 := Hd.out 3 (by kernel_rfl)
     change ∃ z : Int, a.tmps[54]?.getD undef = .int .i64 z ∧ 0 ≤ z ∧ z < 2 at d3
     clear Hd Hb
     refine Does.of rfl ?_
     obtain ⟨z, d3, z0, z1⟩ := d3
     go_simp
     exact HK.out _ _ ⟨_, rfl⟩ ⟨fun h => hG.1 (upd_no h), fun h => hG.2.1 (upd_no h), hG.2.2⟩ (fun j u _ _ _ h => h)
    | 5, _ =>
     obtain rfl := Option.some.inj ho
     have d0 := Hd.out 0 (by kernel_rfl)
     change a.tmps[51]?.getD undef = .pointer (some ⟨g, 0, none⟩) at d0
     have d1 := Hd.out 1 (by kernel_rfl)
     change a.tmps[52]?.getD undef = .agg #[m, i, e, c] at d1
     have d4 := Hd.out 4 (by kernel_rfl)
     change ∃ z : Int, a.tmps[55]?.getD undef = .int .i64 z at d4
     clear Hd Hb
     refine Does.of rfl ?_
     obtain ⟨z, d4⟩ := d4
     have S4 := hG.2.1 HL.out.1
     go_simp
     refine (l92Kind_any m i e c xs _ S4.dr (by omega) (Hi.out _ S4.gr) hl).mono ?_; rintro e' w6 ⟨v, rfl, ⟨z', rfl, _, _⟩, h6, g6⟩
     have S5 := S4.draw h6 g6
     have l3 : L 3 = true := HL.out.2.2 4 3 (HL.out.2.1 4 (by kernel_rfl)) (by kernel_rfl)
     exact HK.out _ _ ⟨_, rfl⟩ ⟨(fun h => by rw [upd_no h] at l3; cases l3), fun h => by simp [upd] at h, S5.mono (by omega)⟩ (fun j u _ _ _ h => h)
    | 6, _ =>
     obtain rfl := Option.some.inj ho
     have e5 : a.tmps[5]?.getD undef = .pointer (some ⟨b, 0, none⟩) := by rw [Hb.out.2.2 5 (by decide)]; rfl
     clear Hd Hb
     refine Does.of rfl ?_
     go_simp
     exact HK.out _ _ rfl ⟨fun h => hG.1 (upd_no h), fun h => hG.2.1 (upd_no h), hG.2.2⟩ (fun j u _ _ _ h => h)
   ·intro ys w5 hR L hL hG
    obtain ⟨z, hz⟩ := hR 5 (by decide)
    have h6 : ys 6 = .pointer (some ⟨b, 2, none⟩) := hR 6 (by decide)
    replace St := hG.2.2
    clear hR hL hG
    simp only [fillAt, dstOf, List.range, List.range.loop, List.foldl_cons, List.foldl_nil, hz, h6]
    simp
    generalize ys 0 = z0
    generalize ys 1 = z1
    generalize ys 2 = z2
    generalize ys 3 = z3
    generalize ys 4 = z4
    clear hz h6
    obtain ⟨x1, c0, c1, c2, c3, c4, c5, hf, hBx⟩ := St.cc
    go_wp2_with fail
    go_meet
    exact (St.set2 _).mono (by omega)
  ·go_wp2_with fail
   refine (St.dr.pick _ (by omega) (by decide)).mono ?_; rintro e' w4 ⟨p, rfl, p0, p1, h4, g4⟩
   replace p1 := p1 (by decide)
   replace St := St.draw h4 g4
   clear h4 g4
   obtain ⟨k0, k1, k2, k3⟩ := St.kc
   go_wp2_with fail
   refine (l92Kind_any m i e c xs _ St.dr (by omega) (Hi.out _ St.gr) hl).mono ?_; rintro e' w4 ⟨v, rfl, ⟨z, rfl, z0, z1⟩, h4, g4⟩
   replace St := St.draw h4 g4
   clear h4 g4 k0 k1 k2 k3
   obtain ⟨x1, c0, c1, c2, c3, c4, c5, hf, hBx⟩ := St.cc
   go_wp2_with fail
   refine ((St.set2 _).dr.pick _ (by omega) (by decide)).mono ?_; rintro e' w4 ⟨z, rfl, z0, z1, h4, g4⟩
   replace z1 := z1 (by decide)
   replace St := (St.set2 _).draw h4 g4
   clear h4 g4 c0 c1 c2 c3 c4 c5 hf hBx
   obtain ⟨k0, k1, k2, k3⟩ := St.kc
   obtain ⟨x1, c0, c1, c2, c3, c4, c5, hf, hBx⟩ := St.cc
   go_wp2_with fail
   refine (l92Kind_any m i e c xs _ (St.set3 _).dr (by omega) (Hi.out _ (St.set3 _).gr) hl).mono ?_; rintro e' w4 ⟨v, rfl, ⟨f, rfl, f0, f1⟩, h4, g4⟩
   replace St := (St.set3 _).draw h4 g4
   clear h4 g4 k0 k1 k2 k3 c0 c1 c2 c3 c4 c5 hf hBx
   go_wp2_with fail
   refine (St.dr.pick _ (by omega) (by decide)).mono ?_; rintro e' w4 ⟨t, rfl, t0, t1, h4, g4⟩
   replace t1 := t1 (by decide)
   replace St := St.draw h4 g4
   clear h4 g4
   go_wp2_with fail
   refine (l1Put_some f _ _ (by omega) (by omega)).mono ?_; rintro e' w4 ⟨d, rfl, rfl⟩
   obtain ⟨x1, c0, c1, c2, c3, c4, c5, hf, hBx⟩ := St.cc
   go_wp2_with fail
   refine ((St.set4 _).dr.pick _ (by omega) (by decide)).mono ?_; rintro e' w4 ⟨u, rfl, u0, u1, h4, g4⟩
   replace u1 := u1 (by decide)
   replace St := (St.set4 _).draw h4 g4
   clear h4 g4 c0 c1 c2 c3 c4 c5 hf hBx
   by_cases hu : u = 0
   ·subst hu
    go_wp2_with fail
    refine (l91Entry_any St.dr (by omega)).mono ?_; rintro e' w4 ⟨v, rfl, ⟨z', rfl, _, _⟩, h4, g4⟩
    replace St := St.draw h4 g4
    clear h4 g4
    obtain ⟨x1, c0, c1, c2, c3, c4, c5, hf, hBx⟩ := St.cc
    go_wp2_with fail
    go_meet
    exact (St.set4 _).mono (by omega)
   ·have t0 : (u == 0) = false := by simp [hu]
    clear hu
    go_wp2_with fail
    go_meet
    exact St.mono (by omega)
  ·obtain ⟨k0, k1, k2, k3⟩ := St.kc
   go_wp2_with fail
   refine (l92Kind_any m i e c xs _ St.dr (by omega) (Hi.out _ St.gr) hl).mono ?_; rintro e' w4 ⟨v, rfl, ⟨z, rfl, z0, z1⟩, h4, g4⟩
   replace St := St.draw h4 g4
   clear h4 g4 k0 k1 k2 k3
   obtain ⟨x1, c0, c1, c2, c3, c4, c5, hf, hBx⟩ := St.cc
   go_wp2_with fail
   refine ((St.set2 _).dr.pick _ (by omega) (by decide)).mono ?_; rintro e' w4 ⟨u, rfl, u0, u1, h4, g4⟩
   replace u1 := u1 (by decide)
   replace St := (St.set2 _).draw h4 g4
   clear h4 g4 c0 c1 c2 c3 c4 c5 hf hBx
   by_cases hu : u = 0
   ·subst hu
    obtain ⟨x1, c0, c1, c2, c3, c4, c5, hf, hBx⟩ := St.cc
    go_wp2_with fail
    go_meet
    exact (St.set2 _).mono (by omega)
   ·have t0 : (u == 0) = false := by simp [hu]
    clear hu
    go_wp2_with fail
    go_meet
    exact St.mono (by omega)
  ·go_wp2_with fail
   refine (St.dr.pick _ (by omega) (by decide)).mono ?_; rintro e' w4 ⟨z, rfl, z0, z1, h4, g4⟩
   replace z1 := z1 (by decide)
   replace St := St.draw h4 g4
   clear h4 g4
   obtain ⟨x1, c0, c1, c2, c3, c4, c5, hf, hBx⟩ := St.cc
   go_wp2_with fail
   go_meet
   exact (St.set2 _).mono (by omega)
  ·go_wp2_with fail
   refine (St.dr.pick _ (by omega) (by decide)).mono ?_; rintro e' w4 ⟨z, rfl, z0, z1, h4, g4⟩
   replace z1 := z1 (by decide)
   replace St := St.draw h4 g4
   clear h4 g4
   obtain ⟨x1, c0, c1, c2, c3, c4, c5, hf, hBx⟩ := St.cc
   go_wp2_with fail
   go_meet
   exact (St.set2 _).mono (by omega)
  ·go_wp2_with fail
   refine (St.dr.pick _ (by omega) (by decide)).mono ?_; rintro e' w4 ⟨p, rfl, p0, p1, h4, g4⟩
   replace p1 := p1 (by decide)
   replace St := St.draw h4 g4
   clear h4 g4
   go_wp2_with fail
   refine (St.dr.pick _ (by omega) (by decide)).mono ?_; rintro e' w4 ⟨q, rfl, q0, q1, h4, g4⟩
   replace q1 := q1 (by decide)
   replace St := St.draw h4 g4
   clear h4 g4
   go_wp2_with fail
   refine (St.dr.pick _ (by omega) (by decide)).mono ?_; rintro e' w4 ⟨r, rfl, r0, r1, h4, g4⟩
   replace r1 := r1 (by decide)
   replace St := St.draw h4 g4
   clear h4 g4
   rcases (show p = 0 ∨ p = 1 by omega) with rfl | rfl
   ·obtain ⟨x1, c0, c1, c2, c3, c4, c5, hf, hBx⟩ := St.cc
    go_wp2_with fail
    refine ((St.set2 _).dr.pick _ (by omega) (by decide)).mono ?_; rintro e' w4 ⟨z, rfl, z0, z1, h4, g4⟩
    replace z1 := z1 (by decide)
    replace St := (St.set2 _).draw h4 g4
    clear h4 g4 c0 c1 c2 c3 c4 c5 hf hBx
    obtain ⟨x1, c0, c1, c2, c3, c4, c5, hf, hBx⟩ := St.cc
    go_wp2_with fail
    go_meet
    exact (St.set3 _).mono (by omega)
   ·obtain ⟨x1, c0, c1, c2, c3, c4, c5, hf, hBx⟩ := St.cc
    go_wp2_with fail
    refine ((St.set2 _).dr.pick _ (by omega) (by decide)).mono ?_; rintro e' w4 ⟨z, rfl, z0, z1, h4, g4⟩
    replace z1 := z1 (by decide)
    replace St := (St.set2 _).draw h4 g4
    clear h4 g4 c0 c1 c2 c3 c4 c5 hf hBx
    obtain ⟨x1, c0, c1, c2, c3, c4, c5, hf, hBx⟩ := St.cc
    go_wp2_with fail
    go_meet
    exact (St.set3 _).mono (by omega)
  ·go_wp2_with fail
   refine (St.dr.pick _ (by omega) (by decide)).mono ?_; rintro e' w4 ⟨p, rfl, p0, p1, h4, g4⟩
   replace p1 := p1 (by decide)
   replace St := St.draw h4 g4
   clear h4 g4
   go_wp2_with fail
   refine (St.dr.pick _ (by omega) (by decide)).mono ?_; rintro e' w4 ⟨q, rfl, q0, q1, h4, g4⟩
   replace q1 := q1 (by decide)
   replace St := St.draw h4 g4
   clear h4 g4
   go_wp2_with fail
   refine (St.dr.pick _ (by omega) (by decide)).mono ?_; rintro e' w4 ⟨r, rfl, r0, r1, h4, g4⟩
   replace r1 := r1 (by decide)
   replace St := St.draw h4 g4
   clear h4 g4
   rcases (show p = 0 ∨ p = 1 by omega) with rfl | rfl
   ·obtain ⟨x1, c0, c1, c2, c3, c4, c5, hf, hBx⟩ := St.cc
    go_wp2_with fail
    refine ((St.set2 _).dr.pick _ (by omega) (by decide)).mono ?_; rintro e' w4 ⟨z, rfl, z0, z1, h4, g4⟩
    replace z1 := z1 (by decide)
    replace St := (St.set2 _).draw h4 g4
    clear h4 g4 c0 c1 c2 c3 c4 c5 hf hBx
    obtain ⟨x1, c0, c1, c2, c3, c4, c5, hf, hBx⟩ := St.cc
    go_wp2_with fail
    go_meet
    exact (St.set3 _).mono (by omega)
   ·obtain ⟨x1, c0, c1, c2, c3, c4, c5, hf, hBx⟩ := St.cc
    go_wp2_with fail
    refine ((St.set2 _).dr.pick _ (by omega) (by decide)).mono ?_; rintro e' w4 ⟨z, rfl, z0, z1, h4, g4⟩
    replace z1 := z1 (by decide)
    replace St := (St.set2 _).draw h4 g4
    clear h4 g4 c0 c1 c2 c3 c4 c5 hf hBx
    obtain ⟨x1, c0, c1, c2, c3, c4, c5, hf, hBx⟩ := St.cc
    go_wp2_with fail
    go_meet
    exact (St.set3 _).mono (by omega)
 case rest =>
  clear St
  have St := hcut
  go_wp2_with fail
  refine (St.dr.pick _ (by omega) (by decide)).mono ?_; rintro e' w4 ⟨q, rfl, q0, q1, h4, g4⟩
  replace q1 := q1 (by decide)
  replace St := St.draw h4 g4
  clear h4 g4
  by_cases q0' : q = 0
  ·subst q0'
   go_wp2_with fail
   refine (St.dr.pick _ (by omega) (by decide)).mono ?_; rintro e' w4 ⟨z, rfl, z0, z1, h4, g4⟩
   replace z1 := z1 (by decide)
   replace St := St.draw h4 g4
   clear h4 g4
   obtain ⟨x1, c0, c1, c2, c3, c4, c5, hf, hBx⟩ := St.cc
   obtain ⟨y1, d0, d1, d2, d3, d4, d5, hf'⟩ := St.qc
   go_wp2_with fail
   obtain ⟨⟨E0, E1, E2, E3, E4, E5⟩, Fin⟩ := CallSt.fin (M := N + 20) (St.set0 (z - 1)) ⟨z - 1, x1.e, x1.a, x1.b, x1.c, x1.nm⟩ (by have := heap_setCell_same w4 b 0 _ _ (.int .i64 (z - 1)) hBx.out; simpa [CallV.cells] using this) (by omega)
   exact bodyPost_ret (v := .agg #[_, _, _, _, _, _]) (by simp [results, Tryz.results201, go_sem, E0, E1, E2, E3, E4, E5]) rfl Fin
  by_cases q1' : q = 1
  ·subst q1'
   go_wp2_with fail
   refine (St.dr.pick _ (by omega) (by decide)).mono ?_; rintro e' w4 ⟨z, rfl, z0, z1, h4, g4⟩
   replace z1 := z1 (by decide)
   replace St := St.draw h4 g4
   clear h4 g4
   obtain ⟨x1, c0, c1, c2, c3, c4, c5, hf, hBx⟩ := St.cc
   obtain ⟨y1, d0, d1, d2, d3, d4, d5, hf'⟩ := St.qc
   go_wp2_with fail
   obtain ⟨⟨E0, E1, E2, E3, E4, E5⟩, Fin⟩ := CallSt.fin (M := N + 20) (St.set2 (z - 2)) ⟨x1.k, x1.e, z - 2, x1.b, x1.c, x1.nm⟩ (by have := heap_setCell_same w4 b 2 _ _ (.int .i64 (z - 2)) hBx.out; simpa [CallV.cells] using this) (by omega)
   exact bodyPost_ret (v := .agg #[_, _, _, _, _, _]) (by simp [results, Tryz.results201, go_sem, E0, E1, E2, E3, E4, E5]) rfl Fin
  by_cases q2' : q = 2
  ·subst q2'
   go_wp2_with fail
   refine (St.dr.pick _ (by omega) (by decide)).mono ?_; rintro e' w4 ⟨z, rfl, z0, z1, h4, g4⟩
   replace z1 := z1 (by decide)
   replace St := St.draw h4 g4
   clear h4 g4
   obtain ⟨x1, c0, c1, c2, c3, c4, c5, hf, hBx⟩ := St.cc
   obtain ⟨y1, d0, d1, d2, d3, d4, d5, hf'⟩ := St.qc
   go_wp2_with fail
   obtain ⟨⟨E0, E1, E2, E3, E4, E5⟩, Fin⟩ := CallSt.fin (M := N + 20) (St.set3 (z - 1)) ⟨x1.k, x1.e, x1.a, z - 1, x1.c, x1.nm⟩ (by have := heap_setCell_same w4 b 3 _ _ (.int .i64 (z - 1)) hBx.out; simpa [CallV.cells] using this) (by omega)
   exact bodyPost_ret (v := .agg #[_, _, _, _, _, _]) (by simp [results, Tryz.results201, go_sem, E0, E1, E2, E3, E4, E5]) rfl Fin
  by_cases q3' : q = 3
  ·subst q3'
   go_wp2_with fail
   refine (l91Right_any St.dr (by omega)).mono ?_; rintro e' w4 ⟨v, rfl, ⟨s', hs, rfl⟩, h4, g4⟩
   replace St := St.draw h4 g4
   clear h4 g4
   obtain ⟨x1, c0, c1, c2, c3, c4, c5, hf, hBx⟩ := St.cc
   obtain ⟨y1, d0, d1, d2, d3, d4, d5, hf'⟩ := St.qc
   go_wp2_with fail
   obtain ⟨⟨E0, E1, E2, E3, E4, E5⟩, Fin⟩ := CallSt.fin (M := N + 20) (St.setS s' hs) ⟨x1.k, x1.e, x1.a, x1.b, x1.c, s'⟩ (by have := heap_setCell_same w4 b 5 _ _ (.string s') hBx.out; simpa [CallV.cells] using this) (by omega)
   exact bodyPost_ret (v := .agg #[_, _, _, _, _, _]) (by simp [results, Tryz.results201, go_sem, E0, E1, E2, E3, E4, E5]) rfl Fin
  by_cases q4' : q = 4
  ·subst q4'
   go_wp2_with fail
   have StA := St.draw (St.dr.alloc (.cells #[.int .i64 (-1), .int .i64 10000, .int .i64 2, .int .i64 49] 3)) (grown_below (below1 _ _) _)
   have hgl := St.dr.lt
   refine (StA.dr.pick _ (by omega) (by decide)).mono ?_; rintro e' w5 ⟨z, rfl, z0, z1, h5, g5⟩
   replace z1 := z1 (by decide)
   replace St := StA.draw h5 g5
   have l0 := lit_after (j := 0) g5 hgl rfl
   have l1 := lit_after (j := 1) g5 hgl rfl
   have l2 := lit_after (j := 2) g5 hgl rfl
   have l3 := lit_after (j := 3) g5 hgl rfl
   clear h5 g5 StA hgl
   obtain ⟨x1, c0, c1, c2, c3, c4, c5, hf, hBx⟩ := St.cc
   rcases (show z = 0 ∨ z = 1 ∨ z = 2 ∨ z = 3 by omega) with rfl | rfl | rfl | rfl
   ·obtain ⟨y1, d0, d1, d2, d3, d4, d5, hf'⟩ := St.qc
    go_wp2_with fail
    obtain ⟨⟨E0, E1, E2, E3, E4, E5⟩, Fin⟩ := CallSt.fin (M := N + 20) (St.set4 (-1)) ⟨x1.k, x1.e, x1.a, x1.b, -1, x1.nm⟩ (by have := heap_setCell_same w5 b 4 _ _ (.int .i64 (-1)) hBx.out; simpa [CallV.cells] using this) (by omega)
    exact bodyPost_ret (v := .agg #[_, _, _, _, _, _]) (by simp [results, Tryz.results201, go_sem, E0, E1, E2, E3, E4, E5]) rfl Fin
   ·obtain ⟨y1, d0, d1, d2, d3, d4, d5, hf'⟩ := St.qc
    go_wp2_with fail
    obtain ⟨⟨E0, E1, E2, E3, E4, E5⟩, Fin⟩ := CallSt.fin (M := N + 20) (St.set4 (10000)) ⟨x1.k, x1.e, x1.a, x1.b, 10000, x1.nm⟩ (by have := heap_setCell_same w5 b 4 _ _ (.int .i64 (10000)) hBx.out; simpa [CallV.cells] using this) (by omega)
    exact bodyPost_ret (v := .agg #[_, _, _, _, _, _]) (by simp [results, Tryz.results201, go_sem, E0, E1, E2, E3, E4, E5]) rfl Fin
   ·obtain ⟨y1, d0, d1, d2, d3, d4, d5, hf'⟩ := St.qc
    go_wp2_with fail
    obtain ⟨⟨E0, E1, E2, E3, E4, E5⟩, Fin⟩ := CallSt.fin (M := N + 20) (St.set4 (2)) ⟨x1.k, x1.e, x1.a, x1.b, 2, x1.nm⟩ (by have := heap_setCell_same w5 b 4 _ _ (.int .i64 (2)) hBx.out; simpa [CallV.cells] using this) (by omega)
    exact bodyPost_ret (v := .agg #[_, _, _, _, _, _]) (by simp [results, Tryz.results201, go_sem, E0, E1, E2, E3, E4, E5]) rfl Fin
   ·obtain ⟨y1, d0, d1, d2, d3, d4, d5, hf'⟩ := St.qc
    go_wp2_with fail
    obtain ⟨⟨E0, E1, E2, E3, E4, E5⟩, Fin⟩ := CallSt.fin (M := N + 20) (St.set4 (49)) ⟨x1.k, x1.e, x1.a, x1.b, 49, x1.nm⟩ (by have := heap_setCell_same w5 b 4 _ _ (.int .i64 (49)) hBx.out; simpa [CallV.cells] using this) (by omega)
    exact bodyPost_ret (v := .agg #[_, _, _, _, _, _]) (by simp [results, Tryz.results201, go_sem, E0, E1, E2, E3, E4, E5]) rfl Fin
  have t0 : (q == 0) = false := by simp [q0']
  have t1 : (q == 1) = false := by simp [q1']
  have t2 : (q == 2) = false := by simp [q2']
  have t3 : (q == 3) = false := by simp [q3']
  have t4 : (q == 4) = false := by simp [q4']
  clear q0' q1' q2' q3' q4'
  obtain ⟨x1, c0, c1, c2, c3, c4, c5, hf, hBx⟩ := St.cc
  obtain ⟨y1, d0, d1, d2, d3, d4, d5, hf'⟩ := St.qc
  go_wp2_with fail
  obtain ⟨⟨E0, E1, E2, E3, E4, E5⟩, Fin⟩ := CallSt.fin (M := N + 20) St x1 hBx.out (by omega)
  exact bodyPost_ret (v := .agg #[_, _, _, _, _, _]) (by simp [results, Tryz.results201, go_sem, E0, E1, E2, E3, E4, E5]) rfl Fin
set_option maxRecDepth 100000 in
set_option maxHeartbeats 8000000 in
theorem l92Other_any {w0 w : World} {g N : Nat} (m i e c : Value) (xs : List InfoV) (h : Dr w0 g N w) (hN : N ≤ 700000) (hi : ∀ w', w.grownBy w' (some g) → RdInfos w' i xs) (hl : xs.length ≤ 12) :
 Calls Tryz.prog 152 #[.pointer (some ⟨g, 0, none⟩), .agg #[m, i, e, c]] w (DrPost w0 g (N + 30) w fun v => ∃ x : CallV, v = x.val ∧ x.nm.size ≤ 8) := by
 have hlt := h.lt
 have hw0 : w0.heap.size ≤ w.heap.size := h.2.1.size
 have Hi := Lib.hid hi; clear hi
 go_enter Tryz.func152, Tryz.ntmps152
 go_wp2_with fail
 have gA := grown_below (below2 w (.cells #[m, i, e, c] 33) (.cells #[.int .i64 0, .int .i64 0, .int .i64 0, .int .i64 0, .int .i64 0, .string ⟨#[]⟩] 60)) (some g)
 refine (l92Call_any m i e c xs ((h.alloc _).alloc _) (by omega) (fun w' hg => Hi.out w' (grown_trans gA hg)) hl).mono ?_; rintro e' w1 ⟨v, rfl, ⟨x, rfl, hx⟩, h1, g1⟩
 have St : CallSt w0 g (N + 20) w m i e c w1.heap.size (w1.alloc (.cells x.cells 60)) := by
  have hz := g1.size
  simp at hz
  have B1 := heap_alloc_new (w.alloc (.cells #[m, i, e, c] 33)) (.cells #[.int .i64 0, .int .i64 0, .int .i64 0, .int .i64 0, .int .i64 0, .string ⟨#[]⟩] 60)
  have B0 := blk_below (heap_alloc_new w (.cells #[m, i, e, c] 33)) (below1 _ (.cells #[.int .i64 0, .int .i64 0, .int .i64 0, .int .i64 0, .int .i64 0, .string ⟨#[]⟩] 60))
  simp only [World.size_alloc] at B1
  have far : ∀ {q : Nat} {o : Obj}, w.heap.size ≤ q → ((w.alloc (.cells #[m, i, e, c] 33)).alloc (.cells #[.int .i64 0, .int .i64 0, .int .i64 0, .int .i64 0, .int .i64 0, .string ⟨#[]⟩] 60)).heap[q]? = some o → (w1.alloc (.cells x.cells 60)).heap[q]? = some o := fun {q o} hq hb => blk_below ((g1.block q (blk_lt hb) (by simp; omega)).trans hb) (below1 _ _)
  exact ⟨x, hx, h1.alloc _, grown_alloc (grown_trans gA g1) _, by omega, hlt, hw0, heap_alloc_new _ _, far (Nat.le_refl _) B0, ⟨⟨0, 0, 0, 0, 0, ⟨#[]⟩⟩, far (by omega) B1⟩⟩
 clear h1 g1 h gA
 simp only [CallV.val, CallV.cells] at St ⊢
 go_wp2_with fail
 generalize w1.alloc (.cells #[.int .i64 x.k, .int .i64 x.e, .int .i64 x.a, .int .i64 x.b, .int .i64 x.c, .string x.nm] 60) = wr at St ⊢
 generalize w1.heap.size = b at St ⊢
 obtain ⟨hbne, hbne', hbne1, hbne1'⟩ := St.ne
 obtain ⟨hbne, hbne', hbne1, hbne1'⟩ := St.ne
 refine (St.dr.pick _ (by omega) (by decide)).mono ?_; rintro e' w4 ⟨z, rfl, z0, z1, h4, g4⟩
 replace z1 := z1 (by decide)
 replace St := St.draw h4 g4
 clear h4 g4
 obtain ⟨x1, c0, c1, c2, c3, c4, c5, hf, hBx⟩ := St.cc
 by_cases hk : x1.k = 1
 ·have t0 : (x1.k == 1) = true := by simp [hk]
  clear hk
  go_wp2_with fail
  refine ((St.set1 _).dr.pick _ (by omega) (by decide)).mono ?_; rintro e' w5 ⟨u, rfl, u0, u1, h5, g5⟩
  replace u1 := u1 (by decide)
  replace St := (St.set1 _).draw h5 g5
  clear h5 g5 c0 c1 c2 c3 c4 c5 hf hBx t0
  by_cases hu : 0 < u
  ·go_wp2_with fail
   have StA := St.draw (St.dr.alloc (.cells #[.string ⟨#[98]⟩, .string ⟨#[99]⟩] 9)) (grown_below (below1 _ _) _)
   refine (of_any w5.heap.size 2 [⟨#[98]⟩, ⟨#[99]⟩] StA.dr (by omega) rfl (by decide) (by decide) (by have := St.dr.lt; omega) (by simp) (fun k hk => lit_strs w5 [⟨#[98]⟩, ⟨#[99]⟩] _ hk)).mono ?_
   rintro e' w6 ⟨v, rfl, ⟨s, hs, rfl⟩, h6, g6⟩
   replace St := StA.draw h6 g6
   clear h6 g6 StA
   simp only [List.mem_cons, List.not_mem_nil, or_false] at hs
   obtain ⟨x1, c0, c1, c2, c3, c4, c5, hf, hBx⟩ := St.cc
   rcases hs with rfl | rfl
   ·obtain ⟨y1, d0, d1, d2, d3, d4, d5, hf'⟩ := St.qc
    go_wp2_with fail
    obtain ⟨⟨E0, E1, E2, E3, E4, E5⟩, Fin⟩ := CallSt.fin (M := N + 30) ((St.setS ⟨#[98]⟩ (by decide)).set1 1) ⟨x1.k, 1, x1.a, x1.b, x1.c, ⟨#[98]⟩⟩ (by have h0 := heap_setCell_same w6 b 5 _ _ (.string ⟨#[98]⟩) hBx.out; have h1 := heap_setCell_same _ b 1 _ _ (.int .i64 1) h0; simpa [CallV.cells] using h1) (by omega)
    exact bodyPost_ret (v := .agg #[_, _, _, _, _, _]) (by simp [results, Tryz.results152, go_sem, E0, E1, E2, E3, E4, E5]) rfl Fin
   ·obtain ⟨y1, d0, d1, d2, d3, d4, d5, hf'⟩ := St.qc
    have hB3 : (((w6.setCell ⟨b, 5, none⟩ (.string ⟨#[99]⟩)).setCell ⟨b, 1, none⟩ (.int .i64 1)).setCell ⟨b, 1, none⟩ (.int .i64 2)).heap[b]? = some (.cells (CallV.cells ⟨x1.k, 2, x1.a, x1.b, x1.c, ⟨#[99]⟩⟩) 60 (0, 0)) := by
     have h0 := heap_setCell_same w6 b 5 _ _ (.string ⟨#[99]⟩) hBx.out
     have h1 := heap_setCell_same _ b 1 _ _ (.int .i64 1) h0
     have h2 := heap_setCell_same _ b 1 _ _ (.int .i64 2) h1
     simpa [CallV.cells] using h2
    have cd := (call_cells hB3).2.1
    have HB3 := Lib.hid hB3
    clear hB3
    go_wp2_with fail
    obtain ⟨⟨E0, E1, E2, E3, E4, E5⟩, Fin⟩ := CallSt.fin (M := N + 30) (((St.setS ⟨#[99]⟩ (by decide)).set1 1).set1 2) ⟨x1.k, 2, x1.a, x1.b, x1.c, ⟨#[99]⟩⟩ HB3.out (by omega)
    exact bodyPost_ret (v := .agg #[_, _, _, _, _, _]) (by simp [results, Tryz.results152, go_sem, E0, E1, E2, E3, E4, E5]) rfl Fin
  ·have u2 : u ≤ 0 := by omega
   obtain ⟨x1, c0, c1, c2, c3, c4, c5, hf, hBx⟩ := St.cc
   obtain ⟨y1, d0, d1, d2, d3, d4, d5, hf'⟩ := St.qc
   go_wp2_with fail
   obtain ⟨⟨E0, E1, E2, E3, E4, E5⟩, Fin⟩ := CallSt.fin (M := N + 30) St x1 hBx.out (by omega)
   exact bodyPost_ret (v := .agg #[_, _, _, _, _, _]) (by simp [results, Tryz.results152, go_sem, E0, E1, E2, E3, E4, E5]) rfl Fin
 ·have t0 : (x1.k == 1) = false := by simp [hk]
  clear hk
  obtain ⟨y1, d0, d1, d2, d3, d4, d5, hf'⟩ := St.qc
  go_wp2_with fail
  obtain ⟨⟨E0, E1, E2, E3, E4, E5⟩, Fin⟩ := CallSt.fin (M := N + 30) (St.set1 _) ⟨x1.k, 1 + z, x1.a, x1.b, x1.c, x1.nm⟩ (by have := heap_setCell_same w4 b 1 _ _ (.int .i64 (1 + z)) hBx.out; simpa [CallV.cells] using this) (by omega)
  exact bodyPost_ret (v := .agg #[_, _, _, _, _, _]) (by simp [results, Tryz.results152, go_sem, E0, E1, E2, E3, E4, E5]) rfl Fin
theorem Tryz.infoInfo : (Tryz.prog.info? 89).map (fun i => (i.zero, i.size, i.bytes)) = some (some (.agg #[.int .i64 0, .string ⟨#[]⟩, .int .i64 0]), 3, 32) := by kernel_rfl
theorem madeInfos : (madeCells (Value.agg #[.int .i64 0, .string ⟨#[]⟩, .int .i64 0]).cells (12 * 3)).toList = flat infoCs (List.replicate 12 InfoV.zero) := by kernel_rfl
def newR (lo : Nat) (i : Nat) (v : Value) (w : World) : Prop := match i with
 | 0 => ∃ vs, OwnRows lo w v vs (zeros 12)
 | 1 => OwnF lo 89 3 infoCs w v (List.replicate 12 InfoV.zero)
 | 2 => OwnF lo 80 2 pairCs w v []
 | 3 => OwnF lo 94 4 cachedCs w v []
 | 4 => ∃ m i e c, v = .agg #[m, i, e, c] ∧ (∃ vs, OwnRows lo w m vs (zeros 12)) ∧ OwnF lo 89 3 infoCs w i (List.replicate 12 InfoV.zero) ∧ OwnF lo 80 2 pairCs w e [] ∧ OwnF lo 94 4 cachedCs w c []
 | 5 => ∃ g, v = .pointer (some ⟨g, 0, none⟩) ∧ lo ≤ g ∧ w.heap[g]? = some (.cells #[.slice none 0 0, .slice none 0 0, .slice none 0 0, .slice none 0 0] 33 (0, 0))
 | _ => True
theorem newR_below {lo i : Nat} {v : Value} {w w' : World} (h : newR lo i v w) (hb : Below w.heap.size w w') : newR lo i v w' := by
 match i with
 | 0 => obtain ⟨vs, h⟩ := h; exact ⟨vs, h.below hb⟩
 | 1 => exact OwnF.below h hb
 | 2 => exact OwnF.below h hb
 | 3 => exact OwnF.below h hb
 | 4 =>
  obtain ⟨m, i, e, c, h0, ⟨vs, h1⟩, h2, h3, h4⟩ := h
  exact ⟨m, i, e, c, h0, ⟨vs, h1.below hb⟩, h2.below hb, h3.below hb, h4.below hb⟩
 | 5 =>
  obtain ⟨g, h0, h1, h2⟩ := h
  have : g < w.heap.size := by
   rcases Nat.lt_or_ge g w.heap.size with h | h
   ·exact h
   ·rw [Array.getElem?_eq_none h] at h2; cases h2
  exact ⟨g, h0, h1, (hb.block g this).trans h2⟩
 | _ + 6 => trivial
def newEnvs (tss : List (List ByteArray)) : List EnvV := tss.map fun ts => ⟨ts, -1⟩
def newKern (tss : List (List ByteArray)) : KernV := ⟨zeros 12, List.replicate 12 InfoV.zero, newEnvs tss, []⟩
def NewK (w : World) (b : Bool) (k : KernV) (e : Ending) (w' : World) : Prop := ∃ m i ev c, e = .returned (.tuple #[.agg #[m, i, ev, c], .bool b]) ∧ OwnK w.heap.size w' m i ev c k ∧ Below w.heap.size w w'
def NewSt (w0 : World) (lo g : Nat) (es : List EnvV) (wr : World) : Prop :=
 ∃ m i ev c vs ps, wr.heap[g]? = some (.cells #[m, i, ev, c] 33 (0, 0)) ∧ lo ≤ g ∧ OwnRows lo wr m vs (zeros 12) ∧ OwnF lo 89 3 infoCs wr i (List.replicate 12 InfoV.zero) ∧ OwnEnvs lo wr ev ps es ∧ OwnF lo 94 4 cachedCs wr c [] ∧ Below lo w0 wr
set_option maxRecDepth 100000 in
set_option maxHeartbeats 2000000 in
theorem KernelNew_spec (v : Value) (tss : List (List ByteArray)) (w : World) (h : RdTexts w v tss) (h3 : tss.length = 3) (hok : ∀ ts ∈ tss, rightsOk ts = true) (hsm : ∀ ts ∈ tss, SmallS ts) :
 Calls Tryz.prog 60 #[v] w (NewK w true (newKern tss)) := by
 obtain ⟨vs, h1, h2⟩ := h
 obtain ⟨a, cv, rfl, hc, hcm, H0⟩ := RdF.open oneCs_len (by decide) h1
 unfold maxLen at hcm
 have hv3 : vs.length ≤ 3 := by rw [h2.1, h3]; omega
 have hv3' : 3 ≤ vs.length := by rw [h2.1, h3]; omega
 have HB := Lib.hid h2
 have H3 := Lib.hid h3
 have Hok := Lib.hid hok
 have Hsm := Lib.hid hsm
 clear h2 h3 hok hsm
 go_enter Tryz.func60, Tryz.ntmps60
 go_wp2_with fail
 have hb0 := below1 w (.cells #[.slice none 0 0, .slice none 0 0, .slice none 0 0, .slice none 0 0] 33)
 have hB0 : (w.alloc (.cells #[.slice none 0 0, .slice none 0 0, .slice none 0 0, .slice none 0 0] 33)).heap[w.heap.size]? = some (.cells #[.slice none 0 0, .slice none 0 0, .slice none 0 0, .slice none 0 0] 33 (0, 0)) := heap_alloc_new w _
 have hs0 : w.heap.size + 1 = (w.alloc (.cells #[.slice none 0 0, .slice none 0 0, .slice none 0 0, .slice none 0 0] 33)).heap.size := by simp
 generalize w.alloc (.cells #[.slice none 0 0, .slice none 0 0, .slice none 0 0, .slice none 0 0] 33) = W0 at hb0 hB0 hs0
 refine wp_region_posts 6 Tryz.mixed (by kernel_rfl) 41 rfl (by kernel_rfl) (newR W0.heap.size) (fun _ w' => Below W0.heap.size W0 w') ?_ ?_ ?_
 ·exact below_drewN (Below.refl _ _) 1
 ·intro i hi o ho a w1 Hb Hd L HL hG K HK
  have hsz := hG.size
  clear Hb HL
  match i, hi with
  | 0, _ =>
   obtain rfl := Option.some.inj ho
   clear Hd
   refine Does.of rfl ?_
   go_simp
   refine (l2New_any _).mono ?_; rintro e w2 ⟨v, vs, rfl, h3, h4⟩
   exact HK.out _ _ ⟨vs, h3.lower hsz⟩ (hG.trans (h4.mono hsz)) (fun j u _ _ _ h => newR_below h h4)
  | 1, _ =>
   obtain rfl := Option.some.inj ho
   clear Hd
   refine Does.of rfl ?_
   obtain ⟨i0, hi0, hz0, hz1, hz2⟩ := info_parts Tryz.infoInfo
   obtain ⟨w2, hrun, h3, h4⟩ := run_make_full (P := Tryz.prog) w1 w1.heap.size 29 89 i0 _ 3 Tryz.underlying29 hi0 hz0 hz1 .i64 .i64 12 (by rw [hz2]; decide) (by decide) (Nat.le_refl _)
   have h5 := Below.of_grown h4
   rw [madeInfos] at h3
   have hrun' : (Instr.makeSlice 29 (.int .i64 12) (.int .i64 12)).run Tryz.prog w1 = .ok (.slice (some ⟨w1.heap.size, 0, none⟩) 12 12) w2 := hrun
   clear hi0 hz0 hz1 hz2 hrun
   go_simp
   exact HK.out _ _ (own_loV h3 hsz) (hG.trans (h5.mono hsz)) (fun j u _ _ _ h => newR_below h h5)
  | 2, _ =>
   obtain rfl := Option.some.inj ho
   clear Hd
   refine Does.of rfl ?_
   go_simp
   exact HK.out _ _ ((own_empty _ _ _ _).lower hsz) (hG.alloc hsz _) (fun j u _ _ _ h => newR_below h (below1 _ _))
  | 3, _ =>
   obtain rfl := Option.some.inj ho
   clear Hd
   refine Does.of rfl ?_
   go_simp
   exact HK.out _ _ ((own_empty _ _ _ _).lower hsz) (hG.alloc hsz _) (fun j u _ _ _ h => newR_below h (below1 _ _))
  | 4, _ =>
   obtain rfl := Option.some.inj ho
   have d0 := Hd.out 0 (by kernel_rfl)
   have d1 := Hd.out 1 (by kernel_rfl)
   have d2 := Hd.out 2 (by kernel_rfl)
   have d3 := Hd.out 3 (by kernel_rfl)
   clear Hd
   change ∃ vs, OwnRows _ _ (a.tmps[6]?.getD undef) _ _ at d0
   change OwnF _ _ _ _ _ (a.tmps[7]?.getD undef) _ at d1
   change OwnF _ _ _ _ _ (a.tmps[8]?.getD undef) _ at d2
   change OwnF _ _ _ _ _ (a.tmps[9]?.getD undef) _ at d3
   refine Does.of rfl ?_
   generalize e6 : a.tmps[6]?.getD undef = m at d0
   generalize e7 : a.tmps[7]?.getD undef = i at d1
   generalize e8 : a.tmps[8]?.getD undef = e at d2
   generalize e9 : a.tmps[9]?.getD undef = c at d3
   obtain ⟨vs0, d0⟩ := d0
   have W := Lib.hid (show newR W0.heap.size 4 (.agg #[m, i, e, c]) w1 from ⟨m, i, e, c, rfl, ⟨vs0, d0⟩, d1, d2, d3⟩)
   obtain ⟨_, _, rfl, _, _⟩ := d0.1.rd.shape
   obtain ⟨_, _, rfl, _, _⟩ := d1.rd.shape
   obtain ⟨_, _, rfl, _, _⟩ := d2.rd.shape
   obtain ⟨_, _, rfl, _, _⟩ := d3.rd.shape
   clear d0 d1 d2 d3
   go_simp
   exact HK.out _ _ W.out hG (fun j u _ _ _ h => h)
  | 5, _ =>
   obtain rfl := Option.some.inj ho
   clear Hd
   refine Does.of rfl ?_
   go_simp
   exact HK.out _ _ ⟨_, rfl, hsz, heap_alloc_new _ _⟩ (hG.alloc hsz _) (fun j u _ _ _ h => newR_below h (below1 _ _))
 ·intro xs w1 hR L hL hG
  obtain ⟨m, i, e, c, h0, ⟨rs, h1⟩, h2, h3, h4⟩ := hR 4 (by decide)
  obtain ⟨g, h5, h6, h7⟩ := hR 5 (by decide)
  clear hR hL
  simp only [fillAt, dstOf, List.range, List.range.loop, List.foldl_cons, List.foldl_nil, h0, h5]
  simp
  generalize xs 0 = y0
  generalize xs 1 = y1
  generalize xs 2 = y2
  generalize xs 3 = y3
  have St : NewSt W0 W0.heap.size g (newEnvs (tss.take 0)) ((((w1.setCell ⟨g, 0, none⟩ m).setCell ⟨g, 1, none⟩ i).setCell ⟨g, 2, none⟩ e).setCell ⟨g, 3, none⟩ c) := by
   have hgr := grown_set' (grown_set' (grown_set' (grown_set w1 g 0 m) 1 i) 2 e) 3 c
   exact ⟨m, i, e, c, rs, [], blk_set4 h7, h6, h1.far hgr h7 (by decide) (by decide), h2.far hgr h7 (by decide), ⟨h3.far hgr h7 (by decide), Both.nil, AllApart.nil⟩, h4.far hgr h7 (by decide), (((hG.setCell h6 _).setCell h6 _).setCell h6 _).setCell h6 _⟩
  obtain ⟨_, _, rfl, _, _⟩ := h1.1.rd.shape
  obtain ⟨_, _, rfl, _, _⟩ := h2.rd.shape
  obtain ⟨_, _, rfl, _, _⟩ := h3.rd.shape
  obtain ⟨_, _, rfl, _, _⟩ := h4.rd.shape
  obtain ⟨c0, c1, c2, c3⟩ := blk_cells4 h7
  have hfz := blk_frozen h7
  clear h0 h1 h2 h3 h4 h5 hG h6 h7
  go_wp2_with fail
  clear c0 c1 c2 c3 hfz
  simp only [List.length_replicate, List.length_nil]
  go_loopw [5] (fun i wr => ∃ k : Nat, k ≤ 3 ∧ i = .int .i64 k ∧ NewSt W0 W0.heap.size g (newEnvs (tss.take k)) wr) (fun i _ => 3 - (intOf i).toNat)
  case atStart => exact ⟨0, by omega, rfl, St⟩
  case round =>
   clear St
   obtain ⟨k, hk, rfl, m, iv, ev, c, rs, ps, hB, hg, o1, o2, o3, o4, hbel⟩ := hrel
   by_cases hlt : k < 3
   ·have hlv : k < vs.length := by omega
    obtain ⟨u, hu⟩ : ∃ u, vs[k]? = some u := ⟨_, List.getElem?_eq_getElem hlv⟩
    obtain ⟨ts, hts⟩ : ∃ ts, tss[k]? = some ts := ⟨_, List.getElem?_eq_getElem (by rw [H3.out]; exact hlt)⟩
    have Ru := HB.out.2 k u ts hu hts
    have hok := Hok.out ts (List.mem_of_getElem? hts)
    have hsm := Hsm.out ts (List.mem_of_getElem? hts)
    obtain ⟨b, off, rfl, hbl0, hcell⟩ := H0 k u hu
    have Dw : w.cell? ⟨b, off + k, none⟩ = some u := by simpa using hcell 0 u rfl
    have hbw := hb0.trans (hbel.mono hb0.size)
    have D : wr.cell? ⟨b, off + k, none⟩ = some u := (hbw.cell (World.block_lt_of_cell? w _ Dw)).trans Dw
    have Hts := Lib.hid hts
    have Hu := Lib.hid hu
    clear hu hts Dw hcell
    go_wp2_with fail
    refine (RightsValid_spec u ts _ (RdF.below Ru hbw) hsm).mono ?_; rintro e w2 ⟨rfl, hw2⟩; rw [hok]
    have hbel2 : Below wr.heap.size wr w2 := by obtain ⟨n, rfl⟩ := hw2; exact below_drewN (Below.refl _ _) n
    clear hw2 hok
    have hbw := hbw.trans (hbel2.mono hbw.size)
    have D : w2.cell? ⟨b, off + k, none⟩ = some u := (hbel2.cell (World.block_lt_of_cell? wr _ D)).trans D
    have hbl := World.block_lt_of_cell? w2 _ D
    have hB2 := blk_below hB hbel2
    have o3' := o3.below hbel2
    have o1 := o1.below hbel2
    have o2 := o2.below hbel2
    have o4 := o4.below hbel2
    have hbel := hbel.trans (hbel2.mono hbel.size)
    clear hbel2 o3 hB
    have htl : ts.length ≤ 6 := by
     have := Hok.out ts (List.mem_of_getElem? Hts.out)
     simp only [rightsOk, Bool.and_eq_true, decide_eq_true_eq] at this
     exact this.2
    have hkv : (k : Int) < vs.length := by omega
    go_wp2_with fail
    have hevg : ev.ownBlock ≠ some g := fun he => by
     obtain ⟨cur, hc⟩ := own_type o3'.1 g he
     rw [hB2] at hc
     simp at hc
    have hevlt := fun k hk => (o3'.1.lt k hk).2
    have hevge := fun k hk => (o3'.1.lt k hk).1
    have hBlk : ∀ w3, w2.grownBy w3 ev.ownBlock → w3.heap[g]? = some (.cells #[m, iv, ev, c] 33 (0, 0)) := fun w3 h => (h.block g (blk_lt hB2) (fun e => hevg e.symm)).trans hB2
    have hOld : ∀ w3, w2.grownBy w3 ev.ownBlock → ∀ k, k < w.heap.size → w3.heap[k]? = w2.heap[k]? := fun w3 h k hk => h.block k (Nat.lt_of_lt_of_le hk hbw.size) (fun e => by have := hevge k e.symm; omega)
    have GS := Lib.hid (fun (L : Nat → Bool) (w3 : World) (i : Nat) (h : w2.grownBy w3 ev.ownBlock ∧ (L 10 = false → Below w2.heap.size w2 w3)) => (⟨h.1, fun h10 => h.2 (upd_no h10)⟩ : w2.grownBy w3 ev.ownBlock ∧ (upd L i 10 = false → Below w2.heap.size w2 w3)))
    have GB := Lib.hid (fun (L : Nat → Bool) (w3 w4 : World) (i : Nat) (h : w2.grownBy w3 ev.ownBlock ∧ (L 10 = false → Below w2.heap.size w2 w3)) (hb : Below w3.heap.size w3 w4) => (⟨grown_trans h.1 (grown_below hb _), fun h10 => (h.2 (upd_no h10)).trans (hb.mono h.1.size)⟩ : w2.grownBy w4 ev.ownBlock ∧ (upd L i 10 = false → Below w2.heap.size w2 w4)))
    refine wp_region_posts 12 Tryz.mixed (by kernel_rfl) 41 rfl (by kernel_rfl) (envR W0.heap.size w2.heap.size g (.slice (some ⟨b, off, none⟩) vs.length cv) u ev b (off + k) k ts ps (newEnvs (tss.take k))) (fun L w3 => w2.grownBy w3 ev.ownBlock ∧ (L 10 = false → Below w2.heap.size w2 w3)) ?_ ?_ ?_
    ·exact ⟨grown_below (below_drewN (Below.refl _ _) 1) _, fun _ => below_drewN (Below.refl _ _) 1⟩
    ·intro i hi o ho a w3 Hb Hd L HL hG K HK
     match i, hi with
     | 0, _ =>
      obtain rfl := Option.some.inj ho
      have e4 : a.tmps[4]?.getD undef = .pointer (some ⟨g, 0, none⟩) := by rw [Hb.out.2.2 4 (by decide)]; rfl
      clear Hd Hb
      refine Does.of rfl ?_
      go_simp
      exact HK.out _ _ rfl (GS.out _ _ _ hG) (fun j u _ _ _ h => h)
     | 1, _ =>
      obtain rfl := Option.some.inj ho
      have d0 := Hd.out 0 (by kernel_rfl)
      change a.tmps[24]?.getD undef = .pointer (some ⟨g, 2, none⟩) at d0
      clear Hd Hb
      refine Does.of rfl ?_
      have cg : w3.cell? ⟨g, 2, none⟩ = some ev := cell_of_row w3 g 2 _ _ _ (hBlk w3 hG.1)
      go_simp
      exact HK.out _ _ rfl (GS.out _ _ _ hG) (fun j u _ _ _ h => h)
     | 2, _ =>
      obtain rfl := Option.some.inj ho
      clear Hd Hb
      refine Does.of rfl ?_
      go_simp
      exact HK.out _ _ ⟨_, rfl, hG.1.size, heap_alloc_new _ _⟩ (GB.out _ _ _ _ hG (below1 _ _)) (fun j u _ _ _ h => envR_keep h (grown_below (below1 _ _) none) (fun k hk => by cases hk) (.inr rfl))
     | 3, _ =>
      obtain rfl := Option.some.inj ho
      have e0 : a.tmps[0]?.getD undef = .slice (some ⟨b, off, none⟩) vs.length cv := by rw [Hb.out.2.2 0 (by decide)]; rfl
      clear Hd Hb
      refine Does.of rfl ?_
      go_simp
      exact HK.out _ _ rfl (GS.out _ _ _ hG) (fun j u _ _ _ h => h)
     | 4, _ =>
      obtain rfl := Option.some.inj ho
      have e5 : a.tmps[5]?.getD undef = .int .i64 k := by rw [Hb.out.2.2 5 (by decide)]; rfl
      clear Hd Hb
      refine Does.of rfl ?_
      go_simp
      exact HK.out _ _ rfl (GS.out _ _ _ hG) (fun j u _ _ _ h => h)
     | 5, _ =>
      obtain rfl := Option.some.inj ho
      have d3 := Hd.out 3 (by kernel_rfl)
      change a.tmps[27]?.getD undef = .slice (some ⟨b, off, none⟩) vs.length cv at d3
      have d4 := Hd.out 4 (by kernel_rfl)
      change a.tmps[28]?.getD undef = .int .i64 k at d4
      clear Hd Hb
      refine Does.of rfl ?_
      go_simp
      exact HK.out _ _ rfl (GS.out _ _ _ hG) (fun j u _ _ _ h => h)
     | 6, _ =>
      obtain rfl := Option.some.inj ho
      have d5 := Hd.out 5 (by kernel_rfl)
      change a.tmps[29]?.getD undef = .pointer (some ⟨b, off + k, none⟩) at d5
      clear Hd Hb
      refine Does.of rfl ?_
      have cu : w3.cell? ⟨b, off + k, none⟩ = some u := (World.cell?_of_block (hOld w3 hG.1 b hbl0)).trans D
      go_simp
      exact HK.out _ _ rfl (GS.out _ _ _ hG) (fun j u _ _ _ h => h)
     | 7, _ =>
      obtain rfl := Option.some.inj ho
      have d2 := Hd.out 2 (by kernel_rfl)
      change ∃ g2, a.tmps[26]?.getD undef = .slice (some ⟨g2, 0, none⟩) 0 0 ∧ _ ≤ g2 ∧ _ at d2
      have d6 := Hd.out 6 (by kernel_rfl)
      change a.tmps[30]?.getD undef = u at d6
      clear Hd Hb
      refine Does.of rfl ?_
      obtain ⟨g2, d2, d2a, d2b⟩ := d2
      obtain ⟨v7, w4, hrun, r1, r2, r3⟩ := run_append_empty (lo := w2.heap.size) (w := w3) (t := 36) (ty := 36) 9 _ 1 16 Tryz.underlying36 Tryz.infoString rfl (by decide) d2b d2a (RdF.keep Ru (fun k hk => (hOld w3 hG.1 k hk).trans (hbw.block k hk))) mem_strs (by omega)
      refine wp_append_run rfl (eval_tmp d2) (eval_tmp d6) hrun ?_
      exact HK.out _ _ r1 (GB.out _ _ _ _ hG r2) (fun j u _ _ _ h => envR_keep h (grown_below r2 none) (fun k hk => by cases hk) (.inr rfl))
     | 8, _ =>
      obtain rfl := Option.some.inj ho
      have d7 := Hd.out 7 (by kernel_rfl)
      change OwnF _ _ _ _ _ (a.tmps[31]?.getD undef) _ at d7
      clear Hd Hb
      refine Does.of rfl ?_
      generalize e31 : a.tmps[31]?.getD undef = r at d7
      have W := Lib.hid (show envR W0.heap.size w2.heap.size g (.slice (some ⟨b, off, none⟩) vs.length cv) u ev b (off + k) k ts ps (newEnvs (List.take k tss)) 8 (.agg #[r, .int .i64 (-1)]) w3 from ⟨r, rfl, d7⟩)
      obtain ⟨_, _, rfl, _, _⟩ := d7.rd.shape
      clear d7
      go_simp
      exact HK.out _ _ W.out (GS.out _ _ _ hG) (fun j u _ _ _ h => h)
     | 9, _ =>
      obtain rfl := Option.some.inj ho
      have d8 := Hd.out 8 (by kernel_rfl)
      change ∃ r, a.tmps[32]?.getD undef = .agg #[r, .int .i64 (-1)] ∧ _ at d8
      clear Hd Hb
      refine Does.of rfl ?_
      obtain ⟨r, d8, d8a⟩ := d8
      go_simp
      exact HK.out _ _ ⟨r, _, rfl, hG.1.size, heap_alloc_new _ _, OwnF.below d8a (below1 _ _)⟩ (GB.out _ _ _ _ hG (below1 _ _)) (fun j u _ _ _ h => envR_keep h (grown_below (below1 _ _) none) (fun k hk => by cases hk) (.inr rfl))
     | 10, _ =>
      obtain rfl := Option.some.inj ho
      have d1 := Hd.out 1 (by kernel_rfl)
      change a.tmps[25]?.getD undef = ev at d1
      have d9 := Hd.out 9 (by kernel_rfl)
      change ∃ r g9, a.tmps[33]?.getD undef = .slice (some ⟨g9, 0, none⟩) 1 1 ∧ _ ≤ g9 ∧ _ ∧ _ at d9
      clear Hd Hb
      refine Does.of rfl ?_
      obtain ⟨r, g9, d9, d9a, d9b, d9c⟩ := d9
      have hB3 := hG.2 HL.out.1
      have o3w := o3'
      have o3' := o3'.below hB3
      obtain ⟨i0, hi0, hz0, hz1, hz2⟩ := info_parts Tryz.infoEnv
      have hpl : ps.length ≤ 3 := by rw [o3'.2.1.1]; simp [newEnvs]; omega
      obtain ⟨v10, w4, hrun, r1, r2, _, r4⟩ := run_append_own_at (P := Tryz.prog) w3 W0.heap.size 30 30 80 i0 _ 2 32 Tryz.underlying30 hi0 hz0 hz1 hz2 rfl (by decide) ev ps.length (flat pairCs ps) o3'.1 ⟨g9, 0, none⟩ 1 1 [r, .int .i64 (-1)] rfl (by
       intro j x hx
       match j, hx with
       | 0, hx => simp at hx; subst hx; exact cell_of_row w3 g9 0 _ _ _ d9b
       | 1, hx => simp at hx; subst hx; exact cell_of_row w3 g9 1 _ _ _ d9b) (by
       obtain ⟨_, _, rfl, _, _⟩ := d9c.rd.shape
       simp [Value.oneCell']) (by simp only [maxLen]; omega) (by omega) (Nat.le_trans hbel.size hB3.size)
      clear hi0 hz0 hz1 hz2
      refine wp_append_run rfl (eval_tmp d1) (eval_tmp d9) hrun ?_
      exact HK.out _ _ ⟨r, o3w.push hB3 hbel.size (Nat.le_refl _) d9c r1 r2⟩ ⟨grown_trans hG.1 r2, fun h => by simp [upd] at h⟩ (fun j x hj _ _ h => envR_keep h r2 hevlt (.inl hj))
     | 11, _ =>
      obtain rfl := Option.some.inj ho
      have e4 : a.tmps[4]?.getD undef = .pointer (some ⟨g, 0, none⟩) := by rw [Hb.out.2.2 4 (by decide)]; rfl
      clear Hd Hb
      refine Does.of rfl ?_
      go_simp
      exact HK.out _ _ rfl (GS.out _ _ _ hG) (fun j u _ _ _ h => h)
    ·intro xs w3 hR L hL hG
     obtain ⟨r, o5⟩ := hR 10 (by decide)
     have h11 : xs 11 = .pointer (some ⟨g, 2, none⟩) := hR 11 (by decide)
     have hG := hG.1
     clear hR hL
     simp only [fillAt, dstOf, List.range, List.range.loop, List.foldl_cons, List.foldl_nil, h11]
     simp
     generalize xs 0 = z0
     generalize xs 1 = z1
     generalize xs 2 = z2
     generalize xs 3 = z3
     generalize xs 4 = z4
     generalize xs 5 = z5
     generalize xs 6 = z6
     generalize xs 7 = z7
     generalize xs 8 = z8
     generalize xs 9 = z9
     generalize xs 10 = ev' at o5
     clear h11
     have hB3 := hBlk w3 hG
     have hgr := grown_set w3 g 2 ev'
     have St : NewSt W0 W0.heap.size g (newEnvs (tss.take (k + 1))) (w3.setCell ⟨g, 2, none⟩ ev') := by
      have e1 : newEnvs (tss.take (k + 1)) = newEnvs (tss.take k) ++ [⟨ts, -1⟩] := by rw [take_one Hts.out]; simp [newEnvs]
      rw [e1]
      refine ⟨m, iv, ev', c, rs, _, ?_, hg, ?_, ?_, o5.far hgr hB3 (by decide) (by decide), ?_, ?_⟩
      ·have := heap_setCell_same w3 g 2 _ 33 ev' hB3
       simpa using this
      ·exact OwnRows.far (o1.kept hG o3'.1 (by decide) (by decide)) hgr hB3 (by decide) (by decide)
      ·exact OwnF.far (own_grown o2 hG (apart_type o2 o3'.1 (by decide)).ne) hgr hB3 (by decide)
      ·exact OwnF.far (own_grown o4 hG (apart_type o4 o3'.1 (by decide)).ne) hgr hB3 (by decide)
      ·exact (hbel.grown hG hbel.size (fun k hk => hevge k hk)).setCell hg _
     obtain ⟨_, _, rfl, _, _⟩ := o5.1.rd.shape
     obtain ⟨_, _, rfl, _, _⟩ := o3'.1.rd.shape
     obtain ⟨c0, c1, c2, c3⟩ := blk_cells4 hB3
     have hfz := blk_frozen hB3
     simp only [List.length_append, List.length_cons, List.length_nil, Nat.zero_add] at St
     clear hB3 hgr o5 o1 o2 o3' o4 hBlk hOld GS GB hevg hevlt hevge
     go_wp2_with fail
     go_roundw
     case rel => exact ⟨k + 1, by omega, by go_num, St⟩
     case measure => simp [intOf]; omega
   ·obtain rfl : k = 3 := by omega
    have e3 : tss.take 3 = tss := List.take_of_length_le (by rw [H3.out]; omega)
    rw [e3] at o3
    have hlv : ¬ (3 : Int) < vs.length := by omega
    have hl3 : ((vs.length : Int) != 3) = false := by simp; omega
    have hne : g ≠ w.heap.size := by omega
    have hBs : wr.heap[w.heap.size]? = some (.cells #[.slice none 0 0, .slice none 0 0, .slice none 0 0, .slice none 0 0] 33 (0, 0)) := (hbel.block _ (by omega)).trans hB0
    have S := Lib.hid (show ∀ w', wr.grownBy w' (some w.heap.size) → NewK w true (newKern tss) (.returned (.tuple #[.agg #[m, iv, ev, c], .bool true])) w' from fun w' hg' =>
     ⟨m, iv, ev, c, rfl, ⟨⟨rs, (o1.far hg' hBs (by decide) (by decide)).lower hb0.size⟩, (o2.far hg' hBs (by decide)).lower hb0.size, ⟨ps, (o3.far hg' hBs (by decide) (by decide)).lower hb0.size⟩, (o4.far hg' hBs (by decide)).lower hb0.size⟩, (hb0.trans (hbel.mono hb0.size)).grown hg' (hb0.trans (hbel.mono hb0.size)).size (fun k hk => by cases hk; exact Nat.le_refl _)⟩)
    have hgr : wr.grownBy ((((wr.setCell ⟨w.heap.size, 0, none⟩ m).setCell ⟨w.heap.size, 1, none⟩ iv).setCell ⟨w.heap.size, 2, none⟩ ev).setCell ⟨w.heap.size, 3, none⟩ c) (some w.heap.size) := grown_set' (grown_set' (grown_set' (grown_set wr w.heap.size 0 m) 1 iv) 2 ev) 3 c
    obtain ⟨E0, E1, E2, E3⟩ := blk_cells4 (blk_set4 (m' := m) (i' := iv) (e' := ev) (c' := c) hBs)
    have HE := Lib.hid (And.intro E0 (And.intro E1 (And.intro E2 E3)))
    clear E0 E1 E2 E3
    obtain ⟨_, _, rfl, _, _⟩ := o1.1.rd.shape
    obtain ⟨_, _, rfl, _, _⟩ := o2.rd.shape
    obtain ⟨_, _, rfl, _, _⟩ := o3.1.rd.shape
    obtain ⟨_, _, rfl, _, _⟩ := o4.rd.shape
    obtain ⟨c0, c1, c2, c3⟩ := blk_cells4 hB
    obtain ⟨d0, d1, d2, d3⟩ := blk_cells4 hBs
    have hfz := blk_frozen hBs
    clear hB hBs o1 o2 o3 o4
    simp only [List.length_replicate, List.length_nil] at HE S hgr ⊢
    go_wp2_with fail
    obtain ⟨E0, E1, E2, E3⟩ := HE.out
    exact bodyPost_ret (v := .tuple #[.agg #[_, _, _, _], .bool true]) (by simp [results, Tryz.results60, go_sem, E0, E1, E2, E3]) rfl (S.out _ hgr)
def flatStep (st : List Int × List Int) (s : StepV) : List Int × List Int :=
 if s.k = 1 then (st.1, st.2 ++ [nth st.1 s.a.toNat]) else if s.k = 2 then (st.1.set s.a.toNat s.x, st.2) else st
def flatRun (ss : List StepV) : List Int × List Int := ss.foldl flatStep (List.replicate 64 0, [])
def flatOut (ss : List StepV) : List Int := if stepsOk ss then (flatRun ss).2 else []
theorem flatRun_snoc (ss : List StepV) (s : StepV) : flatRun (ss ++ [s]) = flatStep (flatRun ss) s := by simp [flatRun]
theorem flatRun_next {ss : List StepV} {k : Nat} {s : StepV} (h : ss[k]? = some s) : flatRun (ss.take (k + 1)) = flatStep (flatRun (ss.take k)) s := by rw [take_one h, flatRun_snoc]
theorem flatStep_len (st : List Int × List Int) (s : StepV) : (flatStep st s).1.length = st.1.length := by
 unfold flatStep; split
 ·rfl
 ·split
  ·simp
  ·rfl
theorem flatRun_len (ss : List StepV) : (flatRun ss).1.length = 64 := by
 have : ∀ (ss : List StepV) (st : List Int × List Int), st.1.length = 64 → (ss.foldl flatStep st).1.length = 64 := by
  intro ss
  induction ss with
  | nil => intro st h; exact h
  | cons s ss ih => intro st h; exact ih _ (by rw [flatStep_len, h])
 exact this ss _ (by simp)
theorem flatRun_out (ss : List StepV) : (flatRun ss).2.length ≤ ss.length := by
 have : ∀ (ss : List StepV) (st : List Int × List Int), (ss.foldl flatStep st).2.length ≤ st.2.length + ss.length := by
  intro ss
  induction ss with
  | nil => intro st; simp
  | cons s ss ih =>
   intro st
   have h1 := ih (flatStep st s)
   have h2 : (flatStep st s).2.length ≤ st.2.length + 1 := by
    unfold flatStep; split
    ·simp
    ·split <;> simp
   simp only [List.foldl_cons, List.length_cons]
   omega
 have := this ss (List.replicate 64 0, [])
 simpa [flatRun] using this
theorem flatStep1 {st : List Int × List Int} {s : StepV} (h : s.k = 1) : flatStep st s = (st.1, st.2 ++ [nth st.1 s.a.toNat]) := by simp [flatStep, h]
theorem flatStep2 {st : List Int × List Int} {s : StepV} (h : s.k = 2) : flatStep st s = (st.1.set s.a.toNat s.x, st.2) := by simp [flatStep, h]
theorem flatStep3 {st : List Int × List Int} {s : StepV} (h1 : s.k ≠ 1) (h2 : s.k ≠ 2) : flatStep st s = st := by simp [flatStep, h1, h2]
theorem stepsOk_at {ss : List StepV} {k : Nat} {s : StepV} (h : stepsOk ss = true) (hs : ss[k]? = some s) : s.ok = true := by
 simp only [stepsOk, Bool.and_eq_true] at h
 exact List.all_eq_true.1 h.2 s (List.mem_of_getElem? hs)
theorem stepsOk_len {ss : List StepV} (h : stepsOk ss = true) : ss.length ≤ 80 := by
 simp only [stepsOk, Bool.and_eq_true, decide_eq_true_eq] at h
 exact h.1
theorem ok_load {s : StepV} (h : s.ok = true) (hk : s.k = 1) : 0 ≤ s.a ∧ s.a ≤ 63 := by
 rw [StepV.ok, if_pos hk] at h; exact inB_iff.1 h
theorem ok_store {s : StepV} (h : s.ok = true) (hk : s.k = 2) : 0 ≤ s.a ∧ s.a ≤ 63 := by
 rw [StepV.ok, if_neg (by omega), if_pos hk, Bool.and_eq_true] at h; exact inB_iff.1 h.1
def FlatSt (lo g : Nat) (o : Value) (st : List Int × List Int) (w0 w : World) : Prop :=
 OwnInts lo w (.slice (some ⟨g, 0, none⟩) 64 64) st.1 ∧ OwnInts lo w o st.2 ∧ Apart o (.slice (some ⟨g, 0, none⟩) 64 64) ∧ Below lo w0 w ∧ lo ≤ w.heap.size
theorem FlatSt.below {lo g : Nat} {o : Value} {st : List Int × List Int} {w0 w w1 : World} (h : FlatSt lo g o st w0 w) (hb : Below w.heap.size w w1) : FlatSt lo g o st w0 w1 :=
 ⟨h.1.below hb, h.2.1.below hb, h.2.2.1, h.2.2.2.1.trans (hb.mono h.2.2.2.2), Nat.le_trans h.2.2.2.2 hb.size⟩
theorem FlatSt.load {lo g : Nat} {o o' : Value} {st : List Int × List Int} {w0 w w1 : World} {x : Int} (h : FlatSt lo g o st w0 w)
 (h1 : w1.ownsRow lo 3 1 o' (st.2.length + 1) (st.2.map (Value.int .i64) ++ [.int .i64 x])) (h2 : w.grownBy w1 o.ownBlock) (h3 : o'.ownBlock = o.ownBlock ∨ o'.ownBlock = some w.heap.size) (h4 : Below lo w w1) :
 FlatSt lo g o' (st.1, st.2 ++ [x]) w0 w1 := by
 obtain ⟨a1, a2, a3, a4, a5⟩ := h
 refine ⟨own_grown a1 h2 a3.symm.ne, by simpa [OwnInts] using h1, a3.grown h3 (fun k hk => (a1.lt k hk).2), a4.trans h4, Nat.le_trans a5 h4.size⟩
theorem FlatSt.store {lo g : Nat} {o : Value} {st : List Int × List Int} {w0 w : World} (h : FlatSt lo g o st w0 w) (hl : st.1.length = 64) (j : Nat) (x : Int) :
 FlatSt lo g o (st.1.set j x, st.2) w0 (w.setCell ⟨g, j, none⟩ (.int .i64 x)) := by
 obtain ⟨a1, a2, a3, a4, a5⟩ := h
 have hg : lo ≤ g := (a1.lt g rfl).1
 have b1 : w.ownsRow lo 3 1 (.slice (some ⟨g, 0, none⟩) 64 64) 64 (st.1.map (Value.int .i64)) := by have := a1; unfold OwnInts at this; rwa [hl] at this
 obtain ⟨s1, s2⟩ := World.ownsRow.stored b1 j (.int .i64 x)
 refine ⟨?_, own_grown a2 s2 (by have := a3.ne; simpa [Value.ownBlock] using this), a3, a4.trans ((Below.refl _ _).setCell hg _), by simpa using a5⟩
 unfold OwnInts
 rw [List.length_set, List.map_set, hl]
 exact s1
def DrPost2 (w0 : World) (g N : Nat) (w : World) (P : Value → World → Prop) (e : Ending) (w' : World) : Prop := ∃ v, e = .returned v ∧ P v w' ∧ Dr w0 g N w' ∧ w.grownBy w' (some g)
def tA : ByteArray := ⟨#[97]⟩
def tB : ByteArray := ⟨#[98]⟩
def tC : ByteArray := ⟨#[99]⟩
theorem rd_lit1 (w : World) (s : ByteArray) (t : TypeId) : RdStrs (w.alloc (.cells #[.string s] t)) (.slice (some ⟨w.heap.size, 0, none⟩) 1 1) [s] :=
 Rd.newsAt w #[.string s] t 1 1 _ rfl rfl (by simp [maxLen])
theorem rd_three (w : World) (a b c : ByteArray) (t u : TypeId) :
 RdTexts ((((w.alloc (.cells #[.string a] t)).alloc (.cells #[.string b] t)).alloc (.cells #[.string c] t)).alloc (.cells #[.slice (some ⟨w.heap.size, 0, none⟩) 1 1, .slice (some ⟨w.heap.size + 1, 0, none⟩) 1 1, .slice (some ⟨w.heap.size + 1 + 1, 0, none⟩) 1 1] u))
  (.slice (some ⟨w.heap.size + 1 + 1 + 1, 0, none⟩) 3 3) [[a], [b], [c]] := by
 have h1 := rd_lit1 w a t
 have h2 := rd_lit1 (w.alloc (.cells #[.string a] t)) b t
 have h3 := rd_lit1 ((w.alloc (.cells #[.string a] t)).alloc (.cells #[.string b] t)) c t
 simp only [World.size_alloc] at h2 h3
 refine ⟨[.slice (some ⟨w.heap.size, 0, none⟩) 1 1, .slice (some ⟨w.heap.size + 1, 0, none⟩) 1 1, .slice (some ⟨w.heap.size + 1 + 1, 0, none⟩) 1 1], ?_, rfl, ?_⟩
 ·exact Rd.newsAt _ #[_, _, _] u 1 3 _ (by simp) rfl (by simp [maxLen])
 ·intro i x y hx hy
  match i, hx, hy with
  | 0, hx, hy => simp at hx hy; subst hx hy; exact ((h1.below (below1 _ _)).below (below1 _ _)).below (below1 _ _)
  | 1, hx, hy => simp at hx hy; subst hx hy; exact (h2.below (below1 _ _)).below (below1 _ _)
  | 2, hx, hy => simp at hx hy; subst hx hy; exact h3.below (below1 _ _)
theorem rights_abc : ∀ ts ∈ [[tA], [tB], [tC]], rightsOk ts = true := by
 intro ts h
 simp only [List.mem_cons, List.not_mem_nil, or_false] at h
 rcases h with rfl | rfl | rfl <;> decide +kernel
theorem small_abc : ∀ ts ∈ [[tA], [tB], [tC]], SmallS ts := by
 intro ts h s hs
 simp only [List.mem_cons, List.not_mem_nil, or_false] at h
 rcases h with rfl | rfl | rfl <;> (simp at hs; subst hs; decide +kernel)
def StepsSt (w0 : World) (g N : Nat) (w : World) (bk : Nat) (o : Value) (ss : List StepV) (wr : World) : Prop :=
 ∃ m i e c xs, Dr w0 g N wr ∧ w.grownBy wr (some g) ∧ g < w.heap.size ∧ w0.heap.size ≤ w.heap.size ∧ OwnSteps w.heap.size wr o ss ∧ w.heap.size ≤ bk ∧
  wr.heap[bk]? = some (.cells #[m, i, e, c] 33 (0, 0)) ∧ OwnF w.heap.size 89 3 infoCs wr i xs ∧ xs.length ≤ 12
section
variable {w0 w wr w' : World} {g N M bk : Nat} {o o' : Value} {ss : List StepV}
theorem StepsSt.dr (h : StepsSt w0 g N w bk o ss wr) : Dr w0 g N wr := by
 obtain ⟨m, i, e, c, xs, h1, _⟩ := h
 exact h1
theorem StepsSt.own (h : StepsSt w0 g N w bk o ss wr) : OwnSteps w.heap.size wr o ss := by
 obtain ⟨m, i, e, c, xs, _, _, _, _, h1, _⟩ := h
 exact h1
theorem StepsSt.gr (h : StepsSt w0 g N w bk o ss wr) : w.grownBy wr (some g) ∧ g < w.heap.size ∧ w0.heap.size ≤ w.heap.size := by
 obtain ⟨m, i, e, c, xs, _, h1, h2, h3, _⟩ := h
 exact ⟨h1, h2, h3⟩
theorem StepsSt.mono (h : StepsSt w0 g N w bk o ss wr) (hm : N ≤ M) : StepsSt w0 g M w bk o ss wr := by
 obtain ⟨m, i, e, c, xs, h1, h2⟩ := h
 exact ⟨m, i, e, c, xs, h1.mono hm, h2⟩
theorem StepsSt.draw (h : StepsSt w0 g N w bk o ss wr) (hd : Dr w0 g M w') (hg : wr.grownBy w' (some g)) : StepsSt w0 g M w bk o ss w' := by
 obtain ⟨m, i, e, c, xs, h1, h2, h3, h4, h5, h6, h7, h8, h9⟩ := h
 have hr : ∀ k, some g = some k → k < w.heap.size := fun k hk => by cases hk; exact h3
 exact ⟨m, i, e, c, xs, hd, grown_trans h2 hg, h3, h4, own_past h5 hg hr, h6, blk_past h7 h6 hg hr, own_past h8 hg hr, h9⟩
theorem StepsSt.below (h : StepsSt w0 g N w bk o ss wr) (hb : Below wr.heap.size wr w') : StepsSt w0 g N w bk o ss w' := h.draw (h.dr.below hb) (grown_below hb _)
theorem StepsSt.setNew (h : StepsSt w0 g N w bk o ss wr) {b j : Nat} {u : Value} {T : Nat} {cur : Array Value} (hb : wr.heap[b]? = some (.cells cur T (0, 0))) (hlo : w.heap.size ≤ b) (h1 : T ≠ 33) (h2 : T ≠ 89) (h3 : o.ownBlock ≠ some b) : StepsSt w0 g N w bk o ss (wr.setCell ⟨b, j, none⟩ u) := by
 obtain ⟨m, i, e, c, xs, a1, a2, a3, a4, a5, a6, a7, a8, a9⟩ := h
 have hne : bk ≠ b := by
  rintro rfl
  rw [hb] at a7
  simp at a7
  exact h1 a7.2
 exact ⟨m, i, e, c, xs, a1.set (by omega) (by omega), grown_new a2 hlo _, a3, a4, own_grown a5 (grown_set wr b j u) (.inr h3), a6, (heap_setCell_other wr ⟨b, j, none⟩ bk u (fun e => hne (by simpa using e))).trans a7, a8.far (grown_set wr b j u) hb (Ne.symm h2), a9⟩
theorem StepsSt.push (h : StepsSt w0 g N w bk o ss wr) {s : StepV} (h1 : w'.ownsRow w.heap.size 62 9 o' (ss.length + 1) (stepCells ss ++ s.cells.toList)) (h2 : wr.grownBy w' o.ownBlock) : StepsSt w0 g N w bk o' (ss ++ [s]) w' := by
 obtain ⟨m, i, e, c, xs, a1, a2, a3, a4, a5, a6, a7, a8, a9⟩ := h
 have hlo := fun k hk => (World.ownsRow.lt a5 k hk).1
 refine ⟨m, i, e, c, xs, a1.keep h2 (fun e => by have := hlo g e; omega) (fun k hk => by have := hlo k hk; omega), ?_, a3, a4, ?_, a6, ?_, ?_, a9⟩
 ·exact ⟨h2.os.trans a2.os, h2.tape.trans a2.tape, h2.output.trans a2.output, Nat.le_trans a2.size h2.size, fun k hk hne => (h2.block k (Nat.lt_of_lt_of_le hk a2.size) (fun e => by have := hlo k e.symm; omega)).trans (a2.block k hk hne)⟩
 ·unfold OwnSteps
  rw [List.length_append]
  have e : stepCells (ss ++ [s]) = stepCells ss ++ s.cells.toList := by simp [stepCells]
  rw [e]
  exact h1
 ·refine (h2.block bk (blk_lt a7) (fun e => ?_)).trans a7
  obtain ⟨cur, hc⟩ := own_type a5 bk e.symm
  rw [a7] at hc
  simp at hc
 ·exact own_grown a8 h2 (apart_type a8 a5 (by decide)).ne
theorem StepsSt.kern (h : StepsSt w0 g N w bk o ss wr) : ∃ m i e c xs, wr.cell? ⟨bk, 0, none⟩ = some m ∧ wr.cell? ⟨bk, 1, none⟩ = some i ∧ wr.cell? ⟨bk, 2, none⟩ = some e ∧ wr.cell? ⟨bk, 3, none⟩ = some c ∧ (∀ w', wr.grownBy w' (some g) → RdInfos w' i xs) ∧ xs.length ≤ 12 := by
 obtain ⟨m, i, e, c, xs, a1, a2, a3, a4, a5, a6, a7, a8, a9⟩ := h
 obtain ⟨c0, c1, c2, c3⟩ := blk_cells4 a7
 exact ⟨m, i, e, c, xs, c0, c1, c2, c3, fun w' hg => OwnF.rd (own_past a8 hg (fun k hk => by cases hk; exact a3)), a9⟩
end
theorem step_cells {w : World} {b : Nat} {s : StepV} (h : w.heap[b]? = some (.cells s.cells 62 (0, 0))) : w.cell? ⟨b, 0, none⟩ = some (.int .i64 s.k) ∧ w.cell? ⟨b, 1, none⟩ = some (.int .i64 s.a) ∧ w.cell? ⟨b, 2, none⟩ = some (.int .i64 s.x) ∧ w.cell? ⟨b, 3, none⟩ = some (.int .i64 s.ck) ∧ w.cell? ⟨b, 4, none⟩ = some (.int .i64 s.ce) ∧ w.cell? ⟨b, 5, none⟩ = some (.int .i64 s.ca) ∧ w.cell? ⟨b, 6, none⟩ = some (.int .i64 s.cb) ∧ w.cell? ⟨b, 7, none⟩ = some (.int .i64 s.cc) ∧ w.cell? ⟨b, 8, none⟩ = some (.string s.nm) :=
 ⟨cell_of_row w b 0 _ _ _ h, cell_of_row w b 1 _ _ _ h, cell_of_row w b 2 _ _ _ h, cell_of_row w b 3 _ _ _ h, cell_of_row w b 4 _ _ _ h, cell_of_row w b 5 _ _ _ h, cell_of_row w b 6 _ _ _ h, cell_of_row w b 7 _ _ _ h, cell_of_row w b 8 _ _ _ h⟩
theorem step_set {w : World} {b : Nat} {s : StepV} (h : w.heap[b]? = some (.cells s.cells 62 (0, 0))) (s' : StepV) : (setMany w b 0 0 s'.cells.toList).heap[b]? = some (.cells s'.cells 62 (0, 0)) := by
 have h0 := heap_setCell_same w b 0 _ _ (.int .i64 s'.k) h
 have h1 := heap_setCell_same _ b 1 _ _ (.int .i64 s'.a) h0
 have h2 := heap_setCell_same _ b 2 _ _ (.int .i64 s'.x) h1
 have h3 := heap_setCell_same _ b 3 _ _ (.int .i64 s'.ck) h2
 have h4 := heap_setCell_same _ b 4 _ _ (.int .i64 s'.ce) h3
 have h5 := heap_setCell_same _ b 5 _ _ (.int .i64 s'.ca) h4
 have h6 := heap_setCell_same _ b 6 _ _ (.int .i64 s'.cb) h5
 have h7 := heap_setCell_same _ b 7 _ _ (.int .i64 s'.cc) h6
 have h8 := heap_setCell_same _ b 8 _ _ (.string s'.nm) h7
 simpa [StepV.cells, setMany] using h8
theorem StepsSt.setStep {w0 w wr : World} {g N bk : Nat} {o : Value} {ss : List StepV} (h : StepsSt w0 g N w bk o ss wr) {b : Nat} {s : StepV} (hb : wr.heap[b]? = some (.cells s.cells 62 (0, 0))) (hlo : w.heap.size ≤ b) (h3 : o.ownBlock ≠ some b) (us : List Value) (j : Nat) : StepsSt w0 g N w bk o ss (setMany wr b 0 j us) := by
 have : ∀ (us : List Value) (j : Nat) (wr : World) (cur : Array Value), StepsSt w0 g N w bk o ss wr → wr.heap[b]? = some (.cells cur 62 (0, 0)) → StepsSt w0 g N w bk o ss (setMany wr b 0 j us) := by
  intro us
  induction us with
  | nil => intro j wr cur h _; exact h
  | cons u us ih =>
   intro j wr cur h hb
   exact ih (j + 1) _ _ (h.setNew hb hlo (by decide) (by decide) h3) (heap_setCell_same wr b (0 + j) _ _ u hb)
 exact this us j wr _ h hb
def StepAt (lo b : Nat) (o : Value) (s : StepV) (wr : World) : Prop := wr.heap[b]? = some (.cells s.cells 62 (0, 0)) ∧ lo ≤ b ∧ o.ownBlock ≠ some b
theorem StepAt.draw {w0 w w1 w2 : World} {b g N bk : Nat} {o : Value} {s : StepV} {ss : List StepV} (h : StepAt w.heap.size b o s w1) (hg : w1.grownBy w2 (some g)) (St : StepsSt w0 g N w bk o ss w2) : StepAt w.heap.size b o s w2 :=
 ⟨blk_past h.1 h.2.1 hg (fun k hk => by cases hk; exact St.gr.2.1), h.2⟩
theorem grown_rowNew {w w1 w2 : World} {g q : Nat} (h : w.grownBy w1 (some g)) (h2 : w1.grownBy w2 (some q)) (hq : w.heap.size ≤ q) : w.grownBy w2 (some g) :=
 ⟨h2.os.trans h.os, h2.tape.trans h.tape, h2.output.trans h.output, Nat.le_trans h.size h2.size, fun k hk hne => (h2.block k (Nat.lt_of_lt_of_le hk h.size) (fun e => by cases e; omega)).trans (h.block k hk hne)⟩
set_option maxRecDepth 100000 in
set_option maxHeartbeats 4000000 in
theorem l92Steps_any {w0 w : World} {g N : Nat} (calls : Bool) (h : Dr w0 g N w) (hN : N ≤ 100000) :
 Calls Tryz.prog 85 #[.pointer (some ⟨g, 0, none⟩), .bool calls] w (DrPost2 w0 g (N + 10000) w fun v w' => ∃ ss, OwnSteps w.heap.size w' v ss ∧ ss.length ≤ 82) := by
 have hlt := h.lt
 have hw0 : w0.heap.size ≤ w.heap.size := h.2.1.size
 go_enter Tryz.func85, Tryz.ntmps85
 go_wp2_with fail
 have o1 := ownsRow_empty w 62 9
 have h1 := h.alloc (.cells #[] 62)
 have g1 : w.grownBy (w.alloc (.cells #[] 62)) (some g) := grown_below (below1 _ _) _
 generalize w.alloc (.cells #[] 62) = wa at o1 h1 g1
 refine (h1.pick _ (by omega) (by decide)).mono ?_; rintro e w2 ⟨n, rfl, n0, n1, h2, g2⟩
 replace n1 := n1 (by decide)
 obtain ⟨n, rfl⟩ := Int.eq_ofNat_of_zero_le n0
 go_upto_if 17 with fail
 refine (h2.pick _ (by omega) (by decide)).mono ?_; rintro e w3 ⟨x, rfl, x0, x1, h3, g3⟩
 go_upto_if 17 with fail
 go_cut [6] (fun s6 wx => ∃ n : Nat, s6 = .int .i64 n ∧ n ≤ 82 ∧ Dr w0 g (N + 3) wx ∧ wa.grownBy wx (some g))
 case first =>
  by_cases hx : x = 0
  ·subst hx
   go_wp2_with fail
   refine (h3.pick _ (by omega) (by decide)).mono ?_; rintro e w4 ⟨y, rfl, y0, y1, h4, g4⟩
   replace y1 := y1 (by decide)
   obtain ⟨y, rfl⟩ := Int.eq_ofNat_of_zero_le y0
   go_wp2_with fail
   go_meet
   exact ⟨79 + y, by go_num, by omega, h4, grown_trans (grown_trans g2 g3) g4⟩
  ·have t0 : (x == 0) = false := by simp [hx]
   clear hx
   go_wp2_with fail
   go_meet
   exact ⟨n, rfl, by omega, h3.mono (by omega), grown_trans g2 g3⟩
 case rest =>
 obtain ⟨n, rfl, hn, h4, g4⟩ := hcut
 clear h2 h3 g2 g3
 go_wp2_with fail
 refine (h4.pick _ (by omega) (by decide)).mono ?_; rintro e w5 ⟨z, rfl, z0, z1, h5, g5⟩
 replace z1 := z1 (by decide)
 have g6 := grown_trans g4 g5
 clear h4 g4 g5
 go_wp2_with fail
 have hr3 := rd_three w5 tA tB tC 9 36
 refine (KernelNew_spec _ [[tA], [tB], [tC]] _ hr3 rfl rights_abc small_abc).mono ?_; rintro e w6 ⟨m, i, ev, c, rfl, hk, b6⟩
 clear hr3
 have b5 := (((below1 w5 (.cells #[.string tA] 9)).trans ((below1 _ (.cells #[.string tB] 9)).mono (by simp))).trans ((below1 _ (.cells #[.string tC] 9)).mono (by simp; omega))).trans ((below1 _ (.cells #[.slice (some ⟨w5.heap.size, 0, none⟩) 1 1, .slice (some ⟨w5.heap.size + 1, 0, none⟩) 1 1, .slice (some ⟨w5.heap.size + 1 + 1, 0, none⟩) 1 1] 36)).mono (by simp; omega))
 have b6' := b5.trans (b6.mono (by simp; omega))
 have hi := hk.2.1.lower (lo' := w.heap.size) (by have := g1.size; have := g6.size; simp; omega)
 have hm : ∃ q n c, m = .slice q n c := by
  obtain ⟨⟨vs, h1, _⟩, _⟩ := hk
  obtain ⟨q, c, e, _⟩ := RdF.open oneCs_len (by decide) (OwnF.rd h1)
  exact ⟨_, _, _, e⟩
 have he : ∃ q n c, ev = .slice q n c := by
  obtain ⟨_, _, ⟨ps, h1, _⟩, _⟩ := hk
  obtain ⟨q, c, e, _⟩ := RdF.open pairCs_len (by decide) (OwnF.rd h1)
  exact ⟨_, _, _, e⟩
 have hc : ∃ q n c', c = .slice q n c' := by
  obtain ⟨_, _, _, h1⟩ := hk
  obtain ⟨q, c, e, _⟩ := RdF.open cachedCs_len (by decide) (OwnF.rd h1)
  exact ⟨_, _, _, e⟩
 clear hk b6 b5
 obtain ⟨qi, ci, rfl, _, _, _⟩ := RdF.open infoCs_len (by decide) hi.rd
 obtain ⟨m0, m1, m2, rfl⟩ := hm
 obtain ⟨e0, e1, e2, rfl⟩ := he
 obtain ⟨c0, c1, c2, rfl⟩ := hc
 go_wp2_with fail
 have St : StepsSt w0 g (N + 4) w w6.heap.size (.slice (some ⟨w.heap.size, 0, none⟩) 0 0) [] (w6.alloc (.cells #[.slice m0 m1 m2, .slice qi (newKern [[tA], [tB], [tC]]).infos.length ci, .slice e0 e1 e2, .slice c0 c1 c2] 33)) := by
  have G := grown_trans g1 (grown_trans g6 (grown_below b6' _))
  have hz := G.size
  refine ⟨_, _, _, _, _, (h5.below b6').alloc _, grown_alloc G _, hlt, hw0, ?_, hz, heap_alloc_new _ _, hi.below (below1 _ _), ?_⟩
  ·exact ownsRow_below (ownsRow_below (own_grown o1 g6 (.inr (by simp [Value.ownBlock]; omega))) b6') (below1 _ _)
  ·simp [newKern]
 clear hi b6' g6 h5 o1 g1 h1
 generalize w6.alloc _ = wb at St
 generalize w6.heap.size = bk at St
 generalize (Value.slice (some ⟨w.heap.size, 0, none⟩) 0 0) = o at St
 go_loopw [5, 10] (fun o i wr => ∃ k : Nat, ∃ ss : List StepV, k ≤ n ∧ ss.length = k ∧ i = .int .i64 k ∧ StepsSt w0 g (N + 4 + 50 * k) w bk o ss wr) (fun _ i _ => n - (intOf i).toNat)
 case atStart => exact ⟨0, [], Nat.zero_le _, rfl, rfl, St⟩
 case round =>
  clear St
  obtain ⟨k, ss, hk, hsl, rfl, St⟩ := hrel
  by_cases hlt : k < n
  ·go_wp2_with fail
   refine (St.dr.pick _ (by omega) (by decide)).mono ?_; rintro e w7 ⟨a, rfl, a0, a1, h7, g7⟩
   replace a1 := a1 (by decide)
   replace St := St.draw h7 g7
   clear h7 g7
   go_wp2_with fail
   refine (St.dr.pick _ (by omega) (by decide)).mono ?_; rintro e w8 ⟨p, rfl, p0, p1, h7, g7⟩
   replace p1 := p1 (by decide)
   replace St := St.draw h7 g7
   clear h7 g7
   go_wp2_with fail
   refine (St.dr.pick _ (by omega) (by decide)).mono ?_; rintro e w9 ⟨q, rfl, q0, q1, h7, g7⟩
   replace q1 := q1 (by decide)
   replace St := St.draw h7 g7
   clear h7 g7
   go_wp2_with fail
   refine (St.dr.pick _ (by omega) (by decide)).mono ?_; rintro e w10 ⟨x, rfl, x0, x1, h7, g7⟩
   replace x1 := x1 (by decide)
   replace St := St.draw h7 g7
   clear h7 g7
   go_upto_region 11 with fail
   generalize wrap64 (wrap64 (16 * z * p) + q) = A
   have SA : StepAt w.heap.size w10.heap.size u5 ⟨1 + a, A, x, 0, 0, 0, 0, 0, ⟨#[]⟩⟩ (w10.alloc (.cells (StepV.cells ⟨1 + a, A, x, 0, 0, 0, 0, 0, ⟨#[]⟩⟩) 62)) :=
    ⟨heap_alloc_new _ _, St.gr.1.size, fun e => by have := (World.ownsRow.lt St.own _ e).2; omega⟩
   replace St := St.below (below1 w10 (.cells (StepV.cells ⟨1 + a, A, x, 0, 0, 0, 0, 0, ⟨#[]⟩⟩) 62))
   simp only [StepV.cells] at SA St
   generalize w10.alloc _ = w11 at SA St
   generalize w10.heap.size = b at SA
   generalize (StepV.mk (1 + a) A x 0 0 0 0 0 ⟨#[]⟩) = s at SA
   replace SA := Lib.hid SA
   have hs82 : ss.length ≤ 81 := by omega
   have Hss := Lib.hid hsl; clear hsl
   cases calls
   ·go_upto_region 13 with fail
    obtain ⟨d0, d1, d2, d3, d4, d5, d6, d7, d8⟩ := step_cells SA.out.1
    go_wp2_with (at_builtin; go_must (refine wp_appendL (lo := w.heap.size) (n := ss.length) (xs := stepCells ss) (m := 1) (news := s.cells.toList) rfl rfl 62 _ 9 _ Tryz.underlying54 Tryz.infoStep rfl (by decide) rfl (ownsRow_below St.own (below1 _ _)) rfl (Rd.newsAt _ s.cells _ 9 1 _ (by simp) rfl (by simp [maxLen])) (by simp [StepV.cells, Value.oneCell']) (by unfold maxLen; omega) (by omega) (by have := St.gr.1.size; simp; omega) ?_; intro o' w9 k1 k2 k3 k4))
    go_roundw
    case rel => exact ⟨k + 1, ss ++ [s], by omega, by simp [Hss.out], by go_num, ((St.below (below1 _ _)).push k1 k2).mono (by omega)⟩
    case measure => simp [intOf]; omega
   ·go_wp2_with fail
    refine (St.dr.pick _ (by omega) (by decide)).mono ?_; rintro e w12 ⟨y, rfl, y0, y1, h7, g7⟩
    replace St := St.draw h7 g7
    replace SA := Lib.hid (SA.out.draw g7 St)
    clear h7 g7
    by_cases hy : y = 0
    ·subst hy
     obtain ⟨qm, q2, qe, qc, xs, c0, c1, c2, c3, Hi, hl⟩ := St.kern
     have Hi := Lib.hid Hi
     go_wp2_with fail
     refine (l92Other_any qm q2 qe qc xs St.dr (by omega) (Hi.out) hl).mono ?_; rintro e w13 ⟨v, rfl, ⟨y, rfl, hy⟩, h7, g7⟩
     replace St := St.draw h7 g7
     replace SA := Lib.hid (SA.out.draw g7 St)
     clear h7 g7 c0 c1 c2 c3 Hi hl
     obtain ⟨y0, y1, y2, y3, y4, y5⟩ := y
     simp only [CallV.val, CallV.cells]
     obtain ⟨d0, d1, d2, d3, d4, d5, d6, d7, d8⟩ := step_cells SA.out.1
     have hf := blk_frozen SA.out.1
     have SB := step_set SA.out.1 ⟨3, 0, 0, y0, y1, y2, y3, y4, y5⟩
     replace St := St.setStep SA.out.1 SA.out.2.1 SA.out.2.2 (StepV.cells ⟨3, 0, 0, y0, y1, y2, y3, y4, y5⟩).toList 0
     replace SA := Lib.hid (show StepAt w.heap.size b u5 _ _ from ⟨SB, SA.out.2⟩)
     clear SB
     go_upto_region 13 with fail
     simp only [StepV.cells, setMany, Nat.zero_add, Nat.reduceAdd] at St SA
     clear d0 d1 d2 d3 d4 d5 d6 d7 d8 hf
     generalize World.setCell _ ⟨b, 8, none⟩ (.string y5) = w14 at St SA ⊢
     clear s
     generalize (StepV.mk 3 0 0 y0 y1 y2 y3 y4 y5) = s at SA
     obtain ⟨d0, d1, d2, d3, d4, d5, d6, d7, d8⟩ := step_cells SA.out.1
     go_wp2_with (at_builtin; go_must (refine wp_appendL (lo := w.heap.size) (n := ss.length) (xs := stepCells ss) (m := 1) (news := s.cells.toList) rfl rfl 62 _ 9 _ Tryz.underlying54 Tryz.infoStep rfl (by decide) rfl (ownsRow_below St.own (below1 _ _)) rfl (Rd.newsAt _ s.cells _ 9 1 _ (by simp) rfl (by simp [maxLen])) (by simp [StepV.cells, Value.oneCell']) (by unfold maxLen; omega) (by omega) (by have := St.gr.1.size; simp; omega) ?_; intro o' w9 k1 k2 k3 k4))
     go_roundw
     case rel => exact ⟨k + 1, ss ++ [s], by omega, by simp [Hss.out], by go_num, ((St.below (below1 _ _)).push k1 k2).mono (by omega)⟩
     case measure => simp [intOf]; omega
    ·have t0 : (y == 0) = false := by simp [hy]
     clear hy
     go_upto_region 13 with fail
     obtain ⟨d0, d1, d2, d3, d4, d5, d6, d7, d8⟩ := step_cells SA.out.1
     go_wp2_with (at_builtin; go_must (refine wp_appendL (lo := w.heap.size) (n := ss.length) (xs := stepCells ss) (m := 1) (news := s.cells.toList) rfl rfl 62 _ 9 _ Tryz.underlying54 Tryz.infoStep rfl (by decide) rfl (ownsRow_below St.own (below1 _ _)) rfl (Rd.newsAt _ s.cells _ 9 1 _ (by simp) rfl (by simp [maxLen])) (by simp [StepV.cells, Value.oneCell']) (by unfold maxLen; omega) (by omega) (by have := St.gr.1.size; simp; omega) ?_; intro o' w9 k1 k2 k3 k4))
     go_roundw
     case rel => exact ⟨k + 1, ss ++ [s], by omega, by simp [Hss.out], by go_num, ((St.below (below1 _ _)).push k1 k2).mono (by omega)⟩
     case measure => simp [intOf]; omega
  ·by_cases hz : 0 < n
   ·go_wp2_with fail
    refine (St.dr.pick _ (by omega) (by decide)).mono ?_; rintro e w7 ⟨a, rfl, a0, a1, h7, g7⟩
    replace St := St.draw h7 g7
    clear h7 g7
    by_cases ha : a = 0
    ·subst ha
     go_wp2_with fail
     refine (St.dr.pick _ (by omega) (by omega)).mono ?_; rintro e w8 ⟨p, rfl, p0, p1, h7, g7⟩
     replace p1 := p1 (by omega)
     replace St := St.draw h7 g7
     clear h7 g7
     go_wp2_with fail
     refine (St.dr.pick _ (by omega) (by decide)).mono ?_; rintro e w10 ⟨q, rfl, q0, q1, h7, g7⟩
     replace q1 := q1 (by decide)
     replace St := St.draw h7 g7
     clear h7 g7
     go_wp2_with fail
     refine (l91Address_any St.dr (by omega)).mono ?_; rintro e w11 ⟨v, rfl, ⟨A, rfl⟩, h7, g7⟩
     replace St := St.draw h7 g7
     clear h7 g7
     go_wp2_with fail
     refine (St.dr.pick _ (by omega) (by decide)).mono ?_; rintro e w12 ⟨x, rfl, x0, x1, h7, g7⟩
     replace x1 := x1 (by decide)
     replace St := St.draw h7 g7
     clear h7 g7
     obtain ⟨qb, cq, rfl, hq, hql⟩ := own_shape St.own (by omega)
     obtain ⟨p, rfl⟩ := Int.eq_ofNat_of_zero_le p0
     have hp : p < ss.length := by omega
     have hs82 : ss.length ≤ 82 := by omega
     clear hsl
     have own := St.own
     obtain ⟨a', c', hv, hcc, hcm, H0⟩ := (OwnSteps.rd own).open
     simp only [Value.slice.injEq, true_and] at hv
     obtain ⟨rfl, rfl⟩ := hv
     obtain ⟨sx, hs⟩ : ∃ x, ss[p]? = some x := ⟨_, List.getElem?_eq_getElem hp⟩
     obtain ⟨b, off, hab, D0, D1, D2, D3, D4, D5, D6, D7, D8⟩ := H0.nine (Below.refl _ _) hs
     obtain ⟨rfl, rfl⟩ : qb = b ∧ 0 = off := by simpa using hab
     simp only [Nat.zero_add] at D0 D1 D2 D3 D4 D5 D6 D7 D8
     have F := World.ownsRow.frozenAt own
     have S := Lib.hid (setMany_own own (p * 9) 0 (stepCs ⟨q, A, 10000 * x, 0, 0, 0, 0, 0, ⟨#[]⟩⟩))
     clear hs hab own H0 hcc
     unfold maxLen at hcm
     go_wp2_with fail
     go_ret
     refine ⟨_, rfl, ⟨ss.set p ⟨q, A, 10000 * x, 0, 0, 0, 0, 0, ⟨#[]⟩⟩, ?_, by simpa using hs82⟩, (St.dr.keep S.out.2 (by simp; omega) (fun k hk => by cases hk; omega)).mono (by omega), grown_rowNew St.gr.1 S.out.2 hq⟩
     have S1 := S.out.1
     have e1 := flat_set (cs := stepCs) (sz := 9) (fun _ => rfl) hp ⟨q, A, 10000 * x, 0, 0, 0, 0, 0, ⟨#[]⟩⟩
     unfold OwnSteps
     rw [List.length_set]
     exact (show setList (stepCells ss) (p * 9) 0 _ = stepCells (ss.set p _) from e1) ▸ S1
    ·have t0 : (a == 0) = false := by simp [ha]
     clear ha
     go_wp2_with fail
     go_ret
     exact ⟨_, rfl, ⟨ss, St.own, by omega⟩, St.dr.mono (by omega), St.gr.1⟩
   ·go_wp2_with fail
    go_ret
    exact ⟨_, rfl, ⟨ss, St.own, by omega⟩, St.dr.mono (by omega), St.gr.1⟩
def DrewSteps (w : World) (e : Ending) (w' : World) : Prop := ∃ v ss, e = .returned v ∧ OwnSteps w.heap.size w' v ss ∧ ss.length ≤ 82 ∧ Below w.heap.size w w'
set_option maxHeartbeats 1000000 in
theorem DrawFlatPlay_any (v : Value) (bs : List Int) (w : World) (h : RdBytes w v bs) :
 Calls Tryz.prog 23 #[v] w (DrewSteps w) := by
 go_enter Tryz.func23, Tryz.ntmps23
 go_wp2_with fail
 refine (l6Open_any _ bs _ h).mono ?_; rintro e w1 ⟨R, rfl, hR, hb1⟩
 obtain ⟨g, rfl, hD⟩ := Dr.of hR hb1
 have hs := hb1.size
 go_wp2_with fail
 refine (hD.pick _ (by decide) (by decide)).mono ?_; rintro e w3 ⟨x, rfl, _, _, h3, g3⟩
 have hs3 := g3.size
 go_wp2_with fail
 refine (l92Steps_any _ h3 (by decide)).mono ?_; rintro e w2 ⟨v2, rfl, ⟨ss, hown, hl⟩, hD2, _⟩
 go_wp2_with fail
 go_ret
 exact ⟨_, ss, rfl, own_loV hown (by omega), hl, hD2.2.1⟩
def FlatRes (w : World) (xs : List Int) (e : Ending) (w' : World) : Prop := ∃ v', e = .returned v' ∧ OwnInts w.heap.size w' v' xs ∧ Below w.heap.size w w'
theorem FlatSt.start {w w1 w2 : World} {lo g : Nat} {o : Value} (h : w2.ownsRow lo 3 1 (.slice (some ⟨g, 0, none⟩) 64 64) 64 (List.replicate 64 (.int .i64 0))) (ho : OwnInts lo w2 o []) (hap : Apart o (.slice (some ⟨g, 0, none⟩) 64 64)) (hb : Below lo w w2) (hl : lo ≤ w2.heap.size) : FlatSt lo g o (flatRun []) w w2 :=
 ⟨by unfold OwnInts; simpa [flatRun] using h, ho, hap, hb, hl⟩
set_option maxRecDepth 100000 in
set_option maxHeartbeats 4000000 in
theorem FlatPlay_impl (v : Value) (ss : List StepV) (w : World) (h : RdSteps w v ss) :
 Calls Tryz.prog 24 #[v] w (FlatRes w (flatOut ss)) := by
 obtain ⟨a, c, hv, hc, hcm, H0⟩ := h.open
 subst hv
 unfold maxLen at hcm
 cases hok : stepsOk ss
 ·have S := Lib.hid (show flatOut ss = [] by simp [flatOut, hok])
  have Hok := Lib.hid hok; clear hok
  go_enter Tryz.func24, Tryz.ntmps24
  go_wp2_with fail
  refine (StepsValid_impl _ ss _ h).mono ?_; rintro e w1 ⟨rfl, b1⟩; rw [Hok.out]
  go_wp2_with fail
  go_ret
  exact ⟨_, rfl, by rw [S.out]; exact World.ownsRow_nil _ _ _ _, b1⟩
 have S := Lib.hid (show flatOut ss = (flatRun ss).2 by simp [flatOut, hok])
 have Hok := Lib.hid hok; clear hok
 have hlen := stepsOk_len Hok.out
 go_enter Tryz.func24, Tryz.ntmps24
 go_wp2_with fail
 refine (StepsValid_impl _ ss _ h).mono ?_; rintro e w1 ⟨rfl, b1⟩; rw [Hok.out]
 have hsz1 := b1.size
 go_wp2_with (refine wp_make (n := 64) rfl rfl 3 (.int .i64 0) 8 Tryz.underlying38 Tryz.infoInt rfl rfl (by omega) (by unfold maxLen; omega) ?_; intro w2 hown hbel hsz)
 have St : FlatSt w.heap.size w1.heap.size (.slice none 0 0) (flatRun []) w w2 :=
  ⟨by unfold OwnInts; simpa [flatRun] using own_loV hown hsz1, World.ownsRow_nil _ _ _ _, fun k hk => by simp [Value.ownBlock] at hk, b1.trans (hbel.mono hsz1), Nat.le_trans hsz1 hbel.size⟩
 clear hown hbel hsz
 go_wp2_with fail
 generalize hw1 : w1.heap.size = g at St
 clear hw1
 go_loopw [4, 6, 13] (fun o _ i wr => ∃ k : Nat, k ≤ ss.length ∧ i = .int .i64 k ∧ FlatSt w.heap.size g o (flatRun (ss.take k)) w wr) (fun _ _ i _ => ss.length - (intOf i).toNat)
 case atStart => exact ⟨0, Nat.zero_le _, rfl, St⟩
 case round =>
  clear St
  obtain ⟨k, hk, rfl, St⟩ := hrel
  by_cases hlt : k < ss.length
  ·obtain ⟨s, hs⟩ : ∃ s, ss[k]? = some s := ⟨_, List.getElem?_eq_getElem hlt⟩
   obtain ⟨b, off, rfl, D0, D1, D2, D3, D4, D5, D6, D7, D8⟩ := H0.nine St.2.2.2.1 hs
   have hsok := stepsOk_at Hok.out hs
   have Nx := Lib.hid (flatRun_next hs)
   have Hs := Lib.hid hs; clear hs
   have hol := flatRun_out (ss.take k)
   have htk : (ss.take k).length ≤ 80 := by rw [List.length_take]; omega
   have hwl := flatRun_len (ss.take k)
   generalize flatRun (ss.take k) = st at St Nx hol hwl
   have Hwl := Lib.hid hwl; clear hwl
   obtain ⟨sk, sa, sx, ck, ce, ca, cb, cc, nm⟩ := s
   dsimp only at D0 D1 D2 D3 D4 D5 D6 D7 D8
   by_cases h1 : sk = 1
   ·obtain ⟨ha0, ha1⟩ := ok_load hsok h1
    dsimp only at ha0 ha1
    rw [flatStep1 h1] at Nx
    subst h1
    clear hsok
    obtain ⟨j, rfl⟩ := Int.eq_ofNat_of_zero_le ha0
    have St1 := St.below (below1 wr (.cells #[.int .i64 1, .int .i64 j, .int .i64 sx, .int .i64 ck, .int .i64 ce, .int .i64 ca, .int .i64 cb, .int .i64 cc, .string nm] 62))
    have C : (wr.alloc (.cells #[.int .i64 1, .int .i64 j, .int .i64 sx, .int .i64 ck, .int .i64 ce, .int .i64 ca, .int .i64 cb, .int .i64 cc, .string nm] 62)).cell? ⟨g, j, none⟩ = some (.int .i64 (nth st.1 j)) := by
     have hw1 := Hwl.out
     have := St1.1
     unfold OwnInts at this
     rw [hw1] at this
     exact (this.cellAt j (by omega)).trans (getElem_ints (by omega))
    generalize hx : nth st.1 j = x at C
    have Hx := Lib.hid hx; clear hx
    have h2len : st.2.length ≤ 80 := by omega
    go_wp2_with (at_builtin; go_must (refine wp_appendL (lo := w.heap.size) (n := st.2.length) (xs := st.2.map (Value.int .i64)) (m := 1) (news := [.int .i64 x]) rfl rfl 3 (.int .i64 0) 1 8 Tryz.underlying38 Tryz.infoInt rfl (by decide) rfl (St1.below (below1 _ _)).2.1 rfl (Rd.newsAt _ #[_] _ 1 1 _ (by simp) rfl (by simp [maxLen])) (by simp [Value.oneCell']) (by unfold maxLen; omega) (by omega) (St1.below (below1 _ _)).2.2.2.2 ?_; intro o' w3 g1 g2 g3 g4))
    go_roundw
    case rel => exact ⟨k + 1, by omega, by go_num, by rw [Nx.out, Int.toNat_natCast, Hx.out]; exact (St1.below (below1 _ _)).load g1 g2 g3 g4⟩
    case measure => simp [intOf]; omega
   ·by_cases h2 : sk = 2
    ·obtain ⟨ha0, ha1⟩ := ok_store hsok h2
     dsimp only at ha0 ha1
     rw [flatStep2 h2] at Nx
     subst h2
     clear hsok h1
     obtain ⟨j, rfl⟩ := Int.eq_ofNat_of_zero_le ha0
     have St1 := St.below (below1 wr (.cells #[.int .i64 2, .int .i64 j, .int .i64 sx, .int .i64 ck, .int .i64 ce, .int .i64 ca, .int .i64 cb, .int .i64 cc, .string nm] 62))
     have own1 := St1.1
     unfold OwnInts at own1
     rw [Hwl.out] at own1
     have C := (own1.cellAt j (by omega)).trans (getElem_ints (xs := st.1) (by have := Hwl.out; omega))
     have F := own1.frozenAt j
     clear own1
     go_wp2_with fail
     go_roundw
     case rel => exact ⟨k + 1, by omega, by go_num, by rw [Nx.out, Int.toNat_natCast]; exact St1.store Hwl.out j sx⟩
     case measure => simp [intOf]; omega
    ·have t1 : (sk == 1) = false := by simp [h1]
     have t2 : (sk == 2) = false := by simp [h2]
     rw [flatStep3 h1 h2] at Nx
     clear h1 h2
     go_wp2_with fail
     go_roundw
     case rel => exact ⟨k + 1, by omega, by go_num, by rw [Nx.out]; exact St.below (below1 _ _)⟩
     case measure => simp [intOf]; omega
  ·have e1 : ss.take k = ss := List.take_of_length_le (by omega)
   rw [e1] at St
   go_wp2_with fail
   go_ret
   exact ⟨_, rfl, by rw [S.out]; exact St.2.1, St.2.2.2.1⟩
set_option maxRecDepth 100000 in
set_option maxHeartbeats 4000000 in
theorem FlatPlay_spec (v : Value) (ss : List StepV) (w : World) (h : RdSteps w v ss) :
 Calls Tryz.prog 25 #[v] w (FlatRes w (flatOut ss)) := by
 obtain ⟨a, c, hv, hc, hcm, H0⟩ := h.open
 subst hv
 unfold maxLen at hcm
 cases hok : stepsOk ss
 ·have S := Lib.hid (show flatOut ss = [] by simp [flatOut, hok])
  have Hok := Lib.hid hok; clear hok
  go_enter Tryz.func25, Tryz.ntmps25
  go_wp2_with (at_make; go_must (refine wp_make (n := 64) rfl rfl 3 (.int .i64 0) 8 Tryz.underlying38 Tryz.infoInt rfl rfl (by omega) (by unfold maxLen; omega) ?_; intro w2 hown hbel hsz))
  have o2 := ownsRow_below (ownsRow_empty w 3 1) hbel
  have b2 := (below1 w _).trans (hbel.mono (by simp))
  simp only [World.size_alloc] at hown hsz ⊢
  clear hown hbel hsz
  have hE : ∀ w', Below w2.heap.size w2 w' → FlatRes w (flatOut ss) (.returned (.slice (some ⟨w.heap.size, 0, none⟩) 0 0)) w' := fun w' hb =>
   ⟨_, rfl, by rw [S.out]; exact ownsRow_below o2 hb, b2.trans (hb.mono b2.size)⟩
  have HE := Lib.hid hE; clear hE o2
  by_cases hz : 0 < ss.length
  ·go_wp2_with fail
   refine wp_loop_rounds 1 ?_; rw [rounds_succ]
   go_wp2_with fail
   refine (StepsValid_spec _ ss _ (Rd.below h b2)).mono ?_; rintro e w3 ⟨rfl, b3⟩; rw [Hok.out]
   go_wp2_with fail
   go_ret
   exact HE.out _ b3
  ·go_wp2_with fail
   refine wp_loop_rounds 1 ?_; rw [rounds_succ]
   go_wp2_with fail
   go_ret
   exact HE.out _ (Below.refl _ _)
 have S := Lib.hid (show flatOut ss = (flatRun ss).2 by simp [flatOut, hok])
 have Hok := Lib.hid hok; clear hok
 have hlen := stepsOk_len Hok.out
 go_enter Tryz.func25, Tryz.ntmps25
 go_wp2_with (at_make; go_must (refine wp_make (n := 64) rfl rfl 3 (.int .i64 0) 8 Tryz.underlying38 Tryz.infoInt rfl rfl (by omega) (by unfold maxLen; omega) ?_; intro w2 hown hbel hsz))
 have o2 := ownsRow_below (ownsRow_empty w 3 1) hbel
 have b2 := (below1 w _).trans (hbel.mono (by simp))
 simp only [World.size_alloc] at hown hsz ⊢
 have St : FlatSt w.heap.size (w.heap.size + 1) (.slice (some ⟨w.heap.size, 0, none⟩) 0 0) (flatRun []) w w2 :=
  ⟨by unfold OwnInts; simpa [flatRun] using own_loV hown (by omega), by simpa [OwnInts, flatRun] using o2, fun k hk => by simp [Value.ownBlock] at hk ⊢; omega, b2, b2.size⟩
 clear hown hbel hsz o2 b2
 generalize hw1 : w.heap.size + 1 = g at St
 generalize (Value.slice (some { block := w.heap.size, off := 0 }) 0 0) = o0 at St
 clear hw1
 go_wp2_with fail
 go_loopw [3, 5] (fun o i wr => ∃ k : Nat, k ≤ ss.length ∧ i = .int .i64 k ∧ FlatSt w.heap.size g o (flatRun (ss.take k)) w wr) (fun _ i _ => ss.length - (intOf i).toNat)
 case atStart => exact ⟨0, Nat.zero_le _, rfl, St⟩
 case round =>
  clear St
  obtain ⟨k, hk, rfl, St⟩ := hrel
  by_cases hlt : k < ss.length
  ·go_wp2_with fail
   refine (StepsValid_spec _ ss _ (Rd.below h St.2.2.2.1)).mono ?_; rintro e w3 ⟨rfl, b3⟩; rw [Hok.out]
   replace St := St.below b3
   clear b3
   obtain ⟨s, hs⟩ : ∃ s, ss[k]? = some s := ⟨_, List.getElem?_eq_getElem hlt⟩
   obtain ⟨b, off, rfl, D0, D1, D2, _, _, _, _, _, _⟩ := H0.nine St.2.2.2.1 hs
   have hsok := stepsOk_at Hok.out hs
   have Nx := Lib.hid (flatRun_next hs)
   have Hs := Lib.hid hs; clear hs
   have hol := flatRun_out (ss.take k)
   have htk : (ss.take k).length ≤ 80 := by rw [List.length_take]; omega
   have hwl := flatRun_len (ss.take k)
   generalize flatRun (ss.take k) = st at St Nx hol hwl
   have Hwl := Lib.hid hwl; clear hwl
   obtain ⟨sk, sa, sx, ck, ce, ca, cb, cc, nm⟩ := s
   dsimp only at D0 D1 D2
   by_cases h1 : sk = 1
   ·obtain ⟨ha0, ha1⟩ := ok_load hsok h1
    dsimp only at ha0 ha1
    rw [flatStep1 h1] at Nx
    subst h1
    clear hsok
    obtain ⟨j, rfl⟩ := Int.eq_ofNat_of_zero_le ha0
    have C : w3.cell? ⟨g, j, none⟩ = some (.int .i64 (nth st.1 j)) := by
     have hw1 := Hwl.out
     have := St.1
     unfold OwnInts at this
     rw [hw1] at this
     exact (this.cellAt j (by omega)).trans (getElem_ints (by omega))
    generalize hx : nth st.1 j = x at C
    have Hx := Lib.hid hx; clear hx
    have h2len : st.2.length ≤ 80 := by omega
    go_wp2_with (at_builtin; go_must (refine wp_appendL (lo := w.heap.size) (n := st.2.length) (xs := st.2.map (Value.int .i64)) (m := 1) (news := [.int .i64 x]) rfl rfl 3 (.int .i64 0) 1 8 Tryz.underlying38 Tryz.infoInt rfl (by decide) rfl (St.below (below1 _ _)).2.1 rfl (Rd.newsAt _ #[_] _ 1 1 _ (by simp) rfl (by simp [maxLen])) (by simp [Value.oneCell']) (by unfold maxLen; omega) (by omega) (St.below (below1 _ _)).2.2.2.2 ?_; intro o' w4 g1 g2 g3 g4))
    go_roundw
    case rel => exact ⟨k + 1, by omega, by go_num, by rw [Nx.out, Int.toNat_natCast, Hx.out]; exact (St.below (below1 _ _)).load g1 g2 g3 g4⟩
    case measure => simp [intOf]; omega
   ·by_cases h2 : sk = 2
    ·obtain ⟨ha0, ha1⟩ := ok_store hsok h2
     dsimp only at ha0 ha1
     rw [flatStep2 h2] at Nx
     subst h2
     clear hsok h1
     obtain ⟨j, rfl⟩ := Int.eq_ofNat_of_zero_le ha0
     have hj1 : (j : Int) < 64 := by omega
     have hk1 : (k : Int) < ss.length := by omega
     go_wp2_with fail
     go_still_tail 12, (by kernel_rfl)
     change wpList _ _ _ _ _ w3.drew
     have Std : FlatSt w.heap.size g _ st w w3.drew := St.below (below_drewN (Below.refl _ _) 1)
     clear D0 D1 D2 St
     generalize w3.drew = w4 at Std
     have own1 := Std.1
     unfold OwnInts at own1
     rw [Hwl.out] at own1
     have C := (own1.cellAt j (by omega)).trans (getElem_ints (xs := st.1) (by have := Hwl.out; omega))
     have F := own1.frozenAt j
     clear own1
     go_wp2_with fail
     go_roundw
     case rel => exact ⟨k + 1, by omega, by go_num, by rw [Nx.out, Int.toNat_natCast]; exact Std.store Hwl.out j sx⟩
     case measure => simp [intOf]; omega
    ·have t1 : (sk == 1) = false := by simp [h1]
     have t2 : (sk == 2) = false := by simp [h2]
     rw [flatStep3 h1 h2] at Nx
     clear h1 h2
     go_wp2_with fail
     go_roundw
     case rel => exact ⟨k + 1, by omega, by go_num, by rw [Nx.out]; exact St⟩
     case measure => simp [intOf]; omega
  ·have e1 : ss.take k = ss := List.take_of_length_le (by omega)
   rw [e1] at St
   go_wp2_with fail
   go_ret
   exact ⟨_, rfl, by rw [S.out]; exact St.2.1, St.2.2.2.1⟩
section
variable {P : Program} {l : List Oper} {i : Nat} {o o' : Oper} {a a0 : Act} {w : World} {K : Act → World → Prop} {Q : Exit → Act → World → Prop} {R : Value → World → Prop} {x y z : Operand} {v u : Value}
def Wtd (l : List Oper) (o : Oper) (a : Act) : Prop := Region.wanted o (yielded l.toArray a.tmps) = true
theorem gn (h : o.guard = none) : Wtd l o a := by simp [Wtd, Region.wanted, h]
theorem gy {g d : Nat} {b : Bool} (hg : o.guard = some (g, b)) (hd : (l[g]?).bind (·.dst) = some d) (hv : a.tmps[d]?.getD undef = .bool b) : Wtd l o a := by simp [Wtd, Region.wanted, hg, yield_at hd hv]
theorem et {t : Nat} (h : a.tmps[t]?.getD undef = v) : a.eval (.tmp t) = v := eval_tmp h
theorem eb {t : Nat} (h : a.tmps[t]? = a0.tmps[t]?) : a.eval (.tmp t) = a0.tmps[t]?.getD undef := eval_tmp (by rw [h])
theorem eg {t : Nat} (h : a.tmps[t]? = a0.tmps[t]?) : a.tmps[t]?.getD undef = a0.tmps[t]?.getD undef := by rw [h]
theorem bc {B b off : Nat} {w0 : World} (hG : Below B w0 w) (hlt : b < B) (h : w0.cell? ⟨b, off, none⟩ = some v) : w.cell? ⟨b, off, none⟩ = some v := (hG.cell (p := ⟨b, off, none⟩) hlt).trans h
theorem dV (ho : l[i]? = some o) (e : l[i]? = some o') (hw : Wtd l o' a) (HK : Hid (∀ v w', R v w' → Below w.heap.size w w' → K (a.put o.dst v) w')) (hr : (execOp a.eval o').run P w = .ok (.value v) w) (hR : R v w) : Does P l o a w K Q := by
 obtain rfl := Option.some.inj (ho.symm.trans e)
 exact ⟨fun _ => by unfold Oper.wp; rw [hr]; exact HK.out _ _ hR (Below.refl _ _), fun h => by rw [show Region.wanted o (yielded l.toArray a.tmps) = true from hw] at h; cases h⟩
theorem dM (ho : l[i]? = some o) (e : l[i]? = some o') (hw : Wtd l o' a) (HK : Hid (∀ v w', R v w' → Below w.heap.size w w' → K (a.put o.dst v) w')) (hop : o'.op = .move x) (hx : a.eval x = v) (hR : R v w) : Does P l o a w K Q :=
 dV ho e hw HK (by unfold execOp; rw [hop, ← hx]; rfl) hR
theorem dA (ho : l[i]? = some o) (e : l[i]? = some o') (hw : Wtd l o' a) (HK : Hid (∀ v w', R v w' → Below w.heap.size w w' → K (a.put o.dst v) w')) (hop : o'.op = .assign x) (hx : a.eval x = v) (hR : R v w) : Does P l o a w K Q :=
 dV ho e hw HK (by unfold execOp; rw [hop, ← hx]; rfl) hR
theorem dC {p : Addr} (ho : l[i]? = some o) (e : l[i]? = some o') (hw : Wtd l o' a) (HK : Hid (∀ v w', R v w' → Below w.heap.size w w' → K (a.put o.dst v) w')) (hop : o'.op = .nilCheck x) (hx : a.eval x = .pointer (some p)) (hR : R (.pointer (some p)) w) : Does P l o a w K Q :=
 dV ho e hw HK (by unfold execOp; rw [hop]; simp only [hx]; rfl) hR
theorem dF {s f b off k : Nat} (ho : l[i]? = some o) (e : l[i]? = some o') (hw : Wtd l o' a) (HK : Hid (∀ v w', R v w' → Below w.heap.size w w' → K (a.put o.dst v) w')) (hop : o'.op = .fieldAddr s x f) (hf : ∀ b off w, (Instr.fieldAt s (.pointer (some ⟨b, off, none⟩)) f).run P w = .ok (.pointer (some ⟨b, off + k, none⟩)) w) (hx : a.eval x = .pointer (some ⟨b, off, none⟩)) (hR : R (.pointer (some ⟨b, off + k, none⟩)) w) : Does P l o a w K Q :=
 dV ho e hw HK (by unfold execOp; rw [hop]; simp only [hx, Sem.run_bind, hf, Result.andThen_ok]; rfl) hR
theorem dL {t : Nat} {p : Addr} (ho : l[i]? = some o) (e : l[i]? = some o') (hw : Wtd l o' a) (HK : Hid (∀ v w', R v w' → Below w.heap.size w w' → K (a.put o.dst v) w')) (hop : o'.op = .load t x) (hx : a.eval x = .pointer (some p)) (hl : (Instr.loadAt t (.pointer (some p))).run P w = .ok v w) (hR : R v w) : Does P l o a w K Q :=
 dV ho e hw HK (by unfold execOp; rw [hop]; simp only [hx, Sem.run_bind, hl, Result.andThen_ok]; rfl) hR
theorem dN {b : Bool} {t : Nat} (ho : l[i]? = some o) (e : l[i]? = some o') (hw : Wtd l o' a) (HK : Hid (∀ v w', R v w' → Below w.heap.size w w' → K (a.put o.dst v) w')) (hop : o'.op = .unOp .not t x) (hx : a.eval x = .bool b) (hR : R (.bool (!b)) w) : Does P l o a w K Q :=
 dV ho e hw HK (by unfold execOp; rw [hop]; simp only [hx]; rfl) hR
theorem dT (ho : l[i]? = some o) (e : l[i]? = some o') (hw : Wtd l o' a) (HK : Hid (∀ v w', R v w' → Below w.heap.size w w' → K (a.put o.dst v) w')) (hop : o'.op = .pick x y z) (hx : a.eval x = .bool true) (hy : a.eval y = v) (hR : R v w) : Does P l o a w K Q :=
 dV ho e hw HK (by unfold execOp; rw [hop]; simp only [hx, hy]; rfl) hR
theorem dE (ho : l[i]? = some o) (e : l[i]? = some o') (hw : Wtd l o' a) (HK : Hid (∀ v w', R v w' → Below w.heap.size w w' → K (a.put o.dst v) w')) (hop : o'.op = .pick x y z) (hx : a.eval x = .bool false) (hz : a.eval z = v) (hR : R v w) : Does P l o a w K Q :=
 dV ho e hw HK (by unfold execOp; rw [hop]; simp only [hx, hz]; rfl) hR
theorem dB {g d : Nat} {b : Bool} (ho : l[i]? = some o) (e : l[i]? = some o') (HK : Hid (∀ v w', R v w' → Below w.heap.size w w' → K (a.put o.dst v) w')) (hg : o'.guard = some (g, b)) (hd : (l[g]?).bind (·.dst) = some d) (hv : a.tmps[d]?.getD undef = .bool (!b)) (hR : R undef w) : Does P l o a w K Q := by
 obtain rfl := Option.some.inj (ho.symm.trans e)
 exact Does.no hg hd hv (HK.out _ _ hR (Below.refl _ _))
end
section
variable {b off : Nat} {w : World} {v0 v1 v2 v3 v4 v5 v6 v7 v8 v9 : Value}
theorem fA33_0 : ∀ b off w, (Instr.fieldAt 33 (.pointer (some ⟨b, off, none⟩)) 0).run Tryz.prog w = .ok (.pointer (some ⟨b, off + 0, none⟩)) w := fun b off w => by go_simp
theorem fA33_1 : ∀ b off w, (Instr.fieldAt 33 (.pointer (some ⟨b, off, none⟩)) 1).run Tryz.prog w = .ok (.pointer (some ⟨b, off + 1, none⟩)) w := fun b off w => by go_simp
theorem fA33_2 : ∀ b off w, (Instr.fieldAt 33 (.pointer (some ⟨b, off, none⟩)) 2).run Tryz.prog w = .ok (.pointer (some ⟨b, off + 2, none⟩)) w := fun b off w => by go_simp
theorem fA33_3 : ∀ b off w, (Instr.fieldAt 33 (.pointer (some ⟨b, off, none⟩)) 3).run Tryz.prog w = .ok (.pointer (some ⟨b, off + 3, none⟩)) w := fun b off w => by go_simp
theorem fA46_0 : ∀ b off w, (Instr.fieldAt 46 (.pointer (some ⟨b, off, none⟩)) 0).run Tryz.prog w = .ok (.pointer (some ⟨b, off + 0, none⟩)) w := fun b off w => by go_simp
theorem fA46_1 : ∀ b off w, (Instr.fieldAt 46 (.pointer (some ⟨b, off, none⟩)) 1).run Tryz.prog w = .ok (.pointer (some ⟨b, off + 4, none⟩)) w := fun b off w => by go_simp
theorem fA46_2 : ∀ b off w, (Instr.fieldAt 46 (.pointer (some ⟨b, off, none⟩)) 2).run Tryz.prog w = .ok (.pointer (some ⟨b, off + 5, none⟩)) w := fun b off w => by go_simp
theorem fA46_3 : ∀ b off w, (Instr.fieldAt 46 (.pointer (some ⟨b, off, none⟩)) 3).run Tryz.prog w = .ok (.pointer (some ⟨b, off + 6, none⟩)) w := fun b off w => by go_simp
theorem fA46_4 : ∀ b off w, (Instr.fieldAt 46 (.pointer (some ⟨b, off, none⟩)) 4).run Tryz.prog w = .ok (.pointer (some ⟨b, off + 7, none⟩)) w := fun b off w => by go_simp
theorem fA46_5 : ∀ b off w, (Instr.fieldAt 46 (.pointer (some ⟨b, off, none⟩)) 5).run Tryz.prog w = .ok (.pointer (some ⟨b, off + 8, none⟩)) w := fun b off w => by go_simp
theorem fA60_1 : ∀ b off w, (Instr.fieldAt 60 (.pointer (some ⟨b, off, none⟩)) 1).run Tryz.prog w = .ok (.pointer (some ⟨b, off + 1, none⟩)) w := fun b off w => by go_simp
theorem fA60_2 : ∀ b off w, (Instr.fieldAt 60 (.pointer (some ⟨b, off, none⟩)) 2).run Tryz.prog w = .ok (.pointer (some ⟨b, off + 2, none⟩)) w := fun b off w => by go_simp
theorem fA60_3 : ∀ b off w, (Instr.fieldAt 60 (.pointer (some ⟨b, off, none⟩)) 3).run Tryz.prog w = .ok (.pointer (some ⟨b, off + 3, none⟩)) w := fun b off w => by go_simp
theorem fA60_4 : ∀ b off w, (Instr.fieldAt 60 (.pointer (some ⟨b, off, none⟩)) 4).run Tryz.prog w = .ok (.pointer (some ⟨b, off + 4, none⟩)) w := fun b off w => by go_simp
theorem fA60_5 : ∀ b off w, (Instr.fieldAt 60 (.pointer (some ⟨b, off, none⟩)) 5).run Tryz.prog w = .ok (.pointer (some ⟨b, off + 5, none⟩)) w := fun b off w => by go_simp
theorem fA80_0 : ∀ b off w, (Instr.fieldAt 80 (.pointer (some ⟨b, off, none⟩)) 0).run Tryz.prog w = .ok (.pointer (some ⟨b, off + 0, none⟩)) w := fun b off w => by go_simp
theorem fA80_1 : ∀ b off w, (Instr.fieldAt 80 (.pointer (some ⟨b, off, none⟩)) 1).run Tryz.prog w = .ok (.pointer (some ⟨b, off + 1, none⟩)) w := fun b off w => by go_simp
theorem fA89_0 : ∀ b off w, (Instr.fieldAt 89 (.pointer (some ⟨b, off, none⟩)) 0).run Tryz.prog w = .ok (.pointer (some ⟨b, off + 0, none⟩)) w := fun b off w => by go_simp
theorem fA89_2 : ∀ b off w, (Instr.fieldAt 89 (.pointer (some ⟨b, off, none⟩)) 2).run Tryz.prog w = .ok (.pointer (some ⟨b, off + 2, none⟩)) w := fun b off w => by go_simp
theorem fA96_0 : ∀ b off w, (Instr.fieldAt 96 (.pointer (some ⟨b, off, none⟩)) 0).run Tryz.prog w = .ok (.pointer (some ⟨b, off + 0, none⟩)) w := fun b off w => by go_simp
theorem fA96_2 : ∀ b off w, (Instr.fieldAt 96 (.pointer (some ⟨b, off, none⟩)) 2).run Tryz.prog w = .ok (.pointer (some ⟨b, off + 2, none⟩)) w := fun b off w => by go_simp
theorem fA150_0 : ∀ b off w, (Instr.fieldAt 150 (.pointer (some ⟨b, off, none⟩)) 0).run Tryz.prog w = .ok (.pointer (some ⟨b, off + 0, none⟩)) w := fun b off w => by go_simp
theorem fA150_1 : ∀ b off w, (Instr.fieldAt 150 (.pointer (some ⟨b, off, none⟩)) 1).run Tryz.prog w = .ok (.pointer (some ⟨b, off + 1, none⟩)) w := fun b off w => by go_simp
theorem fA169_1 : ∀ b off w, (Instr.fieldAt 169 (.pointer (some ⟨b, off, none⟩)) 1).run Tryz.prog w = .ok (.pointer (some ⟨b, off + 1, none⟩)) w := fun b off w => by go_simp
theorem lA3 (h : w.cell? ⟨b, off, none⟩ = some v0) : (Instr.loadAt 3 (.pointer (some ⟨b, off, none⟩))).run Tryz.prog w = .ok v0 w := by go_simp
theorem lA9 (h : w.cell? ⟨b, off, none⟩ = some v0) : (Instr.loadAt 9 (.pointer (some ⟨b, off, none⟩))).run Tryz.prog w = .ok v0 w := by go_simp
theorem lA28 (h : w.cell? ⟨b, off, none⟩ = some v0) : (Instr.loadAt 28 (.pointer (some ⟨b, off, none⟩))).run Tryz.prog w = .ok v0 w := by go_simp
theorem lA29 (h : w.cell? ⟨b, off, none⟩ = some v0) : (Instr.loadAt 29 (.pointer (some ⟨b, off, none⟩))).run Tryz.prog w = .ok v0 w := by go_simp
theorem lA30 (h : w.cell? ⟨b, off, none⟩ = some v0) : (Instr.loadAt 30 (.pointer (some ⟨b, off, none⟩))).run Tryz.prog w = .ok v0 w := by go_simp
theorem lA31 (h : w.cell? ⟨b, off, none⟩ = some v0) : (Instr.loadAt 31 (.pointer (some ⟨b, off, none⟩))).run Tryz.prog w = .ok v0 w := by go_simp
theorem lA33 (h0 : w.cell? ⟨b, off, none⟩ = some v0) (h1 : w.cell? ⟨b, off + 1, none⟩ = some v1) (h2 : w.cell? ⟨b, off + 2, none⟩ = some v2) (h3 : w.cell? ⟨b, off + 3, none⟩ = some v3) : (Instr.loadAt 33 (.pointer (some ⟨b, off, none⟩))).run Tryz.prog w = .ok (.agg #[v0, v1, v2, v3]) w := by go_simp
theorem lA36 (h : w.cell? ⟨b, off, none⟩ = some v0) : (Instr.loadAt 36 (.pointer (some ⟨b, off, none⟩))).run Tryz.prog w = .ok v0 w := by go_simp
theorem lA38 (h : w.cell? ⟨b, off, none⟩ = some v0) : (Instr.loadAt 38 (.pointer (some ⟨b, off, none⟩))).run Tryz.prog w = .ok v0 w := by go_simp
theorem lA44 (h : w.cell? ⟨b, off, none⟩ = some v0) : (Instr.loadAt 44 (.pointer (some ⟨b, off, none⟩))).run Tryz.prog w = .ok v0 w := by go_simp
theorem lA46 (h0 : w.cell? ⟨b, off, none⟩ = some v0) (h1 : w.cell? ⟨b, off + 1, none⟩ = some v1) (h2 : w.cell? ⟨b, off + 2, none⟩ = some v2) (h3 : w.cell? ⟨b, off + 3, none⟩ = some v3) (h4 : w.cell? ⟨b, off + 4, none⟩ = some v4) (h5 : w.cell? ⟨b, off + 5, none⟩ = some v5) (h6 : w.cell? ⟨b, off + 6, none⟩ = some v6) (h7 : w.cell? ⟨b, off + 7, none⟩ = some v7) (h8 : w.cell? ⟨b, off + 8, none⟩ = some v8) : (Instr.loadAt 46 (.pointer (some ⟨b, off, none⟩))).run Tryz.prog w = .ok (.agg #[v0, v1, v2, v3, v4, v5, v6, v7, v8]) w := by go_simp
theorem lA60 (h0 : w.cell? ⟨b, off, none⟩ = some v0) (h1 : w.cell? ⟨b, off + 1, none⟩ = some v1) (h2 : w.cell? ⟨b, off + 2, none⟩ = some v2) (h3 : w.cell? ⟨b, off + 3, none⟩ = some v3) (h4 : w.cell? ⟨b, off + 4, none⟩ = some v4) (h5 : w.cell? ⟨b, off + 5, none⟩ = some v5) : (Instr.loadAt 60 (.pointer (some ⟨b, off, none⟩))).run Tryz.prog w = .ok (.agg #[v0, v1, v2, v3, v4, v5]) w := by go_simp
theorem lA148 (h : w.cell? ⟨b, off, none⟩ = some v0) : (Instr.loadAt 148 (.pointer (some ⟨b, off, none⟩))).run Tryz.prog w = .ok v0 w := by go_simp
theorem lA150 (h0 : w.cell? ⟨b, off, none⟩ = some v0) (h1 : w.cell? ⟨b, off + 1, none⟩ = some v1) (h2 : w.cell? ⟨b, off + 2, none⟩ = some v2) (h3 : w.cell? ⟨b, off + 3, none⟩ = some v3) (h4 : w.cell? ⟨b, off + 4, none⟩ = some v4) (h5 : w.cell? ⟨b, off + 5, none⟩ = some v5) (h6 : w.cell? ⟨b, off + 6, none⟩ = some v6) : (Instr.loadAt 150 (.pointer (some ⟨b, off, none⟩))).run Tryz.prog w = .ok (.agg #[v0, v1, v2, v3, v4, v5, v6]) w := by go_simp
theorem lA169 (h0 : w.cell? ⟨b, off, none⟩ = some v0) (h1 : w.cell? ⟨b, off + 1, none⟩ = some v1) (h2 : w.cell? ⟨b, off + 2, none⟩ = some v2) : (Instr.loadAt 169 (.pointer (some ⟨b, off, none⟩))).run Tryz.prog w = .ok (.agg #[v0, v1, v2]) w := by go_simp
end
section
variable {P : Program}
theorem wp_region_grow {id : Nat} {Q : Exit → Act → World → Prop} {a0 : Act} {w0 : World} {l : List Oper} (n : Nat) (hm : P.follows .mixedOrders = true) (hB : postsB l n = true)
 (N : Nat) (hN : a0.tmps.size = N) (hD : dstB l n N = true) (R : Nat → Value → World → Prop) (hmono : ∀ i, i < n → ∀ v w w', Below w.heap.size w w' → R i v w → R i v w')
 (hstep : ∀ i, i < n → ∀ o, l[i]? = some o → ∀ a w, Hid (a.defers = a0.defers ∧ a.tmps.size = a0.tmps.size ∧ ∀ t, (∀ i, i < n → dstOf l i ≠ t) → a.tmps[t]? = a0.tmps[t]?) →
  Hid (∀ j, Region.waitsFor .any l.toArray i j = true → R j (a.tmps[dstOf l j]?.getD undef) w) → Below w0.heap.size w0 w →
  ∀ K : Act → World → Prop, Hid (∀ v w', R i v w' → Below w.heap.size w w' → K (a.put o.dst v) w') → Does P l o a w K Q)
 (htail : ∀ (vs : Nat → Value) w, (∀ i, i < n → R i (vs i) w) → Below w0.heap.size w0 w → wpList P l.toArray Q (l.drop n) { a0 with tmps := fillAt l (List.range n) vs a0.tmps } w) :
 (Code.region id l.toArray true).wp P Q a0 w0 := by
 refine wp_region_posts n hm hB N hN hD R (fun _ w => Below w0.heap.size w0 w) ⟨rfl, rfl, rfl, Nat.le_refl _, fun _ _ => rfl⟩ ?_ (fun vs w h1 _ _ h2 => htail vs w h1 h2)
 intro i hi o ho a w Hb Hd L HL hG K HK
 exact hstep i hi o ho a w Hb Hd hG K (Lib.hid fun v w' h1 h2 => HK.out v w' h1 (hG.trans ⟨h2.os, h2.tape, h2.output, h2.size, fun k hk => h2.block k (Nat.lt_of_lt_of_le hk hG.size)⟩) (fun j u _ hj _ h => hmono j hj u w w' h2 h))
end
end Go.Proofs.YtjacdlekgdnndaaGreatDoor
set_option linter.unusedVariables false
set_option linter.unusedSimpArgs false
namespace Go.Proofs.YtjacdlekgdnndaaGreatDoor
section
variable {α : Type}
theorem getD_lt {l : List α} {i : Nat} {d : α} (h : i < l.length) : l[i]? = some (l.getD i d) := by simp [h]
theorem getD_mem {l : List α} {i : Nat} {d : α} (h : i < l.length) : l.getD i d ∈ l := List.mem_of_getElem? (getD_lt h)
theorem mem_getD {l : List α} {x d : α} (h : x ∈ l) : ∃ i, i < l.length ∧ l.getD i d = x := by
 obtain ⟨i, hi, rfl⟩ := List.getElem_of_mem h
 exact ⟨i, hi, by simp [hi]⟩
theorem getD_set {l : List α} {i j : Nat} {x d : α} : (l.set i x).getD j d = if j = i ∧ i < l.length then x else l.getD j d := by
 simp only [List.getD_eq_getElem?_getD, List.getElem?_set]
 by_cases h : i = j
 ·subst h
  by_cases h2 : i < l.length
  ·simp [h2]
  ·simp [h2]
 ·have h' : ¬ j = i := fun e => h e.symm
  simp [h, h']
theorem modAt_len {l : List α} {i : Nat} {f : α → α} : (modAt l i f).length = l.length := by
 unfold modAt
 split <;> simp
theorem modAt_getD {l : List α} {i j : Nat} {f : α → α} {d : α} : (modAt l i f).getD j d = if j = i ∧ i < l.length then f (l.getD i d) else l.getD j d := by
 unfold modAt
 split
 ·rename_i x hx
  have hi := (List.getElem?_eq_some_iff.1 hx).1
  rw [getD_set]
  have : l.getD i d = x := by simp [hx]
  rw [this]
 ·rename_i hx
  have hi : ¬ i < l.length := by simpa using hx
  simp [hi]
theorem modAt_set {l : List α} {i : Nat} {f : α → α} {d : α} : modAt l i f = l.set i (f (l.getD i d)) := by
 unfold modAt
 split
 ·rename_i x hx
  simp [hx]
 ·rename_i hx
  have hi : l.length ≤ i := by simpa using hx
  rw [List.set_eq_of_length_le hi]
theorem range_all {n : Nat} {p : Nat → Bool} : (List.range n).all p = true ↔ ∀ i, i < n → p i = true := by simp [List.all_eq_true]
theorem any_mem {l : List α} {p : α → Bool} : l.any p = true ↔ ∃ x ∈ l, p x = true := by simp
end
theorem sum_congr {F G : Nat → Nat} {n : Nat} (h : ∀ t, t < n → F t = G t) : ((List.range n).map F).sum = ((List.range n).map G).sum := by
 induction n with
 | zero => rfl
 | succ n ih =>
  rw [List.range_succ, List.map_append, List.map_append, List.sum_append, List.sum_append, ih (fun t ht => h t (by omega))]
  simp [h n (by omega)]
theorem sum_one {F G : Nat → Nat} {n f : Nat} (hf : f < n) (h : ∀ t, t < n → t ≠ f → F t = G t) : ((List.range n).map F).sum + G f = ((List.range n).map G).sum + F f := by
 induction n with
 | zero => omega
 | succ n ih =>
  rw [List.range_succ, List.map_append, List.map_append, List.sum_append, List.sum_append]
  simp only [List.map_cons, List.map_nil, List.sum_cons, List.sum_nil, Nat.add_zero]
  by_cases hn : f = n
  ·subst hn
   rw [sum_congr (fun t ht => h t (by omega) (by omega))]
   omega
  ·have := ih (by omega) (fun t ht hne => h t (by omega) hne)
   have := h n (by omega) (by omega)
   omega
theorem sum_zero {F : Nat → Nat} {n : Nat} : ((List.range n).map F).sum = 0 ↔ ∀ t, t < n → F t = 0 := by
 induction n with
 | zero => simp
 | succ n ih =>
  rw [List.range_succ, List.map_append, List.sum_append]
  simp only [List.map_cons, List.map_nil, List.sum_cons, List.sum_nil, Nat.add_zero]
  constructor
  ·intro h t ht
   by_cases e : t = n
   ·subst e; omega
   ·exact ih.1 (by omega) t (by omega)
  ·intro h
   rw [ih.2 (fun t ht => h t (by omega)), h n (by omega)]
theorem sum_le {F : Nat → Nat} {n c : Nat} (h : ∀ t, t < n → F t ≤ c) : ((List.range n).map F).sum ≤ c * n := by
 induction n with
 | zero => simp
 | succ n ih =>
  rw [List.range_succ, List.map_append, List.sum_append, Nat.mul_succ]
  simp only [List.map_cons, List.map_nil, List.sum_cons, List.sum_nil, Nat.add_zero]
  have := ih (fun t ht => h t (by omega))
  have := h n (by omega)
  omega
theorem sum_le_but {F : Nat → Nat} {n c g : Nat} (hg : g < n) (h : ∀ t, t < n → F t ≤ c) (h0 : F g = 0) : ((List.range n).map F).sum + c ≤ c * n := by
 have h1 := sum_one (F := F) (G := fun t => if t = g then c else F t) hg (fun t ht hne => by simp [hne])
 have h2 := sum_le (F := fun t => if t = g then c else F t) (n := n) (c := c) (fun t ht => by
  by_cases e : t = g
  ·simp [e]
  ·simp only [e, if_false]; exact h t ht)
 simp only [if_true, h0] at h1
 omega
theorem entF_lt {w : Int} (h : entG w = true) : entF w < 12 := by
 simp only [entG, Bool.and_eq_true, decide_eq_true_eq] at h
 unfold entF
 omega
theorem named_mem {r : List Int} {g : Nat} : g ∈ named r ↔ ∃ w ∈ r, entG w = true ∧ entF w = g := by
 simp [named, and_assoc]
theorem named_lt {r : List Int} {g : Nat} (h : g ∈ named r) : g < 12 := by
 obtain ⟨w, _, hw, rfl⟩ := named_mem.1 h
 exact entF_lt hw
def names (g : Nat) (w : Int) : Bool := entG w && decide (entF w = g)
theorem named_count {r : List Int} {g : Nat} : (named r).count g = r.countP (names g) := by
 unfold named
 induction r with
 | nil => rfl
 | cons w r ih =>
  rw [List.filter_cons]
  cases hw : entG w
  ·rw [if_neg (by simp), ih, List.countP_cons]
   simp [names, hw]
  ·rw [if_pos rfl, List.map_cons, List.count_cons, ih, List.countP_cons]
   by_cases h : entF w = g <;> simp [names, hw, h]
theorem named_len {r : List Int} : (named r).length ≤ r.length := by
 unfold named
 rw [List.length_map]
 exact List.length_filter_le _ _
def b2n (b : Bool) : Nat := if b then 1 else 0
theorem countP_set' {p : Int → Bool} {r : List Int} {b : Nat} {w : Int} (hb : b < r.length) : (r.set b w).countP p + b2n (p (r.getD b 0)) = r.countP p + b2n (p w) := by
 induction r generalizing b with
 | nil => simp at hb
 | cons x r ih =>
  cases b with
  | zero =>
   simp only [List.set_cons_zero, List.countP_cons, List.getD_cons_zero, b2n]
   omega
  | succ b =>
   simp only [List.set_cons_succ, List.countP_cons, List.getD_cons_succ]
   have := ih (b := b) (by simpa using hb)
   omega
theorem named_set {r : List Int} {b g : Nat} {w : Int} (hb : b < r.length) : (named (r.set b w)).count g + b2n (names g (r.getD b 0)) = (named r).count g + b2n (names g w) := by
 rw [named_count, named_count]
 exact countP_set' hb
theorem named_set_mem {r : List Int} {b g : Nat} {w : Int} (h : g ∈ named (r.set b w)) : g ∈ named r ∨ (entG w = true ∧ entF w = g) := by
 obtain ⟨x, hx, h1, h2⟩ := named_mem.1 h
 rcases List.mem_or_eq_of_mem_set hx with hx | rfl
 ·exact .inl (named_mem.2 ⟨x, hx, h1, h2⟩)
 ·exact .inr ⟨h1, h2⟩
theorem reach_mem {m : List (List Int)} {root : Int} {f : Nat} : f ∈ reachL m root ↔ 0 ≤ root ∧ (f = root.toNat ∨ f ∈ named (rowAt m root.toNat) ∨ ∃ t, t ∈ named (rowAt m root.toNat) ∧ f ∈ named (rowAt m t)) := by
 unfold reachL
 split
 ·simp; omega
 ·simp; omega
theorem reach_congr {m m' : List (List Int)} {root : Int} (h0 : 0 ≤ root → rowAt m' root.toNat = rowAt m root.toNat) (h1 : 0 ≤ root → ∀ t, t ∈ named (rowAt m root.toNat) → rowAt m' t = rowAt m t) (f : Nat) : f ∈ reachL m' root ↔ f ∈ reachL m root := by
 rw [reach_mem, reach_mem]
 by_cases hr : 0 ≤ root
 ·rw [h0 hr]
  simp only [hr, true_and]
  refine or_congr Iff.rfl (or_congr Iff.rfl (exists_congr fun t => ?_))
  constructor
  ·rintro ⟨a, b⟩; exact ⟨a, by rw [← h1 hr t a]; exact b⟩
  ·rintro ⟨a, b⟩; exact ⟨a, by rw [h1 hr t a]; exact b⟩
 ·simp [hr]
theorem allowed_iff {infos : List InfoV} {fs : List Nat} {rights : List ByteArray} : allowedP infos fs rights = true ↔ ∀ f, f ∈ fs → mayP rights (infoAt infos f).g = true := by simp [allowedP, List.all_eq_true]
theorem walk_congr {m m' : List (List Int)} {root a : Nat} (h0 : rowAt m' root = rowAt m root) (h1 : ∀ t, t ∈ named (rowAt m root) → rowAt m' t = rowAt m t) : walkP m' root a = walkP m root a := by
 have e0 : wdAt m' root (a / 16) = wdAt m root (a / 16) := by unfold wdAt; rw [h0]
 unfold walkP
 rw [e0]
 split
 ·rename_i hg
  have hm : entF (wdAt m root (a / 16)) ∈ named (rowAt m root) := by
   refine named_mem.2 ⟨_, ?_, hg, rfl⟩
   unfold wdAt at hg ⊢
   by_cases hl : a / 16 < (rowAt m root).length
   ·exact getD_mem hl
   ·have : (rowAt m root).getD (a / 16) 0 = 0 := by simp at hl; simp [hl]
    rw [this] at hg
    simp [entG] at hg
  have e1 : wdAt m' (entF (wdAt m root (a / 16))) (a / 4 % 4) = wdAt m (entF (wdAt m root (a / 16))) (a / 4 % 4) := by unfold wdAt; unfold wdAt at hm; rw [h1 _ hm]
  rw [e1]
 ·rfl
theorem wd_named {m : List (List Int)} {f i : Nat} (hg : entG (wdAt m f i) = true) : entF (wdAt m f i) ∈ named (rowAt m f) := by
 refine named_mem.2 ⟨_, ?_, hg, rfl⟩
 unfold wdAt at hg ⊢
 by_cases hl : i < (rowAt m f).length
 ·exact getD_mem hl
 ·have : (rowAt m f).getD i 0 = 0 := by simp at hl; simp [hl]
  rw [this] at hg
  simp [entG] at hg
theorem rowOk_iff {r : List Int} : rowOk r = true ↔ r.length = 4 ∧ ∀ w ∈ r, 0 ≤ w ∧ w ≤ 9999 := by
 simp only [rowOk, Bool.and_eq_true, List.all_eq_true, decide_eq_true_eq, wordOk, inB_iff]
 exact And.comm
theorem memOk_iff {m : List (List Int)} : memOk m = true ↔ m.length = 12 ∧ ∀ f, f < 12 → rowOk (rowAt m f) = true := by
 simp only [memOk, Bool.and_eq_true, List.all_eq_true, decide_eq_true_eq]
 constructor
 ·rintro ⟨h1, h2⟩
  exact ⟨h2, fun f hf => h1 _ (getD_mem (by omega))⟩
 ·rintro ⟨h1, h2⟩
  refine ⟨fun r hr => ?_, h1⟩
  obtain ⟨i, hi, rfl⟩ := mem_getD (d := []) hr
  exact h2 i (by omega)
theorem memOk_set {m : List (List Int)} {f : Nat} {r : List Int} (h : memOk m = true) (hr : rowOk r = true) : memOk (m.set f r) = true := by
 rw [memOk_iff] at h ⊢
 refine ⟨by rw [List.length_set]; exact h.1, fun g hg => ?_⟩
 unfold rowAt
 rw [getD_set]
 split
 ·exact hr
 ·exact h.2 g hg
theorem rowAt_set {m : List (List Int)} {f g : Nat} {r : List Int} : rowAt (m.set f r) g = if g = f ∧ f < m.length then r else rowAt m g := by
 unfold rowAt
 exact getD_set
theorem rowAt_setWd {m : List (List Int)} {f i g : Nat} {w : Int} : rowAt (setWd m f i w) g = if g = f ∧ f < m.length then (rowAt m f).set i w else rowAt m g := by
 unfold setWd rowAt
 exact modAt_getD
theorem setWd_eq {m : List (List Int)} {f i : Nat} {w : Int} : setWd m f i w = m.set f ((rowAt m f).set i w) := modAt_set
theorem rowOk_set {r : List Int} {i : Nat} {w : Int} (h : rowOk r = true) (hw : wordOk w = true) : rowOk (r.set i w) = true := by
 rw [rowOk_iff] at h ⊢
 refine ⟨by rw [List.length_set]; exact h.1, fun x hx => ?_⟩
 rcases List.mem_or_eq_of_mem_set hx with hx | rfl
 ·exact h.2 x hx
 ·exact inB_iff.1 hw
theorem less_eq : ∀ (x y : List UInt8), Op.bytesLess x y = decide (x < y)
 | [], [] => by simp [Op.bytesLess]
 | _ :: _, [] => by simp [Op.bytesLess]
 | [], _ :: _ => by simp [Op.bytesLess]
 | a :: x, b :: y => by
  rw [Op.bytesLess, less_eq x y]
  by_cases h1 : a < b
  ·simp [h1, List.cons_lt_cons_iff]
  ·by_cases h2 : a = b
   ·subst h2; simp [List.cons_lt_cons_iff]
   ·simp [h1, h2, List.cons_lt_cons_iff]
def ltB (a b : ByteArray) : Bool := Op.bytesLess a.toList b.toList
theorem ltB_iff {a b : ByteArray} : ltB a b = true ↔ a.toList < b.toList := by simp [ltB, less_eq]
theorem geB_eq {a b : ByteArray} : geB a b = !ltB a b := rfl
theorem ltB_trans {a b c : ByteArray} (h1 : ltB a b = true) (h2 : ltB b c = true) : ltB a c = true := ltB_iff.2 (List.lt_trans (ltB_iff.1 h1) (ltB_iff.1 h2))
theorem toList_inj {a b : ByteArray} (h : a.toList = b.toList) : a = b := by
 have ha : a.toList = a.data.toList := Lib.toList_data a
 have hb : b.toList = b.data.toList := Lib.toList_data b
 rw [ha, hb] at h
 cases a; cases b
 simp at h
 rw [h]
theorem ltB_of_not {a b : ByteArray} (h : ltB a b = false) (hne : a ≠ b) : ltB b a = true := by
 rw [ltB_iff]
 have h1 : ¬ a.toList < b.toList := by rw [← ltB_iff]; simp [h]
 have h2 : a.toList ≠ b.toList := fun e => hne (toList_inj e)
 have h3 : b.toList ≤ a.toList := List.not_lt.1 h1
 rcases List.le_iff_lt_or_eq.1 h3 with h | h
 ·exact h
 ·exact absurd h.symm h2
theorem rightsOk_iff {ss : List ByteArray} : rightsOk ss = true ↔ (∀ s ∈ ss, rightOk s = true) ∧ ss.Pairwise (fun a b => ltB a b = true) ∧ ss.length ≤ 6 := by
 unfold rightsOk
 simp only [Bool.and_eq_true, decide_eq_true_eq, range_all, stepRight, Bool.or_eq_true, geB_eq, Bool.not_not]
 constructor
 ·rintro ⟨h, hl⟩
  refine ⟨fun s hs => ?_, ?_, hl⟩
  ·obtain ⟨i, hi, rfl⟩ := mem_getD (d := ⟨#[]⟩) hs
   exact (h i hi).1
  ·rw [List.pairwise_iff_getElem]
   have key : ∀ d i, i + 1 + d < ss.length → ltB (nthS ss i) (nthS ss (i + 1 + d)) = true := by
    intro d
    induction d with
    | zero =>
     intro i hi
     rcases (h (i + 1) (by omega)).2 with h' | h'
     ·omega
     ·simpa using h'
    | succ d ih =>
     intro i hi
     have h1 := ih i (by omega)
     rcases (h (i + 1 + (d + 1)) (by omega)).2 with h' | h'
     ·omega
     ·refine ltB_trans h1 ?_
      have e : i + 1 + (d + 1) - 1 = i + 1 + d := by omega
      rw [e] at h'
      exact h'
   intro i j hi hj hij
   have := key (j - i - 1) i (by omega)
   have e : i + 1 + (j - i - 1) = j := by omega
   rw [e] at this
   simpa [nthS, hi, hj] using this
 ·rintro ⟨h1, h2, h3⟩
  refine ⟨fun i hi => ⟨h1 _ (getD_mem hi), ?_⟩, h3⟩
  by_cases h0 : i = 0
  ·exact .inl h0
  ·right
   rw [List.pairwise_iff_getElem] at h2
   have := h2 (i - 1) i (by omega) hi (by omega)
   simpa [nthS, hi, show i - 1 < ss.length by omega] using this
theorem addS_mem {ss : List ByteArray} {s x : ByteArray} : x ∈ addS ss s ↔ x = s ∨ x ∈ ss := by
 unfold addS
 have e := List.takeWhile_append_dropWhile (p := fun x => !geB x s) (l := ss)
 constructor
 ·intro h
  rcases List.mem_append.1 h with h | h
  ·right; rw [← e]; exact List.mem_append_left _ h
  ·rcases List.mem_cons.1 h with h | h
   ·exact .inl h
   ·right; rw [← e]; exact List.mem_append_right _ h
 ·rintro (rfl | h)
  ·simp
  ·rw [← e] at h
   rcases List.mem_append.1 h with h | h
   ·exact List.mem_append_left _ h
   ·exact List.mem_append_right _ (List.mem_cons_of_mem _ h)
theorem mem_takeWhile' {p : ByteArray → Bool} {l : List ByteArray} {x : ByteArray} (h : x ∈ l.takeWhile p) : p x = true := by
 induction l with
 | nil => simp at h
 | cons y l ih =>
  rw [List.takeWhile_cons] at h
  split at h
  ·rename_i hy
   rcases List.mem_cons.1 h with rfl | h
   ·exact hy
   ·exact ih h
  ·simp at h
theorem addS_ok {ss : List ByteArray} {s : ByteArray} (h : rightsOk ss = true) (hs : rightOk s = true) (hn : s ∉ ss) (hl : ss.length ≠ 6) : rightsOk (addS ss s) = true := by
 rw [rightsOk_iff] at h ⊢
 obtain ⟨h1, h2, h3⟩ := h
 have e := List.takeWhile_append_dropWhile (p := fun x => !geB x s) (l := ss)
 refine ⟨fun x hx => ?_, ?_, ?_⟩
 ·rcases addS_mem.1 hx with rfl | hx
  ·exact hs
  ·exact h1 x hx
 ·unfold addS
  rw [← e] at h2
  rw [List.pairwise_append] at h2 ⊢
  obtain ⟨p1, p2, p3⟩ := h2
  have hge : ∀ y ∈ ss.dropWhile (fun x => !geB x s), ltB s y = true := by
   generalize hd : ss.dropWhile (fun x => !geB x s) = l at p2
   cases l with
   | nil => simp
   | cons y l =>
    have hy0 : (!geB y s) = false := by
     have := List.head?_dropWhile_not (fun x => !geB x s) ss
     rw [hd] at this
     simpa using this
    have hym : y ∈ ss := by
     rw [← e, hd]
     exact List.mem_append_right _ (List.mem_cons_self ..)
    have hy : ltB s y = true := ltB_of_not (by simpa [geB_eq] using hy0) (fun e => hn (e ▸ hym))
    intro z hz
    rcases List.mem_cons.1 hz with rfl | hz
    ·exact hy
    ·exact ltB_trans hy ((List.pairwise_cons.1 p2).1 z hz)
  refine ⟨p1, List.pairwise_cons.2 ⟨hge, p2⟩, fun a ha b hb => ?_⟩
  have has : ltB a s = true := by simpa [geB_eq] using mem_takeWhile' ha
  rcases List.mem_cons.1 hb with rfl | hb
  ·exact has
  ·exact p3 a ha b hb
 ·have : (addS ss s).length = ss.length + 1 := by
   unfold addS
   rw [List.length_append, List.length_cons]
   have := congrArg List.length e
   rw [List.length_append] at this
   omega
  omega
theorem filter_ok {ss : List ByteArray} {p : ByteArray → Bool} (h : rightsOk ss = true) : rightsOk (ss.filter p) = true := by
 rw [rightsOk_iff] at h ⊢
 exact ⟨fun s hs => h.1 s (List.mem_filter.1 hs).1, h.2.1.filter _, Nat.le_trans (List.length_filter_le _ _) h.2.2⟩
theorem mayP_iff {rights : List ByteArray} {g : ByteArray} : mayP rights g = true ↔ ∃ s ∈ rights, cov s g = true := by simp [mayP]
theorem mayP_mono {r r' : List ByteArray} {g : ByteArray} (h : ∀ s ∈ r, s ∈ r') (hm : mayP r g = true) : mayP r' g = true := by
 obtain ⟨s, hs, hc⟩ := mayP_iff.1 hm
 exact mayP_iff.2 ⟨s, h s hs, hc⟩
theorem mayP_all (g : ByteArray) : mayP [⟨#[]⟩] g = true := by
 refine mayP_iff.2 ⟨_, List.mem_cons_self .., ?_⟩
 simp [cov]
theorem add_ok {ss : List ByteArray} {s : ByteArray} (h : rightsOk ss = true) (hs : rightOk s = true) : rightsOk (rightsAddP ss s).1 = true := by
 unfold rightsAddP
 split
 ·exact h
 ·rename_i hn
  split
  ·exact h
  ·rename_i hl
   exact addS_ok h hs (fun hm => hn (any_mem.2 ⟨s, hm, by simp⟩)) hl
theorem add_mono {ss : List ByteArray} {s x : ByteArray} (hx : x ∈ ss) : x ∈ (rightsAddP ss s).1 := by
 unfold rightsAddP
 split
 ·exact hx
 ·split
  ·exact hx
  ·exact addS_mem.2 (.inr hx)
theorem cacheOk_iff {c : List CachedV} : cacheOk c = true ↔ (∀ x ∈ c, cachedOk x = true) ∧ c.Pairwise (fun x y => sameCP y.e y.p x = false) ∧ c.length ≤ 4 := by
 unfold cacheOk
 simp only [Bool.and_eq_true, decide_eq_true_eq, range_all, stepCache, Bool.not_eq_true', List.any_eq_false]
 constructor
 ·rintro ⟨h, hl⟩
  refine ⟨fun x hx => ?_, ?_, hl⟩
  ·obtain ⟨i, hi, rfl⟩ := mem_getD (d := ⟨0, 0, 0, false⟩) hx
   exact (h i hi).1
  ·rw [List.pairwise_iff_getElem]
   intro i j hi hj hij
   have h2 := (h j hj).2 c[i] (List.mem_take_iff_getElem.2 ⟨i, by omega, rfl⟩)
   have e : cacheAt c j = c[j] := by simp [cacheAt, hj]
   rw [e] at h2
   simpa using h2
 ·rintro ⟨h1, h2, h3⟩
  refine ⟨fun i hi => ⟨h1 _ (getD_mem hi), fun x hx => ?_⟩, h3⟩
  obtain ⟨j, hj, rfl⟩ := List.mem_take_iff_getElem.1 hx
  rw [List.pairwise_iff_getElem] at h2
  have := h2 j i (by omega) hi (by omega)
  have e : cacheAt c i = c[i] := by simp [cacheAt, hi]
  rw [e]
  simp [this]
theorem dropC_ok {c : List CachedV} {e : Int} (h : cacheOk c = true) : cacheOk (dropC c e) = true := by
 rw [cacheOk_iff] at h ⊢
 unfold dropC
 exact ⟨fun s hs => h.1 s (List.mem_filter.1 hs).1, h.2.1.filter _, Nat.le_trans (List.length_filter_le _ _) h.2.2⟩
theorem dropC_mem {c : List CachedV} {e : Int} {x : CachedV} : x ∈ dropC c e ↔ x ∈ c ∧ x.e ≠ e := by simp [dropC]
theorem drops_ok {c : List CachedV} {es : List Nat} (h : cacheOk c = true) : cacheOk (es.foldl (fun c e => dropC c (e : Nat)) c) = true := by
 induction es generalizing c with
 | nil => exact h
 | cons e es ih => exact ih (dropC_ok h)
theorem drops_mem {c : List CachedV} {es : List Nat} {x : CachedV} : x ∈ es.foldl (fun c e => dropC c (e : Nat)) c ↔ x ∈ c ∧ ∀ e ∈ es, x.e ≠ (e : Int) := by
 induction es generalizing c with
 | nil => simp
 | cons e es ih =>
  rw [List.foldl_cons, ih, dropC_mem]
  simp [and_assoc]
theorem putC_mem {c : List CachedV} {x y : CachedV} (h : y ∈ putC c x) : y = x ∨ y ∈ c := by
 unfold putC at h
 rcases List.mem_append.1 h with h | h
 ·right
  split at h
  ·exact (List.mem_filter.1 (List.mem_of_mem_drop h)).1
  ·exact (List.mem_filter.1 h).1
 ·left; simpa using h
theorem putC_ok {c : List CachedV} {x : CachedV} (h : cacheOk c = true) (hx : cachedOk x = true) : cacheOk (putC c x) = true := by
 have hm := fun y => putC_mem (c := c) (x := x) (y := y)
 rw [cacheOk_iff] at h ⊢
 obtain ⟨h1, h2, h3⟩ := h
 refine ⟨fun y hy => ?_, ?_, ?_⟩
 ·rcases hm y hy with rfl | hy
  ·exact hx
  ·exact h1 y hy
 ·unfold putC
  rw [List.pairwise_append]
  refine ⟨?_, by simp, fun a ha b hb => ?_⟩
  ·split
   ·exact (h2.filter _).drop
   ·exact h2.filter _
  ·obtain rfl : b = x := by simpa using hb
   have ha' : a ∈ c.filter fun y => !sameCP b.e b.p y := by
    split at ha
    ·exact List.mem_of_mem_drop ha
    ·exact ha
   simpa using (List.mem_filter.1 ha').2
 ·unfold putC
  have hl := List.length_filter_le (fun y => !sameCP x.e x.p y) c
  split
  ·rw [List.length_append, List.length_drop]; simp; omega
  ·rw [List.length_append]; simp; omega
end Go.Proofs.YtjacdlekgdnndaaGreatDoor
