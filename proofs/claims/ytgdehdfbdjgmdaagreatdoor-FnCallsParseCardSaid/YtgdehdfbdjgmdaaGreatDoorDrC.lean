/-
  Walks: a call drawn, for the laws of texts.
-/
import Derived.Test.YtgdehdfbdjgmdaaGreatDoorPick
import Derived.Test.YtgdehdfbdjgmdaaGreatDoorDec
import Derived.Test.YtgdehdfbdjgmdaaGreatDoorDoorB
import Derived.Deep.DeepCutAuto
import Derived.Deep.CutBlock
set_option linter.unusedVariables false
namespace Go.Proofs.YtgdehdfbdjgmdaaGreatDoor
open Go.RowKit

def nthS (ss : List ByteArray) (k : Nat) : ByteArray := ss.getD k ⟨#[]⟩
theorem nthS_lt {ss : List ByteArray} {k : Nat} (h : k < ss.length) : ss[k]? = some (nthS ss k) := by simp [nthS, h]
theorem grown_set (w : World) (g j : Nat) (u : Value) : w.grownBy (w.setCell ⟨g, j, none⟩ u) (some g) := ⟨rfl, rfl, rfl, by simp, fun k _ hk => heap_setCell_other w ⟨g, j, none⟩ k u (fun e => hk (by simp [e]))⟩
theorem blk_frozen {w : World} {g t : Nat} {cs : Array Value} (h : w.heap[g]? = some (.cells cs t (0, 0))) : ∀ j, w.frozen? ⟨g, j, none⟩ = false := fun j => frozen_of_row w g j _ _ h
theorem blk_lt {w : World} {g : Nat} {o : Obj} (h : w.heap[g]? = some o) : g < w.heap.size := (Array.getElem?_eq_some_iff.1 h).1
theorem blk_below {w w' : World} {g : Nat} {o : Obj} (h : w.heap[g]? = some o) (hb : Below w.heap.size w w') : w'.heap[g]? = some o := (hb.block g (blk_lt h)).trans h

/-- The reader lies in block g; what lay in the old world w0 is as it was. -/
def Dr (w0 : World) (g N : Nat) (w : World) : Prop := Reader w0 w (.pointer (some ⟨g, 0, none⟩)) N ∧ Below w0.heap.size w0 w ∧ w0.heap.size ≤ g ∧ g < w.heap.size

theorem Dr.of {w0 w : World} {R : Value} {N : Nat} (h : Reader w0 w R N) (hb : Below w0.heap.size w0 w) : ∃ g, R = .pointer (some ⟨g, 0, none⟩) ∧ Dr w0 g N w := by
  obtain ⟨g, bsv, bs, p, rfl, hg, hblk, hr⟩ := h
  exact ⟨g, rfl, ⟨g, bsv, bs, p, rfl, hg, hblk, hr⟩, hb, hg, (Array.getElem?_eq_some_iff.1 hblk).1⟩
theorem Dr.keep {w0 w w' : World} {g N : Nat} {row : Option Nat} (h : Dr w0 g N w) (hg : w.grownBy w' row) (h1 : row ≠ some g) (h2 : ∀ k, row = some k → w0.heap.size ≤ k) : Dr w0 g N w' := by
  obtain ⟨⟨g', bsv, bs, p, hR, hg', hblk, hr⟩, hb, hlo, hlt⟩ := h
  obtain rfl : g = g' := by simpa using hR
  exact ⟨⟨g, bsv, bs, p, rfl, hg', (hg.block g hlt (fun e => h1 e.symm)).trans hblk, hr⟩, hb.grown hg hb.size h2, hlo, Nat.lt_of_lt_of_le hlt hg.size⟩
theorem Dr.below {w0 w w' : World} {g N : Nat} (h : Dr w0 g N w) (hb : Below w.heap.size w w') : Dr w0 g N w' := h.keep (grown_below hb none) (by simp) (fun k hk => by cases hk)
theorem Dr.alloc {w0 w : World} {g N : Nat} (h : Dr w0 g N w) (o : Obj) : Dr w0 g N (w.alloc o) := h.below (below1 _ _)
theorem Dr.mono {w0 w : World} {g N M : Nat} (h : Dr w0 g N w) (hm : N ≤ M) : Dr w0 g M w := ⟨h.1.mono hm, h.2⟩
theorem Dr.set {w0 w : World} {g N b j : Nat} {u : Value} (h : Dr w0 g N w) (hne : b ≠ g) (hb : w0.heap.size ≤ b) : Dr w0 g N (w.setCell ⟨b, j, none⟩ u) :=
  h.keep (grown_set w b j u) (by simpa using hne) (fun k hk => by cases hk; exact hb)
theorem Dr.lt {w0 w : World} {g N : Nat} (h : Dr w0 g N w) : g < w.heap.size := h.2.2.2

theorem Dr.pick {w0 w : World} {g N : Nat} (n : Int) (h : Dr w0 g N w) (hN : N ≤ 1000000) (hn : n ≤ 1000000) :
    Calls Tryz.prog 13 #[.pointer (some ⟨g, 0, none⟩), .int .i64 n] w fun e w' => ∃ x : Int, e = .returned (.int .i64 x) ∧ 0 ≤ x ∧ (0 < n → x < n) ∧ Dr w0 g (N + 1) w' ∧ w.grownBy w' (some g) :=
  (pick_any w0 _ N n w h.1 h.2.1 hN hn).mono fun _ _ hp => by
    obtain ⟨x, rfl, ⟨hx1, hx2, hx3⟩, hr, hb1, g1, hg1, hgr⟩ := hp
    obtain rfl : g = g1 := by simpa using hg1
    exact ⟨x, rfl, hx1, hx2, ⟨hr, hb1, h.2.2.1, Nat.lt_of_lt_of_le h.2.2.2 hgr.size⟩, hgr⟩

theorem grown_alloc {w0 w : World} {row : Option Nat} (h : w0.grownBy w row) (o : Obj) : w0.grownBy (w.alloc o) row := grown_trans h (grown_below (below1 _ _) row)
theorem grown_new {w0 w : World} {row : Option Nat} (h : w0.grownBy w row) {b j : Nat} (hb : w0.heap.size ≤ b) (u : Value) : w0.grownBy (w.setCell ⟨b, j, none⟩ u) row :=
  ⟨h.os, h.tape, h.output, by simpa using h.size, fun k hk hne => (heap_setCell_other w ⟨b, j, none⟩ k u (by intro e; simp at e; omega)).trans (h.block k hk hne)⟩

/-- What a draw of one value leaves. -/
def DrPost (w0 : World) (g N : Nat) (w : World) (P : Value → Prop) (e : Ending) (w' : World) : Prop := ∃ v, e = .returned v ∧ P v ∧ Dr w0 g N w' ∧ w.grownBy w' (some g)

set_option maxHeartbeats 1000000 in
theorem of_any {w0 w : World} {g N : Nat} (b n : Nat) (ss : List ByteArray) (h : Dr w0 g N w) (hN : N ≤ 1000000) (hn : ss.length = n) (h0 : 0 < n) (h1 : n ≤ 1000) (hne : b ≠ g) (hb : b < w.heap.size) (hc : ∀ k, k < n → w.cell? ⟨b, k, none⟩ = some (.string (nthS ss k))) :
    Calls Tryz.prog 14 #[.pointer (some ⟨g, 0, none⟩), .slice (some ⟨b, 0, none⟩) n n] w (DrPost w0 g (N + 1) w fun v => ∃ s, s ∈ ss ∧ v = .string s) := by
  have Hc := Lib.hid hc; clear hc
  have Hn := Lib.hid hn; clear hn
  go_enter Tryz.func14, Tryz.ntmps14
  go_wp2_with fail
  refine (h.pick _ hN (by omega)).mono ?_; rintro e w1 ⟨x, rfl, hx0, hx1, h', hgr⟩
  have hx1 := hx1 (by omega)
  obtain ⟨x, rfl⟩ := Int.eq_ofNat_of_zero_le hx0
  have D : w1.cell? ⟨b, x, none⟩ = some (.string (nthS ss x)) := (World.cell?_of_block (hgr.block b hb (by simpa using hne))).trans (Hc.out x (by omega))
  have hx2 : x < n := by omega
  go_wp2_with fail
  go_ret
  exact ⟨_, rfl, ⟨nthS ss x, List.mem_of_getElem? (nthS_lt (by rw [Hn.out]; exact hx2)), rfl⟩, h', hgr⟩


theorem lit_strs (w : World) (ss : List ByteArray) (t : TypeId) {k : Nat} (hk : k < ss.length) : (w.alloc (.cells (ss.map Value.string).toArray t)).cell? ⟨w.heap.size, k, none⟩ = some (.string (nthS ss k)) := by
  rw [World.cell?_alloc_new]
  simp only [List.getElem?_toArray, List.getElem?_map]
  rw [nthS_lt hk]
  rfl

theorem call_cells {w : World} {b : Nat} {x : CallV} (h : w.heap[b]? = some (.cells x.cells 30 (0, 0))) : w.cell? ⟨b, 0, none⟩ = some (.int .i64 x.k) ∧ w.cell? ⟨b, 1, none⟩ = some (.int .i64 x.e) ∧ w.cell? ⟨b, 2, none⟩ = some (.int .i64 x.a) ∧ w.cell? ⟨b, 3, none⟩ = some (.int .i64 x.b) ∧ w.cell? ⟨b, 4, none⟩ = some (.int .i64 x.c) ∧ w.cell? ⟨b, 5, none⟩ = some (.string x.nm) :=
  ⟨cell_of_row w b 0 _ _ _ h, cell_of_row w b 1 _ _ _ h, cell_of_row w b 2 _ _ _ h, cell_of_row w b 3 _ _ _ h, cell_of_row w b 4 _ _ _ h, cell_of_row w b 5 _ _ _ h⟩
theorem set6 {w : World} {q : Nat} {x y : CallV} (h : w.heap[q]? = some (.cells y.cells 30 (0, 0))) :
    ((((((w.setCell ⟨q, 0, none⟩ (.int .i64 x.k)).setCell ⟨q, 1, none⟩ (.int .i64 x.e)).setCell ⟨q, 2, none⟩ (.int .i64 x.a)).setCell ⟨q, 3, none⟩ (.int .i64 x.b)).setCell ⟨q, 4, none⟩ (.int .i64 x.c)).setCell ⟨q, 5, none⟩ (.string x.nm)).heap[q]? = some (.cells x.cells 30 (0, 0)) := by
  have h0 := heap_setCell_same w q 0 _ _ (.int .i64 x.k) h
  have h1 := heap_setCell_same _ q 1 _ _ (.int .i64 x.e) h0
  have h2 := heap_setCell_same _ q 2 _ _ (.int .i64 x.a) h1
  have h3 := heap_setCell_same _ q 3 _ _ (.int .i64 x.b) h2
  have h4 := heap_setCell_same _ q 4 _ _ (.int .i64 x.c) h3
  have h5 := heap_setCell_same _ q 5 _ _ (.string x.nm) h4
  simpa [CallV.cells] using h5

/-- The call under way lies in block b; the reader in block g; the result's block is the first new one. -/
def CSt (w0 : World) (g N : Nat) (w : World) (b : Nat) (wr : World) : Prop :=
  ∃ x : CallV, x.nm.size ≤ 8 ∧ Dr w0 g N wr ∧ w.grownBy wr (some g) ∧ w.heap.size < b ∧ g < w.heap.size ∧ w0.heap.size ≤ w.heap.size ∧ wr.heap[b]? = some (.cells x.cells 30 (0, 0)) ∧
    (∃ y : CallV, wr.heap[w.heap.size]? = some (.cells y.cells 30 (0, 0)))
section
variable {w0 w wr w' : World} {g N M b : Nat}
theorem CSt.cc (h : CSt w0 g N w b wr) : ∃ x : CallV, wr.cell? ⟨b, 0, none⟩ = some (.int .i64 x.k) ∧ wr.cell? ⟨b, 1, none⟩ = some (.int .i64 x.e) ∧ wr.cell? ⟨b, 2, none⟩ = some (.int .i64 x.a) ∧ wr.cell? ⟨b, 3, none⟩ = some (.int .i64 x.b) ∧ wr.cell? ⟨b, 4, none⟩ = some (.int .i64 x.c) ∧ wr.cell? ⟨b, 5, none⟩ = some (.string x.nm) ∧ (∀ j, wr.frozen? ⟨b, j, none⟩ = false) ∧ Hid (wr.heap[b]? = some (.cells x.cells 30 (0, 0))) := by
  obtain ⟨x, _, _, _, _, _, _, h1, _⟩ := h
  obtain ⟨c0, c1, c2, c3, c4, c5⟩ := call_cells h1
  exact ⟨x, c0, c1, c2, c3, c4, c5, blk_frozen h1, Lib.hid h1⟩
theorem CSt.dr (h : CSt w0 g N w b wr) : Dr w0 g N wr := by
  obtain ⟨x, _, h1, _⟩ := h
  exact h1
theorem CSt.ne (h : CSt w0 g N w b wr) : w.heap.size ≠ b ∧ b ≠ w.heap.size ∧ b ≠ g ∧ g ≠ b ∧ g ≠ w.heap.size ∧ w.heap.size ≠ g := by
  obtain ⟨x, _, _, _, h1, h2, _⟩ := h
  omega
theorem CSt.alloc (h : CSt w0 g N w b wr) (o : Obj) : CSt w0 g N w b (wr.alloc o) := by
  obtain ⟨x, h0, h1, h2, h3, h4, h5, h6, ⟨y, h7⟩⟩ := h
  exact ⟨x, h0, h1.alloc o, grown_alloc h2 o, h3, h4, h5, blk_below h6 (below1 _ _), ⟨y, blk_below h7 (below1 _ _)⟩⟩
theorem CSt.draw (h : CSt w0 g N w b wr) (hd : Dr w0 g M w') (hg : wr.grownBy w' (some g)) : CSt w0 g M w b w' := by
  obtain ⟨x, h0, h1, h2, h3, h4, h5, h6, ⟨y, h7⟩⟩ := h
  have far : ∀ {q : Nat} {o : Obj}, w.heap.size ≤ q → wr.heap[q]? = some o → w'.heap[q]? = some o := fun {q o} hq hb => (hg.block q (blk_lt hb) (by simp; omega)).trans hb
  exact ⟨x, h0, hd, grown_trans h2 hg, h3, h4, h5, far (by omega) h6, ⟨y, far (by omega) h7⟩⟩
theorem CSt.set0 (h : CSt w0 g N w b wr) (z : Int) : CSt w0 g N w b (wr.setCell ⟨b, 0, none⟩ (.int .i64 z)) := by
  obtain ⟨x, h0, h1, h2, h3, h4, h5, h6, ⟨y, h7⟩⟩ := h
  have hb := heap_setCell_same wr b 0 _ _ (.int .i64 z) h6
  have far : ∀ {q : Nat} {o : Obj}, q ≠ b → wr.heap[q]? = some o → (wr.setCell ⟨b, 0, none⟩ (.int .i64 z)).heap[q]? = some o := fun {q o} hq hb => (heap_setCell_other wr ⟨b, 0, none⟩ q _ (fun e => hq (by simpa using e))).trans hb
  exact ⟨⟨z, x.e, x.a, x.b, x.c, x.nm⟩, h0, h1.set (by omega) (by omega), grown_new h2 (by omega) _, h3, h4, h5, by simpa [CallV.cells] using hb, ⟨y, far (by omega) h7⟩⟩
theorem CSt.set1 (h : CSt w0 g N w b wr) (z : Int) : CSt w0 g N w b (wr.setCell ⟨b, 1, none⟩ (.int .i64 z)) := by
  obtain ⟨x, h0, h1, h2, h3, h4, h5, h6, ⟨y, h7⟩⟩ := h
  have hb := heap_setCell_same wr b 1 _ _ (.int .i64 z) h6
  have far : ∀ {q : Nat} {o : Obj}, q ≠ b → wr.heap[q]? = some o → (wr.setCell ⟨b, 1, none⟩ (.int .i64 z)).heap[q]? = some o := fun {q o} hq hb => (heap_setCell_other wr ⟨b, 1, none⟩ q _ (fun e => hq (by simpa using e))).trans hb
  exact ⟨⟨x.k, z, x.a, x.b, x.c, x.nm⟩, h0, h1.set (by omega) (by omega), grown_new h2 (by omega) _, h3, h4, h5, by simpa [CallV.cells] using hb, ⟨y, far (by omega) h7⟩⟩
theorem CSt.set2 (h : CSt w0 g N w b wr) (z : Int) : CSt w0 g N w b (wr.setCell ⟨b, 2, none⟩ (.int .i64 z)) := by
  obtain ⟨x, h0, h1, h2, h3, h4, h5, h6, ⟨y, h7⟩⟩ := h
  have hb := heap_setCell_same wr b 2 _ _ (.int .i64 z) h6
  have far : ∀ {q : Nat} {o : Obj}, q ≠ b → wr.heap[q]? = some o → (wr.setCell ⟨b, 2, none⟩ (.int .i64 z)).heap[q]? = some o := fun {q o} hq hb => (heap_setCell_other wr ⟨b, 2, none⟩ q _ (fun e => hq (by simpa using e))).trans hb
  exact ⟨⟨x.k, x.e, z, x.b, x.c, x.nm⟩, h0, h1.set (by omega) (by omega), grown_new h2 (by omega) _, h3, h4, h5, by simpa [CallV.cells] using hb, ⟨y, far (by omega) h7⟩⟩
theorem CSt.set3 (h : CSt w0 g N w b wr) (z : Int) : CSt w0 g N w b (wr.setCell ⟨b, 3, none⟩ (.int .i64 z)) := by
  obtain ⟨x, h0, h1, h2, h3, h4, h5, h6, ⟨y, h7⟩⟩ := h
  have hb := heap_setCell_same wr b 3 _ _ (.int .i64 z) h6
  have far : ∀ {q : Nat} {o : Obj}, q ≠ b → wr.heap[q]? = some o → (wr.setCell ⟨b, 3, none⟩ (.int .i64 z)).heap[q]? = some o := fun {q o} hq hb => (heap_setCell_other wr ⟨b, 3, none⟩ q _ (fun e => hq (by simpa using e))).trans hb
  exact ⟨⟨x.k, x.e, x.a, z, x.c, x.nm⟩, h0, h1.set (by omega) (by omega), grown_new h2 (by omega) _, h3, h4, h5, by simpa [CallV.cells] using hb, ⟨y, far (by omega) h7⟩⟩
theorem CSt.set4 (h : CSt w0 g N w b wr) (z : Int) : CSt w0 g N w b (wr.setCell ⟨b, 4, none⟩ (.int .i64 z)) := by
  obtain ⟨x, h0, h1, h2, h3, h4, h5, h6, ⟨y, h7⟩⟩ := h
  have hb := heap_setCell_same wr b 4 _ _ (.int .i64 z) h6
  have far : ∀ {q : Nat} {o : Obj}, q ≠ b → wr.heap[q]? = some o → (wr.setCell ⟨b, 4, none⟩ (.int .i64 z)).heap[q]? = some o := fun {q o} hq hb => (heap_setCell_other wr ⟨b, 4, none⟩ q _ (fun e => hq (by simpa using e))).trans hb
  exact ⟨⟨x.k, x.e, x.a, x.b, z, x.nm⟩, h0, h1.set (by omega) (by omega), grown_new h2 (by omega) _, h3, h4, h5, by simpa [CallV.cells] using hb, ⟨y, far (by omega) h7⟩⟩
theorem CSt.setS (h : CSt w0 g N w b wr) (s : ByteArray) (hs : s.size ≤ 8) : CSt w0 g N w b (wr.setCell ⟨b, 5, none⟩ (.string s)) := by
  obtain ⟨x, h0, h1, h2, h3, h4, h5, h6, ⟨y, h7⟩⟩ := h
  have hb := heap_setCell_same wr b 5 _ _ (.string s) h6
  have far : ∀ {q : Nat} {o : Obj}, q ≠ b → wr.heap[q]? = some o → (wr.setCell ⟨b, 5, none⟩ (.string s)).heap[q]? = some o := fun {q o} hq hb => (heap_setCell_other wr ⟨b, 5, none⟩ q _ (fun e => hq (by simpa using e))).trans hb
  exact ⟨⟨x.k, x.e, x.a, x.b, x.c, s⟩, hs, h1.set (by omega) (by omega), grown_new h2 (by omega) _, h3, h4, h5, by simpa [CallV.cells] using hb, ⟨y, far (by omega) h7⟩⟩
theorem CSt.qc (h : CSt w0 g N w b wr) : ∃ y : CallV, wr.cell? ⟨w.heap.size, 0, none⟩ = some (.int .i64 y.k) ∧ wr.cell? ⟨w.heap.size, 1, none⟩ = some (.int .i64 y.e) ∧ wr.cell? ⟨w.heap.size, 2, none⟩ = some (.int .i64 y.a) ∧ wr.cell? ⟨w.heap.size, 3, none⟩ = some (.int .i64 y.b) ∧ wr.cell? ⟨w.heap.size, 4, none⟩ = some (.int .i64 y.c) ∧ wr.cell? ⟨w.heap.size, 5, none⟩ = some (.string y.nm) ∧ ∀ j, wr.frozen? ⟨w.heap.size, j, none⟩ = false := by
  obtain ⟨x, _, _, _, _, _, _, _, ⟨y, h1⟩⟩ := h
  obtain ⟨c0, c1, c2, c3, c4, c5⟩ := call_cells h1
  exact ⟨y, c0, c1, c2, c3, c4, c5, blk_frozen h1⟩

/-- What is handed back. -/
def CEnd (w0 : World) (g N : Nat) (w : World) (x : CallV) (W : World) : Prop :=
  (W.cell? ⟨w.heap.size, 0, none⟩ = some (.int .i64 x.k) ∧ W.cell? ⟨w.heap.size, 1, none⟩ = some (.int .i64 x.e) ∧ W.cell? ⟨w.heap.size, 2, none⟩ = some (.int .i64 x.a) ∧ W.cell? ⟨w.heap.size, 3, none⟩ = some (.int .i64 x.b) ∧ W.cell? ⟨w.heap.size, 4, none⟩ = some (.int .i64 x.c) ∧ W.cell? ⟨w.heap.size, 5, none⟩ = some (.string x.nm)) ∧
  DrPost w0 g N w (fun v => ∃ x : CallV, v = x.val ∧ x.nm.size ≤ 8) (.returned x.val) W
theorem CSt.fin (h : CSt w0 g N w b wr) (x : CallV) (hb : wr.heap[b]? = some (.cells x.cells 30 (0, 0))) (hM : N ≤ M) : CEnd w0 g M w x ((((((wr.setCell ⟨w.heap.size, 0, none⟩ (.int .i64 x.k)).setCell ⟨w.heap.size, 1, none⟩ (.int .i64 x.e)).setCell ⟨w.heap.size, 2, none⟩ (.int .i64 x.a)).setCell ⟨w.heap.size, 3, none⟩ (.int .i64 x.b)).setCell ⟨w.heap.size, 4, none⟩ (.int .i64 x.c)).setCell ⟨w.heap.size, 5, none⟩ (.string x.nm)) := by
  obtain ⟨x', h0, h1, h2, h3, h4, h5, h6, ⟨y, h8⟩⟩ := h
  have hx : x'.nm = x.nm := by
    rw [h6] at hb
    simp [CallV.cells] at hb
    exact hb.2.2.2.2.2
  have n1 : w.heap.size ≠ g := by omega
  have n2 : w0.heap.size ≤ w.heap.size := by omega
  have n3 : w.heap.size ≤ w.heap.size := by omega
  exact ⟨call_cells (set6 h8), _, rfl, ⟨x, rfl, hx ▸ h0⟩, ((((((h1.set n1 n2).set n1 n2).set n1 n2).set n1 n2).set n1 n2).set n1 n2).mono hM, grown_new (grown_new (grown_new (grown_new (grown_new (grown_new h2 n3 _) n3 _) n3 _) n3 _) n3 _) n3 _⟩
end

set_option maxRecDepth 100000 in
set_option maxHeartbeats 8000000 in
theorem l93Call_any {w0 w : World} {g N : Nat} (h : Dr w0 g N w) (hN : N ≤ 900000) :
    Calls Tryz.prog 24 #[.pointer (some ⟨g, 0, none⟩)] w (DrPost w0 g (N + 9) w fun v => ∃ x : CallV, v = x.val ∧ x.nm.size ≤ 8) := by
  have hlt := h.lt
  have hw0 : w0.heap.size ≤ w.heap.size := h.2.1.size
  go_enter Tryz.func24, Tryz.ntmps24
  go_wp2_with fail
  refine ((h.alloc _).pick _ (by omega) (by decide)).mono ?_; rintro e' w1 ⟨v1, rfl, m1, l1, h1, g1⟩
  replace l1 := l1 (by decide)
  go_wp2_with fail
  refine (h1.pick _ (by omega) (by decide)).mono ?_; rintro e' w2 ⟨v2, rfl, m2, l2, h2, g2⟩
  replace l2 := l2 (by decide)
  go_wp2_with fail
  refine (h2.pick _ (by omega) (by decide)).mono ?_; rintro e' w3 ⟨v3, rfl, m3, l3, h3, g3⟩
  replace l3 := l3 (by decide)
  go_wp2_with fail
  refine (h3.pick _ (by omega) (by decide)).mono ?_; rintro e' w4 ⟨v4, rfl, m4, l4, h4, g4⟩
  replace l4 := l4 (by decide)
  go_wp2_with fail
  refine (h4.pick _ (by omega) (by decide)).mono ?_; rintro e' w5 ⟨v5, rfl, m5, l5, h5, g5⟩
  replace l5 := l5 (by decide)
  have m45 : 0 ≤ v4 * v5 := Int.mul_nonneg m4 m5
  have l45 : v4 * v5 ≤ 4 * 49 := Int.mul_le_mul (by omega) (by omega) m5 (by decide)
  go_wp2_with fail
  refine (h5.pick _ (by omega) (by decide)).mono ?_; rintro e' w6 ⟨v6, rfl, m6, l6, h6, g6⟩
  replace l6 := l6 (by decide)
  go_wp2_with fail
  have LS := fun k hk => lit_strs (w6.alloc (.cells #[.int .i64 (1 + v1), .int .i64 v2, .int .i64 v3, .int .i64 (v4 * v5), .int .i64 (v6 * 40), .string ⟨#[]⟩] 30)) [⟨#[]⟩, ⟨#[97]⟩, ⟨#[98]⟩, ⟨#[97, 98]⟩, ⟨#[97, 98, 99]⟩, ⟨#[99, 97]⟩, ⟨#[97, 98, 99, 97]⟩] 9 (k := k) hk
  simp only [World.size_alloc] at LS
  refine (of_any _ 7 [⟨#[]⟩, ⟨#[97]⟩, ⟨#[98]⟩, ⟨#[97, 98]⟩, ⟨#[97, 98, 99]⟩, ⟨#[99, 97]⟩, ⟨#[97, 98, 99, 97]⟩] ((h6.alloc (.cells #[.int .i64 (1 + v1), .int .i64 v2, .int .i64 v3, .int .i64 (v4 * v5), .int .i64 (v6 * 40), .string ⟨#[]⟩] 30)).alloc (.cells ([⟨#[]⟩, ⟨#[97]⟩, ⟨#[98]⟩, ⟨#[97, 98]⟩, ⟨#[97, 98, 99]⟩, ⟨#[99, 97]⟩, ⟨#[97, 98, 99, 97]⟩].map Value.string).toArray 9)) (by omega) rfl (by decide) (by decide) (by have := h6.lt; omega) (by simp) LS).mono ?_
  rintro e' w7 ⟨v, rfl, ⟨s, hs, rfl⟩, h7, g7⟩
  clear LS
  have hl8 : s.size ≤ 8 := by
    simp only [List.mem_cons, List.not_mem_nil, or_false] at hs
    rcases hs with rfl | rfl | rfl | rfl | rfl | rfl | rfl <;> decide
  have St0 : CSt w0 g (N + 7) w w6.heap.size w7 := by
    have G := grown_trans (grown_trans (grown_trans (grown_trans (grown_trans g1 g2) g3) g4) g5) g6
    have hz := G.size
    simp at hz
    have B0 := heap_alloc_new w (.cells (CallV.mk 0 0 0 0 0 ⟨#[]⟩).cells 30)
    have B6 := (G.block w.heap.size (by simp) (by simp; omega)).trans B0
    have Bc := heap_alloc_new w6 (.cells #[.int .i64 (1 + v1), .int .i64 v2, .int .i64 v3, .int .i64 (v4 * v5), .int .i64 (v6 * 40), .string ⟨#[]⟩] 30)
    have far : ∀ {q : Nat} {o : Obj}, w.heap.size ≤ q → (w6.alloc (.cells #[.int .i64 (1 + v1), .int .i64 v2, .int .i64 v3, .int .i64 (v4 * v5), .int .i64 (v6 * 40), .string ⟨#[]⟩] 30)).heap[q]? = some o → w7.heap[q]? = some o := fun {q o} hq hb => (g7.block q (blk_lt (blk_below hb (below1 _ (.cells ([⟨#[]⟩, ⟨#[97]⟩, ⟨#[98]⟩, ⟨#[97, 98]⟩, ⟨#[97, 98, 99]⟩, ⟨#[99, 97]⟩, ⟨#[97, 98, 99, 97]⟩].map Value.string).toArray 9)))) (by simp; omega)).trans (blk_below hb (below1 _ _))
    exact ⟨⟨1 + v1, v2, v3, v4 * v5, v6 * 40, ⟨#[]⟩⟩, (show (⟨#[]⟩ : ByteArray).size ≤ 8 by decide), h7, grown_trans (grown_trans (grown_below (below1 _ _) _) G) (grown_trans (grown_below (below2 _ _ _) _) g7), by omega, hlt, hw0, far (by omega) Bc, ⟨⟨0, 0, 0, 0, 0, ⟨#[]⟩⟩, far (Nat.le_refl _) (blk_below B6 (below1 _ _))⟩⟩
  clear h1 h2 h3 h4 h5 h6 h7 g1 g2 g3 g4 g5 g6 g7 h hs
  generalize w6.heap.size = b at St0
  obtain ⟨n1, n2, n3, n4, n5, n6⟩ := St0.ne
  obtain ⟨x1, c0, c1, c2, c3, c4, c5, hf, hBx⟩ := St0.cc
  go_wp2_with fail
  have St8 := St0.setS s hl8
  refine (St8.dr.pick _ (by omega) (by decide)).mono ?_; rintro e' w7' ⟨q, rfl, q0, q1, h8, g8⟩
  replace q1 := q1 (by decide)
  have St := St8.draw h8 g8
  clear c0 c1 c2 c3 c4 c5 hf hBx St0 St8 h8 g8
  generalize w7' = w7 at St
  by_cases q0' : q = 0
  · subst q0'
    obtain ⟨x1, c0, c1, c2, c3, c4, c5, hf, hBx⟩ := St.cc
    go_wp2_with fail
    refine (St.dr.pick _ (by omega) (by decide)).mono ?_; rintro e' w8 ⟨z, rfl, z0, z1, h8, g8⟩
    replace z1 := z1 (by decide)
    replace St := St.draw h8 g8
    clear c0 c1 c2 c3 c4 c5 hf hBx h8 g8
    obtain ⟨x1, c0, c1, c2, c3, c4, c5, hf, hBx⟩ := St.cc
    obtain ⟨y1, d0, d1, d2, d3, d4, d5, hf'⟩ := St.qc
    go_wp2_with fail
    obtain ⟨⟨E0, E1, E2, E3, E4, E5⟩, Fin⟩ := CSt.fin (M := N + 9) (St.set0 (z * 12)) ⟨z * 12, x1.e, x1.a, x1.b, x1.c, x1.nm⟩ (by have := heap_setCell_same w8 b 0 _ _ (.int .i64 (z * 12)) hBx.out; simpa [CallV.cells] using this) (by omega)
    exact bodyPost_ret (v := .agg #[_, _, _, _, _, _]) (by simp [results, Tryz.results24, go_sem, E0, E1, E2, E3, E4, E5]) rfl Fin
  have t0 : (q == 0) = false := by simp [q0']
  by_cases q1' : q = 1
  · subst q1'
    clear q0' t0
    have q1 := St.dr
    obtain ⟨x1, c0, c1, c2, c3, c4, c5, hf, hBx⟩ := St.cc
    go_wp2_with fail
    refine ((q1.alloc _).pick _ (by omega) (by decide)).mono ?_; rintro e' w8 ⟨z, rfl, z0, z1, h8, g8⟩
    replace z1 := z1 (by decide)
    have St1 := (St.alloc (.cells #[.int .i64 (-1), .int .i64 (3)] 3)).draw h8 g8
    have V : w8.heap[w7.heap.size]? = some (.cells #[.int .i64 (-1), .int .i64 (3)] 3 (0, 0)) := (g8.block _ (by simp) (by have := q1.lt; simp; omega)).trans (heap_alloc_new w7 _)
    clear c0 c1 c2 c3 c4 c5 hf hBx h8 g8 St q1
    rcases (show z = 0 ∨ z = 1 by omega) with rfl | rfl
    · have D := cell_of_row w8 _ 0 _ _ _ V
      have St := St1
      obtain ⟨x1, c0, c1, c2, c3, c4, c5, hf, hBx⟩ := St.cc
      clear V St1
      obtain ⟨y1, d0, d1, d2, d3, d4, d5, hf'⟩ := St.qc
      go_wp2_with fail
      obtain ⟨⟨E0, E1, E2, E3, E4, E5⟩, Fin⟩ := CSt.fin (M := N + 9) (St.set1 (-1)) ⟨x1.k, (-1), x1.a, x1.b, x1.c, x1.nm⟩ (by have := heap_setCell_same w8 b 1 _ _ (.int .i64 (-1)) hBx.out; simpa [CallV.cells] using this) (by omega)
      exact bodyPost_ret (v := .agg #[_, _, _, _, _, _]) (by simp [results, Tryz.results24, go_sem, E0, E1, E2, E3, E4, E5]) rfl Fin
    · have D := cell_of_row w8 _ 1 _ _ _ V
      have St := St1
      obtain ⟨x1, c0, c1, c2, c3, c4, c5, hf, hBx⟩ := St.cc
      clear V St1
      obtain ⟨y1, d0, d1, d2, d3, d4, d5, hf'⟩ := St.qc
      go_wp2_with fail
      obtain ⟨⟨E0, E1, E2, E3, E4, E5⟩, Fin⟩ := CSt.fin (M := N + 9) (St.set1 (3)) ⟨x1.k, (3), x1.a, x1.b, x1.c, x1.nm⟩ (by have := heap_setCell_same w8 b 1 _ _ (.int .i64 (3)) hBx.out; simpa [CallV.cells] using this) (by omega)
      exact bodyPost_ret (v := .agg #[_, _, _, _, _, _]) (by simp [results, Tryz.results24, go_sem, E0, E1, E2, E3, E4, E5]) rfl Fin
  
  have t1 : (q == 1) = false := by simp [q1']
  by_cases q2' : q = 2
  · subst q2'
    clear q0' t0 q1' t1
    have q1 := St.dr
    obtain ⟨x1, c0, c1, c2, c3, c4, c5, hf, hBx⟩ := St.cc
    go_wp2_with fail
    refine ((q1.alloc _).pick _ (by omega) (by decide)).mono ?_; rintro e' w8 ⟨z, rfl, z0, z1, h8, g8⟩
    replace z1 := z1 (by decide)
    have St1 := (St.alloc (.cells #[.int .i64 (-1), .int .i64 (9999), .int .i64 (10000)] 3)).draw h8 g8
    have V : w8.heap[w7.heap.size]? = some (.cells #[.int .i64 (-1), .int .i64 (9999), .int .i64 (10000)] 3 (0, 0)) := (g8.block _ (by simp) (by have := q1.lt; simp; omega)).trans (heap_alloc_new w7 _)
    clear c0 c1 c2 c3 c4 c5 hf hBx h8 g8 St q1
    rcases (show z = 0 ∨ z = 1 ∨ z = 2 by omega) with rfl | rfl | rfl
    · have D := cell_of_row w8 _ 0 _ _ _ V
      have St := St1
      obtain ⟨x1, c0, c1, c2, c3, c4, c5, hf, hBx⟩ := St.cc
      clear V St1
      obtain ⟨y1, d0, d1, d2, d3, d4, d5, hf'⟩ := St.qc
      go_wp2_with fail
      obtain ⟨⟨E0, E1, E2, E3, E4, E5⟩, Fin⟩ := CSt.fin (M := N + 9) (St.set4 (-1)) ⟨x1.k, x1.e, x1.a, x1.b, (-1), x1.nm⟩ (by have := heap_setCell_same w8 b 4 _ _ (.int .i64 (-1)) hBx.out; simpa [CallV.cells] using this) (by omega)
      exact bodyPost_ret (v := .agg #[_, _, _, _, _, _]) (by simp [results, Tryz.results24, go_sem, E0, E1, E2, E3, E4, E5]) rfl Fin
    · have D := cell_of_row w8 _ 1 _ _ _ V
      have St := St1
      obtain ⟨x1, c0, c1, c2, c3, c4, c5, hf, hBx⟩ := St.cc
      clear V St1
      obtain ⟨y1, d0, d1, d2, d3, d4, d5, hf'⟩ := St.qc
      go_wp2_with fail
      obtain ⟨⟨E0, E1, E2, E3, E4, E5⟩, Fin⟩ := CSt.fin (M := N + 9) (St.set4 (9999)) ⟨x1.k, x1.e, x1.a, x1.b, (9999), x1.nm⟩ (by have := heap_setCell_same w8 b 4 _ _ (.int .i64 (9999)) hBx.out; simpa [CallV.cells] using this) (by omega)
      exact bodyPost_ret (v := .agg #[_, _, _, _, _, _]) (by simp [results, Tryz.results24, go_sem, E0, E1, E2, E3, E4, E5]) rfl Fin
    · have D := cell_of_row w8 _ 2 _ _ _ V
      have St := St1
      obtain ⟨x1, c0, c1, c2, c3, c4, c5, hf, hBx⟩ := St.cc
      clear V St1
      obtain ⟨y1, d0, d1, d2, d3, d4, d5, hf'⟩ := St.qc
      go_wp2_with fail
      obtain ⟨⟨E0, E1, E2, E3, E4, E5⟩, Fin⟩ := CSt.fin (M := N + 9) (St.set4 (10000)) ⟨x1.k, x1.e, x1.a, x1.b, (10000), x1.nm⟩ (by have := heap_setCell_same w8 b 4 _ _ (.int .i64 (10000)) hBx.out; simpa [CallV.cells] using this) (by omega)
      exact bodyPost_ret (v := .agg #[_, _, _, _, _, _]) (by simp [results, Tryz.results24, go_sem, E0, E1, E2, E3, E4, E5]) rfl Fin
  
  have t2 : (q == 2) = false := by simp [q2']
  by_cases q3' : q = 3
  · subst q3'
    clear q0' t0 q1' t1 q2' t2
    have p1 := St.dr
    go_wp2_with fail
    have LS := fun k hk => lit_strs w7 [⟨#[100]⟩, ⟨#[97, 98, 99, 97, 98]⟩, ⟨#[32]⟩] 9 (k := k) hk
    refine (of_any _ 3 [⟨#[100]⟩, ⟨#[97, 98, 99, 97, 98]⟩, ⟨#[32]⟩] (p1.alloc (.cells ([⟨#[100]⟩, ⟨#[97, 98, 99, 97, 98]⟩, ⟨#[32]⟩].map Value.string).toArray 9)) (by omega) rfl (by decide) (by decide) (by have := p1.lt; omega) (by simp) LS).mono ?_
    rintro e' w8 ⟨v, rfl, ⟨s, hs, rfl⟩, h8, g8⟩
    clear LS
    have hl8 : s.size ≤ 8 := by
      simp only [List.mem_cons, List.not_mem_nil, or_false] at hs
      rcases hs with rfl | rfl | rfl <;> decide
    replace St := (St.alloc (.cells ([⟨#[100]⟩, ⟨#[97, 98, 99, 97, 98]⟩, ⟨#[32]⟩].map Value.string).toArray 9)).draw h8 g8
    clear p1 h8 g8
    obtain ⟨x1, c0, c1, c2, c3, c4, c5, hf, hBx⟩ := St.cc
    obtain ⟨y1, d0, d1, d2, d3, d4, d5, hf'⟩ := St.qc
    go_wp2_with fail
    obtain ⟨⟨E0, E1, E2, E3, E4, E5⟩, Fin⟩ := CSt.fin (M := N + 9) (St.setS s hl8) ⟨x1.k, x1.e, x1.a, x1.b, x1.c, s⟩ (by have := heap_setCell_same w8 b 5 _ _ (.string s) hBx.out; simpa [CallV.cells] using this) (by omega)
    exact bodyPost_ret (v := .agg #[_, _, _, _, _, _]) (by simp [results, Tryz.results24, go_sem, E0, E1, E2, E3, E4, E5]) rfl Fin
  have t3 : (q == 3) = false := by simp [q3']
  clear q0' q1' q2' q3'
  obtain ⟨x1, c0, c1, c2, c3, c4, c5, hf, hBx⟩ := St.cc
  obtain ⟨y1, d0, d1, d2, d3, d4, d5, hf'⟩ := St.qc
  go_wp2_with fail
  obtain ⟨⟨E0, E1, E2, E3, E4, E5⟩, Fin⟩ := CSt.fin (M := N + 9) St x1 hBx.out (by omega)
  exact bodyPost_ret (v := .agg #[_, _, _, _, _, _]) (by simp [results, Tryz.results24, go_sem, E0, E1, E2, E3, E4, E5]) rfl Fin
end Go.Proofs.YtgdehdfbdjgmdaaGreatDoor
