/-
  Walks: a call drawn.
-/
import Derived.Test.YtabaemnknjdjoaaDr2
import Derived.Test.YtabaemnknjdjoaaStep4
import Derived.Test.YtabaemnknjdjoaaKern4
import Derived.Deep.DeepCutAuto
import Derived.Deep.CutBlock
set_option linter.unusedVariables false
namespace Go.Proofs.Ytabaemnknjdjoaa
open Go.RowKit

/-- The call under way lies in block b; the reader in block g. -/
def CallSt (w0 : World) (g N : Nat) (w : World) (m i e c : Value) (b : Nat) (wr : World) : Prop :=
  ∃ x : CallV, x.nm.size ≤ 8 ∧ Dr w0 g N wr ∧ w.grownBy wr (some g) ∧ w.heap.size + 1 < b ∧ g < w.heap.size ∧ w0.heap.size ≤ w.heap.size ∧ wr.heap[b]? = some (.cells x.cells 38 (0, 0)) ∧
    wr.heap[w.heap.size]? = some (.cells #[m, i, e, c] 74 (0, 0)) ∧ (∃ y : CallV, wr.heap[w.heap.size + 1]? = some (.cells y.cells 38 (0, 0)))

theorem call_cells {w : World} {b : Nat} {x : CallV} (h : w.heap[b]? = some (.cells x.cells 38 (0, 0))) : w.cell? ⟨b, 0, none⟩ = some (.int .i64 x.k) ∧ w.cell? ⟨b, 1, none⟩ = some (.int .i64 x.e) ∧ w.cell? ⟨b, 2, none⟩ = some (.int .i64 x.a) ∧ w.cell? ⟨b, 3, none⟩ = some (.int .i64 x.b) ∧ w.cell? ⟨b, 4, none⟩ = some (.int .i64 x.c) ∧ w.cell? ⟨b, 5, none⟩ = some (.string x.nm) :=
  ⟨cell_of_row w b 0 _ _ _ h, cell_of_row w b 1 _ _ _ h, cell_of_row w b 2 _ _ _ h, cell_of_row w b 3 _ _ _ h, cell_of_row w b 4 _ _ _ h, cell_of_row w b 5 _ _ _ h⟩

section
variable {w0 w wr w' : World} {g N M b : Nat} {m i e c : Value}
theorem CallSt.kc (h : CallSt w0 g N w m i e c b wr) : wr.cell? ⟨w.heap.size, 0, none⟩ = some m ∧ wr.cell? ⟨w.heap.size, 1, none⟩ = some i ∧ wr.cell? ⟨w.heap.size, 2, none⟩ = some e ∧ wr.cell? ⟨w.heap.size, 3, none⟩ = some c := by
  obtain ⟨x, _, _, _, _, _, _, _, h1, _⟩ := h
  exact blk_cells4 h1
theorem CallSt.cc (h : CallSt w0 g N w m i e c b wr) : ∃ x : CallV, wr.cell? ⟨b, 0, none⟩ = some (.int .i64 x.k) ∧ wr.cell? ⟨b, 1, none⟩ = some (.int .i64 x.e) ∧ wr.cell? ⟨b, 2, none⟩ = some (.int .i64 x.a) ∧ wr.cell? ⟨b, 3, none⟩ = some (.int .i64 x.b) ∧ wr.cell? ⟨b, 4, none⟩ = some (.int .i64 x.c) ∧ wr.cell? ⟨b, 5, none⟩ = some (.string x.nm) ∧ (∀ j, wr.frozen? ⟨b, j, none⟩ = false) ∧ Hid (wr.heap[b]? = some (.cells x.cells 38 (0, 0))) := by
  obtain ⟨x, _, _, _, _, _, _, h1, _⟩ := h
  obtain ⟨c0, c1, c2, c3, c4, c5⟩ := call_cells h1
  exact ⟨x, c0, c1, c2, c3, c4, c5, blk_frozen h1, Lib.hid h1⟩
theorem CallSt.dr (h : CallSt w0 g N w m i e c b wr) : Dr w0 g N wr := by
  obtain ⟨x, _, h1, _⟩ := h
  exact h1
theorem CallSt.draw (h : CallSt w0 g N w m i e c b wr) (hd : Dr w0 g M w') (hg : wr.grownBy w' (some g)) : CallSt w0 g M w m i e c b w' := by
  obtain ⟨x, h0, h1, h2, h3, h4, h5, h6, h7, ⟨y, h8⟩⟩ := h
  have far : ∀ {q : Nat} {o : Obj}, w.heap.size ≤ q → wr.heap[q]? = some o → w'.heap[q]? = some o := fun {q o} hq hb => (hg.block q (blk_lt hb) (by simp; omega)).trans hb
  exact ⟨x, h0, hd, grown_trans h2 hg, h3, h4, h5, far (by omega) h6, far (Nat.le_refl _) h7, ⟨y, far (by omega) h8⟩⟩
theorem CallSt.set0 (h : CallSt w0 g N w m i e c b wr) (z : Int) : CallSt w0 g N w m i e c b (wr.setCell ⟨b, 0, none⟩ (.int .i64 z)) := by
  obtain ⟨x, h0, h1, h2, h3, h4, h5, h6, h7, ⟨y, h8⟩⟩ := h
  have hb := heap_setCell_same wr b 0 _ _ (.int .i64 z) h6
  have far : ∀ {q : Nat} {o : Obj}, q ≠ b → wr.heap[q]? = some o → (wr.setCell ⟨b, 0, none⟩ (.int .i64 z)).heap[q]? = some o := fun {q o} hq hb => (heap_setCell_other wr ⟨b, 0, none⟩ q _ (fun e => hq (by simpa using e))).trans hb
  exact ⟨⟨z, x.e, x.a, x.b, x.c, x.nm⟩, h0, h1.set (by omega) (by omega), grown_new h2 (by omega) _, h3, h4, h5, by simpa [CallV.cells] using hb, far (by omega) h7, ⟨y, far (by omega) h8⟩⟩
theorem CallSt.set1 (h : CallSt w0 g N w m i e c b wr) (z : Int) : CallSt w0 g N w m i e c b (wr.setCell ⟨b, 1, none⟩ (.int .i64 z)) := by
  obtain ⟨x, h0, h1, h2, h3, h4, h5, h6, h7, ⟨y, h8⟩⟩ := h
  have hb := heap_setCell_same wr b 1 _ _ (.int .i64 z) h6
  have far : ∀ {q : Nat} {o : Obj}, q ≠ b → wr.heap[q]? = some o → (wr.setCell ⟨b, 1, none⟩ (.int .i64 z)).heap[q]? = some o := fun {q o} hq hb => (heap_setCell_other wr ⟨b, 1, none⟩ q _ (fun e => hq (by simpa using e))).trans hb
  exact ⟨⟨x.k, z, x.a, x.b, x.c, x.nm⟩, h0, h1.set (by omega) (by omega), grown_new h2 (by omega) _, h3, h4, h5, by simpa [CallV.cells] using hb, far (by omega) h7, ⟨y, far (by omega) h8⟩⟩
theorem CallSt.set2 (h : CallSt w0 g N w m i e c b wr) (z : Int) : CallSt w0 g N w m i e c b (wr.setCell ⟨b, 2, none⟩ (.int .i64 z)) := by
  obtain ⟨x, h0, h1, h2, h3, h4, h5, h6, h7, ⟨y, h8⟩⟩ := h
  have hb := heap_setCell_same wr b 2 _ _ (.int .i64 z) h6
  have far : ∀ {q : Nat} {o : Obj}, q ≠ b → wr.heap[q]? = some o → (wr.setCell ⟨b, 2, none⟩ (.int .i64 z)).heap[q]? = some o := fun {q o} hq hb => (heap_setCell_other wr ⟨b, 2, none⟩ q _ (fun e => hq (by simpa using e))).trans hb
  exact ⟨⟨x.k, x.e, z, x.b, x.c, x.nm⟩, h0, h1.set (by omega) (by omega), grown_new h2 (by omega) _, h3, h4, h5, by simpa [CallV.cells] using hb, far (by omega) h7, ⟨y, far (by omega) h8⟩⟩
theorem CallSt.set3 (h : CallSt w0 g N w m i e c b wr) (z : Int) : CallSt w0 g N w m i e c b (wr.setCell ⟨b, 3, none⟩ (.int .i64 z)) := by
  obtain ⟨x, h0, h1, h2, h3, h4, h5, h6, h7, ⟨y, h8⟩⟩ := h
  have hb := heap_setCell_same wr b 3 _ _ (.int .i64 z) h6
  have far : ∀ {q : Nat} {o : Obj}, q ≠ b → wr.heap[q]? = some o → (wr.setCell ⟨b, 3, none⟩ (.int .i64 z)).heap[q]? = some o := fun {q o} hq hb => (heap_setCell_other wr ⟨b, 3, none⟩ q _ (fun e => hq (by simpa using e))).trans hb
  exact ⟨⟨x.k, x.e, x.a, z, x.c, x.nm⟩, h0, h1.set (by omega) (by omega), grown_new h2 (by omega) _, h3, h4, h5, by simpa [CallV.cells] using hb, far (by omega) h7, ⟨y, far (by omega) h8⟩⟩
theorem CallSt.set4 (h : CallSt w0 g N w m i e c b wr) (z : Int) : CallSt w0 g N w m i e c b (wr.setCell ⟨b, 4, none⟩ (.int .i64 z)) := by
  obtain ⟨x, h0, h1, h2, h3, h4, h5, h6, h7, ⟨y, h8⟩⟩ := h
  have hb := heap_setCell_same wr b 4 _ _ (.int .i64 z) h6
  have far : ∀ {q : Nat} {o : Obj}, q ≠ b → wr.heap[q]? = some o → (wr.setCell ⟨b, 4, none⟩ (.int .i64 z)).heap[q]? = some o := fun {q o} hq hb => (heap_setCell_other wr ⟨b, 4, none⟩ q _ (fun e => hq (by simpa using e))).trans hb
  exact ⟨⟨x.k, x.e, x.a, x.b, z, x.nm⟩, h0, h1.set (by omega) (by omega), grown_new h2 (by omega) _, h3, h4, h5, by simpa [CallV.cells] using hb, far (by omega) h7, ⟨y, far (by omega) h8⟩⟩
theorem CallSt.setS (h : CallSt w0 g N w m i e c b wr) (s : ByteArray) (hs : s.size ≤ 8) : CallSt w0 g N w m i e c b (wr.setCell ⟨b, 5, none⟩ (.string s)) := by
  obtain ⟨x, h0, h1, h2, h3, h4, h5, h6, h7, ⟨y, h8⟩⟩ := h
  have hb := heap_setCell_same wr b 5 _ _ (.string s) h6
  have far : ∀ {q : Nat} {o : Obj}, q ≠ b → wr.heap[q]? = some o → (wr.setCell ⟨b, 5, none⟩ (.string s)).heap[q]? = some o := fun {q o} hq hb => (heap_setCell_other wr ⟨b, 5, none⟩ q _ (fun e => hq (by simpa using e))).trans hb
  exact ⟨⟨x.k, x.e, x.a, x.b, x.c, s⟩, hs, h1.set (by omega) (by omega), grown_new h2 (by omega) _, h3, h4, h5, by simpa [CallV.cells] using hb, far (by omega) h7, ⟨y, far (by omega) h8⟩⟩
theorem CallSt.gr (h : CallSt w0 g N w m i e c b wr) : w.grownBy wr (some g) := by
  obtain ⟨x, _, _, h1, _⟩ := h
  exact h1
theorem CallSt.ne (h : CallSt w0 g N w m i e c b wr) : w.heap.size ≠ b ∧ b ≠ w.heap.size ∧ w.heap.size + 1 ≠ b ∧ b ≠ w.heap.size + 1 := by
  obtain ⟨x, _, _, _, h1, _⟩ := h
  omega
theorem set6 {w : World} {q : Nat} {x y : CallV} (h : w.heap[q]? = some (.cells y.cells 38 (0, 0))) :
    ((((((w.setCell ⟨q, 0, none⟩ (.int .i64 x.k)).setCell ⟨q, 1, none⟩ (.int .i64 x.e)).setCell ⟨q, 2, none⟩ (.int .i64 x.a)).setCell ⟨q, 3, none⟩ (.int .i64 x.b)).setCell ⟨q, 4, none⟩ (.int .i64 x.c)).setCell ⟨q, 5, none⟩ (.string x.nm)).heap[q]? = some (.cells x.cells 38 (0, 0)) := by
  have h0 := heap_setCell_same w q 0 _ _ (.int .i64 x.k) h
  have h1 := heap_setCell_same _ q 1 _ _ (.int .i64 x.e) h0
  have h2 := heap_setCell_same _ q 2 _ _ (.int .i64 x.a) h1
  have h3 := heap_setCell_same _ q 3 _ _ (.int .i64 x.b) h2
  have h4 := heap_setCell_same _ q 4 _ _ (.int .i64 x.c) h3
  have h5 := heap_setCell_same _ q 5 _ _ (.string x.nm) h4
  simpa [CallV.cells] using h5

theorem CallSt.qc (h : CallSt w0 g N w m i e c b wr) : ∃ y : CallV, wr.cell? ⟨w.heap.size + 1, 0, none⟩ = some (.int .i64 y.k) ∧ wr.cell? ⟨w.heap.size + 1, 1, none⟩ = some (.int .i64 y.e) ∧ wr.cell? ⟨w.heap.size + 1, 2, none⟩ = some (.int .i64 y.a) ∧ wr.cell? ⟨w.heap.size + 1, 3, none⟩ = some (.int .i64 y.b) ∧ wr.cell? ⟨w.heap.size + 1, 4, none⟩ = some (.int .i64 y.c) ∧ wr.cell? ⟨w.heap.size + 1, 5, none⟩ = some (.string y.nm) ∧ ∀ j, wr.frozen? ⟨w.heap.size + 1, j, none⟩ = false := by
  obtain ⟨x, _, _, _, _, _, _, _, _, ⟨y, h1⟩⟩ := h
  obtain ⟨c0, c1, c2, c3, c4, c5⟩ := call_cells h1
  exact ⟨y, c0, c1, c2, c3, c4, c5, blk_frozen h1⟩

/-- What is handed back. -/
def CallEnd (w0 : World) (g N : Nat) (w : World) (x : CallV) (W : World) : Prop :=
  (W.cell? ⟨w.heap.size + 1, 0, none⟩ = some (.int .i64 x.k) ∧ W.cell? ⟨w.heap.size + 1, 1, none⟩ = some (.int .i64 x.e) ∧ W.cell? ⟨w.heap.size + 1, 2, none⟩ = some (.int .i64 x.a) ∧ W.cell? ⟨w.heap.size + 1, 3, none⟩ = some (.int .i64 x.b) ∧ W.cell? ⟨w.heap.size + 1, 4, none⟩ = some (.int .i64 x.c) ∧ W.cell? ⟨w.heap.size + 1, 5, none⟩ = some (.string x.nm)) ∧
  DrPost w0 g N w (fun v => ∃ x : CallV, v = x.val ∧ x.nm.size ≤ 8) (.returned x.val) W
theorem CallSt.fin (h : CallSt w0 g N w m i e c b wr) (x : CallV) (hb : wr.heap[b]? = some (.cells x.cells 38 (0, 0))) (hM : N ≤ M) : CallEnd w0 g M w x ((((((wr.setCell ⟨w.heap.size + 1, 0, none⟩ (.int .i64 x.k)).setCell ⟨w.heap.size + 1, 1, none⟩ (.int .i64 x.e)).setCell ⟨w.heap.size + 1, 2, none⟩ (.int .i64 x.a)).setCell ⟨w.heap.size + 1, 3, none⟩ (.int .i64 x.b)).setCell ⟨w.heap.size + 1, 4, none⟩ (.int .i64 x.c)).setCell ⟨w.heap.size + 1, 5, none⟩ (.string x.nm)) := by
  obtain ⟨x', h0, h1, h2, h3, h4, h5, h6, h7, ⟨y, h8⟩⟩ := h
  have hx : x'.nm = x.nm := by
    rw [h6] at hb
    simp [CallV.cells] at hb
    exact hb.2.2.2.2.2
  have n1 : w.heap.size + 1 ≠ g := by omega
  have n2 : w0.heap.size ≤ w.heap.size + 1 := by omega
  have n3 : w.heap.size ≤ w.heap.size + 1 := by omega
  exact ⟨call_cells (set6 h8), _, rfl, ⟨x, rfl, hx ▸ h0⟩, ((((((h1.set n1 n2).set n1 n2).set n1 n2).set n1 n2).set n1 n2).set n1 n2).mono hM, grown_new (grown_new (grown_new (grown_new (grown_new (grown_new h2 n3 _) n3 _) n3 _) n3 _) n3 _) n3 _⟩
theorem CallSt.mono (h : CallSt w0 g N w m i e c b wr) (hm : N ≤ M) : CallSt w0 g M w m i e c b wr := by
  obtain ⟨x, h0, h1, h2⟩ := h
  exact ⟨x, h0, h1.mono hm, h2⟩
end

/-- What the operations of the statement yield that draws a table to be unpinned. -/
def unpinR (g b : Nat) (m i e c : Value) (k : Nat) (v : Value) : Prop := match k with
  | 0 => v = .pointer (some ⟨g, 0, none⟩)
  | 1 => v = .agg #[m, i, e, c]
  | 2 => v = .pointer (some ⟨g, 0, none⟩)
  | 3 => ∃ z : Int, v = .int .i64 z ∧ 0 ≤ z ∧ z < 2
  | 4 => ∃ z : Int, v = .int .i64 z
  | 5 => ∃ z : Int, v = .int .i64 z
  | 6 => v = .pointer (some ⟨b, 2, none⟩)
  | _ => True

theorem l1Put_some (f : Int) (b : Bool) (w : World) (h0 : 0 ≤ f) (h1 : f ≤ 1000) :
    Calls Try.prog 66 #[.int .i64 f, .bool b] w fun e w' => ∃ d : Int, e = .returned (.int .i64 d) ∧ w = w' := (l1Put_any f b w h0 h1).mono fun _ _ h => ⟨_, h⟩
set_option maxRecDepth 100000 in
set_option maxHeartbeats 8000000 in
theorem l92Call_any {w0 w : World} {g N : Nat} (m i e c : Value) (xs : List InfoV) (h : Dr w0 g N w) (hN : N ≤ 800000) (hi : ∀ w', w.grownBy w' (some g) → RdInfos w' i xs) (hl : xs.length ≤ 12) :
    Calls Try.prog 62 #[.pointer (some ⟨g, 0, none⟩), .agg #[m, i, e, c]] w (DrPost w0 g (N + 20) w fun v => ∃ x : CallV, v = x.val ∧ x.nm.size ≤ 8) := by
  have hlt := h.lt
  have hw0 : w0.heap.size ≤ w.heap.size := h.2.1.size
  have hi' := hi
  have Hi := Lib.hid hi; clear hi hi'
  go_enter Try.func62, Try.ntmps62
  go_wp2_with fail
  refine (((h.alloc _).alloc _).pick _ (by omega) (by decide)).mono ?_; rintro e' w1 ⟨x, rfl, hx0, hx1, h1, g1⟩
  have hx1 := hx1 (by decide)
  go_wp2_with fail
  refine (h1.pick _ (by omega) (by decide)).mono ?_; rintro e' w2 ⟨y, rfl, hy0, hy1, h2, g2⟩
  go_wp2_with fail
  refine (of_any w2.heap.size 6 [⟨#[97]⟩, ⟨#[98]⟩, ⟨#[99]⟩, ⟨#[97, 98]⟩, ⟨#[98, 98]⟩, ⟨#[97]⟩] (h2.alloc _) (by omega) rfl (by decide) (by decide) (by have := h2.lt; omega) (by simp) (fun k hk => lit_strs w2 [⟨#[97]⟩, ⟨#[98]⟩, ⟨#[99]⟩, ⟨#[97, 98]⟩, ⟨#[98, 98]⟩, ⟨#[97]⟩] _ hk)).mono ?_
  rintro e' w3 ⟨v, rfl, ⟨s, hs, rfl⟩, h3, g3⟩
  have hl8 : s.size ≤ 8 := by
    simp only [List.mem_cons, List.not_mem_nil, or_false] at hs
    rcases hs with rfl | rfl | rfl | rfl | rfl | rfl <;> decide
  go_upto_block 0 with fail
  have St : CallSt w0 g (N + 3) w m i e c w3.heap.size (w3.alloc (.cells #[.int .i64 (1 + x), .int .i64 y, .int .i64 0, .int .i64 0, .int .i64 0, .string s] 38)) := by
    have G := grown_trans (grown_trans g1 g2) (grown_trans (grown_below (below1 _ _) _) g3)
    have hz := G.size
    simp at hz
    have B1 := heap_alloc_new (w.alloc (.cells #[m, i, e, c] 74)) (.cells #[.int .i64 0, .int .i64 0, .int .i64 0, .int .i64 0, .int .i64 0, .string ⟨#[]⟩] 38)
    have B0 := blk_below (heap_alloc_new w (.cells #[m, i, e, c] 74)) (below1 _ (.cells #[.int .i64 0, .int .i64 0, .int .i64 0, .int .i64 0, .int .i64 0, .string ⟨#[]⟩] 38))
    simp only [World.size_alloc] at B1
    have far : ∀ {q : Nat} {o : Obj}, w.heap.size ≤ q → ((w.alloc (.cells #[m, i, e, c] 74)).alloc (.cells #[.int .i64 0, .int .i64 0, .int .i64 0, .int .i64 0, .int .i64 0, .string ⟨#[]⟩] 38)).heap[q]? = some o → (w3.alloc (.cells #[.int .i64 (1 + x), .int .i64 y, .int .i64 0, .int .i64 0, .int .i64 0, .string s] 38)).heap[q]? = some o := fun {q o} hq hb => blk_below ((G.block q (blk_lt hb) (by simp; omega)).trans hb) (below1 _ _)
    exact ⟨⟨1 + x, y, 0, 0, 0, s⟩, hl8, h3.alloc _, grown_alloc (grown_trans (grown_below (below2 _ _ _) _) G) _, by omega, hlt, hw0, heap_alloc_new _ _, far (Nat.le_refl _) B0, ⟨⟨0, 0, 0, 0, 0, ⟨#[]⟩⟩, far (by omega) B1⟩⟩
  clear h1 h2 h3 g1 g2 g3 h hs
  generalize w3.alloc (.cells #[.int .i64 (1 + x), .int .i64 y, .int .i64 0, .int .i64 0, .int .i64 0, .string s] 38) = wr at St
  generalize w3.heap.size = b at St
  obtain ⟨hbne, hbne', hbne1, hbne1'⟩ := St.ne
  go_cut [] (fun wx => CallSt w0 g (N + 12) w m i e c b wx)
  case first =>
    rcases (show x = 0 ∨ x = 1 ∨ x = 2 ∨ x = 3 ∨ x = 4 ∨ x = 5 ∨ x = 6 ∨ x = 7 ∨ x = 8 ∨ x = 9 ∨ x = 10 by omega) with rfl | rfl | rfl | rfl | rfl | rfl | rfl | rfl | rfl | rfl | rfl
    · go_wp2_with fail
      go_meet
      exact St.mono (by omega)
    · obtain ⟨k0, k1, k2, k3⟩ := St.kc
      go_wp2_with fail
      refine (l92Kind_any m i e c xs _ St.dr (by omega) (Hi.out _ St.gr) hl).mono ?_; rintro e' w4 ⟨v, rfl, ⟨z, rfl, z0, z1⟩, h4, g4⟩
      replace St := St.draw h4 g4
      clear h4 g4 k0 k1 k2 k3
      obtain ⟨x1, c0, c1, c2, c3, c4, c5, hf, hBx⟩ := St.cc
      go_wp2_with fail
      go_meet
      exact (St.set2 _).mono (by omega)
    · obtain ⟨k0, k1, k2, k3⟩ := St.kc
      go_wp2_with fail
      refine (l92Kind_any m i e c xs _ St.dr (by omega) (Hi.out _ St.gr) hl).mono ?_; rintro e' w4 ⟨v, rfl, ⟨z, rfl, z0, z1⟩, h4, g4⟩
      replace St := St.draw h4 g4
      clear h4 g4 k0 k1 k2 k3
      obtain ⟨x1, c0, c1, c2, c3, c4, c5, hf, hBx⟩ := St.cc
      go_wp2_with fail
      refine ((St.set2 _).dr.pick _ (by omega) (by decide)).mono ?_; rintro e' w4 ⟨z, rfl, z0, z1, h4, g4⟩
      replace z1 := z1 (by decide)
      replace St := (St.set2 _).draw h4 g4
      clear h4 g4 c0 c1 c2 c3 c4 c5 hf hBx
      obtain ⟨x1, c0, c1, c2, c3, c4, c5, hf, hBx⟩ := St.cc
      go_wp2_with fail
      refine ((St.set3 _).dr.pick _ (by omega) (by decide)).mono ?_; rintro e' w4 ⟨p, rfl, p0, p1, h4, g4⟩
      replace p1 := p1 (by decide)
      replace St := (St.set3 _).draw h4 g4
      clear h4 g4 c0 c1 c2 c3 c4 c5 hf hBx
      go_wp2_with fail
      refine (St.dr.pick _ (by omega) (by decide)).mono ?_; rintro e' w4 ⟨q, rfl, q0, q1, h4, g4⟩
      replace q1 := q1 (by decide)
      replace St := St.draw h4 g4
      clear h4 g4
      rcases (show p = 0 ∨ p = 1 by omega) with rfl | rfl
      · obtain ⟨x1, c0, c1, c2, c3, c4, c5, hf, hBx⟩ := St.cc
        go_wp2_with fail
        go_meet
        exact (St.set4 _).mono (by omega)
      · obtain ⟨x1, c0, c1, c2, c3, c4, c5, hf, hBx⟩ := St.cc
        go_wp2_with fail
        go_meet
        exact (St.set4 _).mono (by omega)
    · obtain ⟨k0, k1, k2, k3⟩ := St.kc
      go_wp2_with fail
      refine (l92Kind_any m i e c xs _ St.dr (by omega) (Hi.out _ St.gr) hl).mono ?_; rintro e' w4 ⟨v, rfl, ⟨z, rfl, z0, z1⟩, h4, g4⟩
      replace St := St.draw h4 g4
      clear h4 g4 k0 k1 k2 k3
      obtain ⟨x1, c0, c1, c2, c3, c4, c5, hf, hBx⟩ := St.cc
      go_wp2_with fail
      refine ((St.set2 _).dr.pick _ (by omega) (by decide)).mono ?_; rintro e' w4 ⟨z, rfl, z0, z1, h4, g4⟩
      replace z1 := z1 (by decide)
      replace St := (St.set2 _).draw h4 g4
      clear h4 g4 c0 c1 c2 c3 c4 c5 hf hBx
      obtain ⟨x1, c0, c1, c2, c3, c4, c5, hf, hBx⟩ := St.cc
      go_wp2_with fail
      go_meet
      exact (St.set3 _).mono (by omega)
    · go_wp2_with fail
      refine wp_region_posts 7 Try.mixed (by kernel_rfl) 152 rfl (by kernel_rfl) (fun k v _ => unpinR g b m i e c k v) (fun L wr => (L 3 = false → CallSt w0 g (N + 3) w m i e c b wr) ∧ (L 5 = false → CallSt w0 g (N + 4) w m i e c b wr) ∧ CallSt w0 g (N + 5) w m i e c b wr) ?_ ?_ ?_
      · have Sd := St.draw (St.dr.below (below_drewN (Below.refl _ _) 1)) (grown_below (below_drewN (Below.refl _ _) 1) _)
        exact ⟨fun _ => Sd, fun _ => Sd.mono (by omega), Sd.mono (by omega)⟩
      · intro k hk o ho a w5 Hb Hd L HL hG K HK
        match k, hk with
        | 0, _ =>
          obtain rfl := Option.some.inj ho
          have e0 : a.tmps[0]?.getD undef = .pointer (some ⟨g, 0, none⟩) := by rw [Hb.out.2.2 0 (by decide)]; rfl
          clear Hd Hb
          refine Does.of rfl ?_
          go_simp
          exact HK.out _ _ rfl ⟨fun h => hG.1 (upd_no h), fun h => hG.2.1 (upd_no h), hG.2.2⟩ (fun j u _ _ _ h => h)
        | 1, _ =>
          obtain rfl := Option.some.inj ho
          have e3 : a.tmps[3]?.getD undef = .pointer (some ⟨w.heap.size, 0, none⟩) := by rw [Hb.out.2.2 3 (by decide)]; rfl
          clear Hd Hb
          refine Does.of rfl ?_
          obtain ⟨k0, k1, k2, k3⟩ := hG.2.2.kc
          go_simp
          exact HK.out _ _ rfl ⟨fun h => hG.1 (upd_no h), fun h => hG.2.1 (upd_no h), hG.2.2⟩ (fun j u _ _ _ h => h)
        | 2, _ =>
          obtain rfl := Option.some.inj ho
          have e0 : a.tmps[0]?.getD undef = .pointer (some ⟨g, 0, none⟩) := by rw [Hb.out.2.2 0 (by decide)]; rfl
          clear Hd Hb
          refine Does.of rfl ?_
          go_simp
          exact HK.out _ _ rfl ⟨fun h => hG.1 (upd_no h), fun h => hG.2.1 (upd_no h), hG.2.2⟩ (fun j u _ _ _ h => h)
        | 3, _ =>
          obtain rfl := Option.some.inj ho
          have d2 := Hd.out 2 (by kernel_rfl)
          change a.tmps[53]?.getD undef = .pointer (some ⟨g, 0, none⟩) at d2
          clear Hd Hb
          refine Does.of rfl ?_
          have S3 := hG.1 HL.out.1
          go_simp
          refine (S3.dr.pick _ (by omega) (by decide)).mono ?_; rintro e' w6 ⟨z, rfl, z0, z1, h6, g6⟩
          have S4 := S3.draw h6 g6
          exact HK.out _ _ ⟨z, rfl, z0, z1 (by decide)⟩ ⟨fun h => by simp [upd] at h, fun _ => S4, S4.mono (by omega)⟩ (fun j u _ _ _ h => h)
        | 4, _ =>
          obtain rfl := Option.some.inj ho
          have d3 := Hd.out 3 (by kernel_rfl)
          change ∃ z : Int, a.tmps[54]?.getD undef = .int .i64 z ∧ 0 ≤ z ∧ z < 2 at d3
          clear Hd Hb
          refine Does.of rfl ?_
          obtain ⟨z, d3, z0, z1⟩ := d3
          go_simp
          exact HK.out _ _ ⟨_, rfl⟩ ⟨fun h => hG.1 (upd_no h), fun h => hG.2.1 (upd_no h), hG.2.2⟩ (fun j u _ _ _ h => h)
        | 5, _ =>
          obtain rfl := Option.some.inj ho
          have d0 := Hd.out 0 (by kernel_rfl)
          change a.tmps[51]?.getD undef = .pointer (some ⟨g, 0, none⟩) at d0
          have d1 := Hd.out 1 (by kernel_rfl)
          change a.tmps[52]?.getD undef = .agg #[m, i, e, c] at d1
          have d4 := Hd.out 4 (by kernel_rfl)
          change ∃ z : Int, a.tmps[55]?.getD undef = .int .i64 z at d4
          clear Hd Hb
          refine Does.of rfl ?_
          obtain ⟨z, d4⟩ := d4
          have S4 := hG.2.1 HL.out.1
          go_simp
          refine (l92Kind_any m i e c xs _ S4.dr (by omega) (Hi.out _ S4.gr) hl).mono ?_; rintro e' w6 ⟨v, rfl, ⟨z', rfl, _, _⟩, h6, g6⟩
          have S5 := S4.draw h6 g6
          have l3 : L 3 = true := HL.out.2.2 4 3 (HL.out.2.1 4 (by kernel_rfl)) (by kernel_rfl)
          exact HK.out _ _ ⟨_, rfl⟩ ⟨(fun h => by rw [upd_no h] at l3; cases l3), fun h => by simp [upd] at h, S5.mono (by omega)⟩ (fun j u _ _ _ h => h)
        | 6, _ =>
          obtain rfl := Option.some.inj ho
          have e5 : a.tmps[5]?.getD undef = .pointer (some ⟨b, 0, none⟩) := by rw [Hb.out.2.2 5 (by decide)]; rfl
          clear Hd Hb
          refine Does.of rfl ?_
          go_simp
          exact HK.out _ _ rfl ⟨fun h => hG.1 (upd_no h), fun h => hG.2.1 (upd_no h), hG.2.2⟩ (fun j u _ _ _ h => h)
      · intro ys w5 hR L hL hG
        obtain ⟨z, hz⟩ := hR 5 (by decide)
        have h6 : ys 6 = .pointer (some ⟨b, 2, none⟩) := hR 6 (by decide)
        replace St := hG.2.2
        clear hR hL hG
        simp only [fillAt, dstOf, List.range, List.range.loop, List.foldl_cons, List.foldl_nil, hz, h6]
        simp
        generalize ys 0 = z0
        generalize ys 1 = z1
        generalize ys 2 = z2
        generalize ys 3 = z3
        generalize ys 4 = z4
        clear hz h6
        obtain ⟨x1, c0, c1, c2, c3, c4, c5, hf, hBx⟩ := St.cc
        go_wp2_with fail
        go_meet
        exact (St.set2 _).mono (by omega)
    · go_wp2_with fail
      refine (St.dr.pick _ (by omega) (by decide)).mono ?_; rintro e' w4 ⟨p, rfl, p0, p1, h4, g4⟩
      replace p1 := p1 (by decide)
      replace St := St.draw h4 g4
      clear h4 g4
      obtain ⟨k0, k1, k2, k3⟩ := St.kc
      go_wp2_with fail
      refine (l92Kind_any m i e c xs _ St.dr (by omega) (Hi.out _ St.gr) hl).mono ?_; rintro e' w4 ⟨v, rfl, ⟨z, rfl, z0, z1⟩, h4, g4⟩
      replace St := St.draw h4 g4
      clear h4 g4 k0 k1 k2 k3
      obtain ⟨x1, c0, c1, c2, c3, c4, c5, hf, hBx⟩ := St.cc
      go_wp2_with fail
      refine ((St.set2 _).dr.pick _ (by omega) (by decide)).mono ?_; rintro e' w4 ⟨z, rfl, z0, z1, h4, g4⟩
      replace z1 := z1 (by decide)
      replace St := (St.set2 _).draw h4 g4
      clear h4 g4 c0 c1 c2 c3 c4 c5 hf hBx
      obtain ⟨k0, k1, k2, k3⟩ := St.kc
      obtain ⟨x1, c0, c1, c2, c3, c4, c5, hf, hBx⟩ := St.cc
      go_wp2_with fail
      refine (l92Kind_any m i e c xs _ (St.set3 _).dr (by omega) (Hi.out _ (St.set3 _).gr) hl).mono ?_; rintro e' w4 ⟨v, rfl, ⟨f, rfl, f0, f1⟩, h4, g4⟩
      replace St := (St.set3 _).draw h4 g4
      clear h4 g4 k0 k1 k2 k3 c0 c1 c2 c3 c4 c5 hf hBx
      go_wp2_with fail
      refine (St.dr.pick _ (by omega) (by decide)).mono ?_; rintro e' w4 ⟨t, rfl, t0, t1, h4, g4⟩
      replace t1 := t1 (by decide)
      replace St := St.draw h4 g4
      clear h4 g4
      go_wp2_with fail
      refine (l1Put_some f _ _ (by omega) (by omega)).mono ?_; rintro e' w4 ⟨d, rfl, rfl⟩
      obtain ⟨x1, c0, c1, c2, c3, c4, c5, hf, hBx⟩ := St.cc
      go_wp2_with fail
      refine ((St.set4 _).dr.pick _ (by omega) (by decide)).mono ?_; rintro e' w4 ⟨u, rfl, u0, u1, h4, g4⟩
      replace u1 := u1 (by decide)
      replace St := (St.set4 _).draw h4 g4
      clear h4 g4 c0 c1 c2 c3 c4 c5 hf hBx
      by_cases hu : u = 0
      · subst hu
        go_wp2_with fail
        refine (l91Entry_any St.dr (by omega)).mono ?_; rintro e' w4 ⟨v, rfl, ⟨z', rfl, _, _⟩, h4, g4⟩
        replace St := St.draw h4 g4
        clear h4 g4
        obtain ⟨x1, c0, c1, c2, c3, c4, c5, hf, hBx⟩ := St.cc
        go_wp2_with fail
        go_meet
        exact (St.set4 _).mono (by omega)
      · have t0 : (u == 0) = false := by simp [hu]
        clear hu
        go_wp2_with fail
        go_meet
        exact St.mono (by omega)
    · obtain ⟨k0, k1, k2, k3⟩ := St.kc
      go_wp2_with fail
      refine (l92Kind_any m i e c xs _ St.dr (by omega) (Hi.out _ St.gr) hl).mono ?_; rintro e' w4 ⟨v, rfl, ⟨z, rfl, z0, z1⟩, h4, g4⟩
      replace St := St.draw h4 g4
      clear h4 g4 k0 k1 k2 k3
      obtain ⟨x1, c0, c1, c2, c3, c4, c5, hf, hBx⟩ := St.cc
      go_wp2_with fail
      refine ((St.set2 _).dr.pick _ (by omega) (by decide)).mono ?_; rintro e' w4 ⟨u, rfl, u0, u1, h4, g4⟩
      replace u1 := u1 (by decide)
      replace St := (St.set2 _).draw h4 g4
      clear h4 g4 c0 c1 c2 c3 c4 c5 hf hBx
      by_cases hu : u = 0
      · subst hu
        obtain ⟨x1, c0, c1, c2, c3, c4, c5, hf, hBx⟩ := St.cc
        go_wp2_with fail
        go_meet
        exact (St.set2 _).mono (by omega)
      · have t0 : (u == 0) = false := by simp [hu]
        clear hu
        go_wp2_with fail
        go_meet
        exact St.mono (by omega)
    · go_wp2_with fail
      refine (St.dr.pick _ (by omega) (by decide)).mono ?_; rintro e' w4 ⟨z, rfl, z0, z1, h4, g4⟩
      replace z1 := z1 (by decide)
      replace St := St.draw h4 g4
      clear h4 g4
      obtain ⟨x1, c0, c1, c2, c3, c4, c5, hf, hBx⟩ := St.cc
      go_wp2_with fail
      go_meet
      exact (St.set2 _).mono (by omega)
    · go_wp2_with fail
      refine (St.dr.pick _ (by omega) (by decide)).mono ?_; rintro e' w4 ⟨z, rfl, z0, z1, h4, g4⟩
      replace z1 := z1 (by decide)
      replace St := St.draw h4 g4
      clear h4 g4
      obtain ⟨x1, c0, c1, c2, c3, c4, c5, hf, hBx⟩ := St.cc
      go_wp2_with fail
      go_meet
      exact (St.set2 _).mono (by omega)
    · go_wp2_with fail
      refine (St.dr.pick _ (by omega) (by decide)).mono ?_; rintro e' w4 ⟨p, rfl, p0, p1, h4, g4⟩
      replace p1 := p1 (by decide)
      replace St := St.draw h4 g4
      clear h4 g4
      go_wp2_with fail
      refine (St.dr.pick _ (by omega) (by decide)).mono ?_; rintro e' w4 ⟨q, rfl, q0, q1, h4, g4⟩
      replace q1 := q1 (by decide)
      replace St := St.draw h4 g4
      clear h4 g4
      go_wp2_with fail
      refine (St.dr.pick _ (by omega) (by decide)).mono ?_; rintro e' w4 ⟨r, rfl, r0, r1, h4, g4⟩
      replace r1 := r1 (by decide)
      replace St := St.draw h4 g4
      clear h4 g4
      rcases (show p = 0 ∨ p = 1 by omega) with rfl | rfl
      · obtain ⟨x1, c0, c1, c2, c3, c4, c5, hf, hBx⟩ := St.cc
        go_wp2_with fail
        refine ((St.set2 _).dr.pick _ (by omega) (by decide)).mono ?_; rintro e' w4 ⟨z, rfl, z0, z1, h4, g4⟩
        replace z1 := z1 (by decide)
        replace St := (St.set2 _).draw h4 g4
        clear h4 g4 c0 c1 c2 c3 c4 c5 hf hBx
        obtain ⟨x1, c0, c1, c2, c3, c4, c5, hf, hBx⟩ := St.cc
        go_wp2_with fail
        go_meet
        exact (St.set3 _).mono (by omega)
      · obtain ⟨x1, c0, c1, c2, c3, c4, c5, hf, hBx⟩ := St.cc
        go_wp2_with fail
        refine ((St.set2 _).dr.pick _ (by omega) (by decide)).mono ?_; rintro e' w4 ⟨z, rfl, z0, z1, h4, g4⟩
        replace z1 := z1 (by decide)
        replace St := (St.set2 _).draw h4 g4
        clear h4 g4 c0 c1 c2 c3 c4 c5 hf hBx
        obtain ⟨x1, c0, c1, c2, c3, c4, c5, hf, hBx⟩ := St.cc
        go_wp2_with fail
        go_meet
        exact (St.set3 _).mono (by omega)
    · go_wp2_with fail
      refine (St.dr.pick _ (by omega) (by decide)).mono ?_; rintro e' w4 ⟨p, rfl, p0, p1, h4, g4⟩
      replace p1 := p1 (by decide)
      replace St := St.draw h4 g4
      clear h4 g4
      go_wp2_with fail
      refine (St.dr.pick _ (by omega) (by decide)).mono ?_; rintro e' w4 ⟨q, rfl, q0, q1, h4, g4⟩
      replace q1 := q1 (by decide)
      replace St := St.draw h4 g4
      clear h4 g4
      go_wp2_with fail
      refine (St.dr.pick _ (by omega) (by decide)).mono ?_; rintro e' w4 ⟨r, rfl, r0, r1, h4, g4⟩
      replace r1 := r1 (by decide)
      replace St := St.draw h4 g4
      clear h4 g4
      rcases (show p = 0 ∨ p = 1 by omega) with rfl | rfl
      · obtain ⟨x1, c0, c1, c2, c3, c4, c5, hf, hBx⟩ := St.cc
        go_wp2_with fail
        refine ((St.set2 _).dr.pick _ (by omega) (by decide)).mono ?_; rintro e' w4 ⟨z, rfl, z0, z1, h4, g4⟩
        replace z1 := z1 (by decide)
        replace St := (St.set2 _).draw h4 g4
        clear h4 g4 c0 c1 c2 c3 c4 c5 hf hBx
        obtain ⟨x1, c0, c1, c2, c3, c4, c5, hf, hBx⟩ := St.cc
        go_wp2_with fail
        go_meet
        exact (St.set3 _).mono (by omega)
      · obtain ⟨x1, c0, c1, c2, c3, c4, c5, hf, hBx⟩ := St.cc
        go_wp2_with fail
        refine ((St.set2 _).dr.pick _ (by omega) (by decide)).mono ?_; rintro e' w4 ⟨z, rfl, z0, z1, h4, g4⟩
        replace z1 := z1 (by decide)
        replace St := (St.set2 _).draw h4 g4
        clear h4 g4 c0 c1 c2 c3 c4 c5 hf hBx
        obtain ⟨x1, c0, c1, c2, c3, c4, c5, hf, hBx⟩ := St.cc
        go_wp2_with fail
        go_meet
        exact (St.set3 _).mono (by omega)
  case rest =>
    clear St
    have St := hcut
    go_wp2_with fail
    refine (St.dr.pick _ (by omega) (by decide)).mono ?_; rintro e' w4 ⟨q, rfl, q0, q1, h4, g4⟩
    replace q1 := q1 (by decide)
    replace St := St.draw h4 g4
    clear h4 g4
    by_cases q0' : q = 0
    · subst q0'
      go_wp2_with fail
      refine (St.dr.pick _ (by omega) (by decide)).mono ?_; rintro e' w4 ⟨z, rfl, z0, z1, h4, g4⟩
      replace z1 := z1 (by decide)
      replace St := St.draw h4 g4
      clear h4 g4
      obtain ⟨x1, c0, c1, c2, c3, c4, c5, hf, hBx⟩ := St.cc
      obtain ⟨y1, d0, d1, d2, d3, d4, d5, hf'⟩ := St.qc
      go_wp2_with fail
      obtain ⟨⟨E0, E1, E2, E3, E4, E5⟩, Fin⟩ := CallSt.fin (M := N + 20) (St.set0 (z - 1)) ⟨z - 1, x1.e, x1.a, x1.b, x1.c, x1.nm⟩ (by have := heap_setCell_same w4 b 0 _ _ (.int .i64 (z - 1)) hBx.out; simpa [CallV.cells] using this) (by omega)
      exact bodyPost_ret (v := .agg #[_, _, _, _, _, _]) (by simp [results, Try.results62, go_sem, E0, E1, E2, E3, E4, E5]) rfl Fin
    by_cases q1' : q = 1
    · subst q1'
      go_wp2_with fail
      refine (St.dr.pick _ (by omega) (by decide)).mono ?_; rintro e' w4 ⟨z, rfl, z0, z1, h4, g4⟩
      replace z1 := z1 (by decide)
      replace St := St.draw h4 g4
      clear h4 g4
      obtain ⟨x1, c0, c1, c2, c3, c4, c5, hf, hBx⟩ := St.cc
      obtain ⟨y1, d0, d1, d2, d3, d4, d5, hf'⟩ := St.qc
      go_wp2_with fail
      obtain ⟨⟨E0, E1, E2, E3, E4, E5⟩, Fin⟩ := CallSt.fin (M := N + 20) (St.set2 (z - 2)) ⟨x1.k, x1.e, z - 2, x1.b, x1.c, x1.nm⟩ (by have := heap_setCell_same w4 b 2 _ _ (.int .i64 (z - 2)) hBx.out; simpa [CallV.cells] using this) (by omega)
      exact bodyPost_ret (v := .agg #[_, _, _, _, _, _]) (by simp [results, Try.results62, go_sem, E0, E1, E2, E3, E4, E5]) rfl Fin
    by_cases q2' : q = 2
    · subst q2'
      go_wp2_with fail
      refine (St.dr.pick _ (by omega) (by decide)).mono ?_; rintro e' w4 ⟨z, rfl, z0, z1, h4, g4⟩
      replace z1 := z1 (by decide)
      replace St := St.draw h4 g4
      clear h4 g4
      obtain ⟨x1, c0, c1, c2, c3, c4, c5, hf, hBx⟩ := St.cc
      obtain ⟨y1, d0, d1, d2, d3, d4, d5, hf'⟩ := St.qc
      go_wp2_with fail
      obtain ⟨⟨E0, E1, E2, E3, E4, E5⟩, Fin⟩ := CallSt.fin (M := N + 20) (St.set3 (z - 1)) ⟨x1.k, x1.e, x1.a, z - 1, x1.c, x1.nm⟩ (by have := heap_setCell_same w4 b 3 _ _ (.int .i64 (z - 1)) hBx.out; simpa [CallV.cells] using this) (by omega)
      exact bodyPost_ret (v := .agg #[_, _, _, _, _, _]) (by simp [results, Try.results62, go_sem, E0, E1, E2, E3, E4, E5]) rfl Fin
    by_cases q3' : q = 3
    · subst q3'
      go_wp2_with fail
      refine (l91Right_any St.dr (by omega)).mono ?_; rintro e' w4 ⟨v, rfl, ⟨s', hs, rfl⟩, h4, g4⟩
      replace St := St.draw h4 g4
      clear h4 g4
      obtain ⟨x1, c0, c1, c2, c3, c4, c5, hf, hBx⟩ := St.cc
      obtain ⟨y1, d0, d1, d2, d3, d4, d5, hf'⟩ := St.qc
      go_wp2_with fail
      obtain ⟨⟨E0, E1, E2, E3, E4, E5⟩, Fin⟩ := CallSt.fin (M := N + 20) (St.setS s' hs) ⟨x1.k, x1.e, x1.a, x1.b, x1.c, s'⟩ (by have := heap_setCell_same w4 b 5 _ _ (.string s') hBx.out; simpa [CallV.cells] using this) (by omega)
      exact bodyPost_ret (v := .agg #[_, _, _, _, _, _]) (by simp [results, Try.results62, go_sem, E0, E1, E2, E3, E4, E5]) rfl Fin
    by_cases q4' : q = 4
    · subst q4'
      go_wp2_with fail
      have StA := St.draw (St.dr.alloc (.cells #[.int .i64 (-1), .int .i64 10000, .int .i64 2, .int .i64 49] 3)) (grown_below (below1 _ _) _)
      have hgl := St.dr.lt
      refine (StA.dr.pick _ (by omega) (by decide)).mono ?_; rintro e' w5 ⟨z, rfl, z0, z1, h5, g5⟩
      replace z1 := z1 (by decide)
      replace St := StA.draw h5 g5
      have l0 := lit_after (j := 0) g5 hgl rfl
      have l1 := lit_after (j := 1) g5 hgl rfl
      have l2 := lit_after (j := 2) g5 hgl rfl
      have l3 := lit_after (j := 3) g5 hgl rfl
      clear h5 g5 StA hgl
      obtain ⟨x1, c0, c1, c2, c3, c4, c5, hf, hBx⟩ := St.cc
      rcases (show z = 0 ∨ z = 1 ∨ z = 2 ∨ z = 3 by omega) with rfl | rfl | rfl | rfl
      · obtain ⟨y1, d0, d1, d2, d3, d4, d5, hf'⟩ := St.qc
        go_wp2_with fail
        obtain ⟨⟨E0, E1, E2, E3, E4, E5⟩, Fin⟩ := CallSt.fin (M := N + 20) (St.set4 (-1)) ⟨x1.k, x1.e, x1.a, x1.b, -1, x1.nm⟩ (by have := heap_setCell_same w5 b 4 _ _ (.int .i64 (-1)) hBx.out; simpa [CallV.cells] using this) (by omega)
        exact bodyPost_ret (v := .agg #[_, _, _, _, _, _]) (by simp [results, Try.results62, go_sem, E0, E1, E2, E3, E4, E5]) rfl Fin
      · obtain ⟨y1, d0, d1, d2, d3, d4, d5, hf'⟩ := St.qc
        go_wp2_with fail
        obtain ⟨⟨E0, E1, E2, E3, E4, E5⟩, Fin⟩ := CallSt.fin (M := N + 20) (St.set4 (10000)) ⟨x1.k, x1.e, x1.a, x1.b, 10000, x1.nm⟩ (by have := heap_setCell_same w5 b 4 _ _ (.int .i64 (10000)) hBx.out; simpa [CallV.cells] using this) (by omega)
        exact bodyPost_ret (v := .agg #[_, _, _, _, _, _]) (by simp [results, Try.results62, go_sem, E0, E1, E2, E3, E4, E5]) rfl Fin
      · obtain ⟨y1, d0, d1, d2, d3, d4, d5, hf'⟩ := St.qc
        go_wp2_with fail
        obtain ⟨⟨E0, E1, E2, E3, E4, E5⟩, Fin⟩ := CallSt.fin (M := N + 20) (St.set4 (2)) ⟨x1.k, x1.e, x1.a, x1.b, 2, x1.nm⟩ (by have := heap_setCell_same w5 b 4 _ _ (.int .i64 (2)) hBx.out; simpa [CallV.cells] using this) (by omega)
        exact bodyPost_ret (v := .agg #[_, _, _, _, _, _]) (by simp [results, Try.results62, go_sem, E0, E1, E2, E3, E4, E5]) rfl Fin
      · obtain ⟨y1, d0, d1, d2, d3, d4, d5, hf'⟩ := St.qc
        go_wp2_with fail
        obtain ⟨⟨E0, E1, E2, E3, E4, E5⟩, Fin⟩ := CallSt.fin (M := N + 20) (St.set4 (49)) ⟨x1.k, x1.e, x1.a, x1.b, 49, x1.nm⟩ (by have := heap_setCell_same w5 b 4 _ _ (.int .i64 (49)) hBx.out; simpa [CallV.cells] using this) (by omega)
        exact bodyPost_ret (v := .agg #[_, _, _, _, _, _]) (by simp [results, Try.results62, go_sem, E0, E1, E2, E3, E4, E5]) rfl Fin
    have t0 : (q == 0) = false := by simp [q0']
    have t1 : (q == 1) = false := by simp [q1']
    have t2 : (q == 2) = false := by simp [q2']
    have t3 : (q == 3) = false := by simp [q3']
    have t4 : (q == 4) = false := by simp [q4']
    clear q0' q1' q2' q3' q4'
    obtain ⟨x1, c0, c1, c2, c3, c4, c5, hf, hBx⟩ := St.cc
    obtain ⟨y1, d0, d1, d2, d3, d4, d5, hf'⟩ := St.qc
    go_wp2_with fail
    obtain ⟨⟨E0, E1, E2, E3, E4, E5⟩, Fin⟩ := CallSt.fin (M := N + 20) St x1 hBx.out (by omega)
    exact bodyPost_ret (v := .agg #[_, _, _, _, _, _]) (by simp [results, Try.results62, go_sem, E0, E1, E2, E3, E4, E5]) rfl Fin
end Go.Proofs.Ytabaemnknjdjoaa
