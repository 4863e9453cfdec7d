/-
  Walks: steps drawn.
-/
import Derived.Test.YtabaemnknjdjoaaDr4
import Derived.Test.YtabaemnknjdjoaaKern3
import Derived.Test.YtabaemnknjdjoaaFlat1
set_option linter.unusedVariables false
namespace Go.Proofs.Ytabaemnknjdjoaa
open Go.RowKit

/-- What a draw that makes memory leaves. -/
def DrPost2 (w0 : World) (g N : Nat) (w : World) (P : Value → World → Prop) (e : Ending) (w' : World) : Prop := ∃ v, e = .returned v ∧ P v w' ∧ Dr w0 g N w' ∧ w.grownBy w' (some g)

def tA : ByteArray := ⟨#[97]⟩
def tB : ByteArray := ⟨#[98]⟩
def tC : ByteArray := ⟨#[99]⟩

theorem rd_lit1 (w : World) (s : ByteArray) (t : TypeId) : RdStrs (w.alloc (.cells #[.string s] t)) (.slice (some ⟨w.heap.size, 0, none⟩) 1 1) [s] :=
  Rd.newsAt w #[.string s] t 1 1 _ rfl rfl (by simp [maxLen])

/-- Three texts, each alone in a slice of its own. -/
theorem rd_three (w : World) (a b c : ByteArray) (t u : TypeId) :
    RdTexts ((((w.alloc (.cells #[.string a] t)).alloc (.cells #[.string b] t)).alloc (.cells #[.string c] t)).alloc (.cells #[.slice (some ⟨w.heap.size, 0, none⟩) 1 1, .slice (some ⟨w.heap.size + 1, 0, none⟩) 1 1, .slice (some ⟨w.heap.size + 1 + 1, 0, none⟩) 1 1] u))
      (.slice (some ⟨w.heap.size + 1 + 1 + 1, 0, none⟩) 3 3) [[a], [b], [c]] := by
  have h1 := rd_lit1 w a t
  have h2 := rd_lit1 (w.alloc (.cells #[.string a] t)) b t
  have h3 := rd_lit1 ((w.alloc (.cells #[.string a] t)).alloc (.cells #[.string b] t)) c t
  simp only [World.size_alloc] at h2 h3
  refine ⟨[.slice (some ⟨w.heap.size, 0, none⟩) 1 1, .slice (some ⟨w.heap.size + 1, 0, none⟩) 1 1, .slice (some ⟨w.heap.size + 1 + 1, 0, none⟩) 1 1], ?_, rfl, ?_⟩
  · exact Rd.newsAt _ #[_, _, _] u 1 3 _ (by simp) rfl (by simp [maxLen])
  · intro i x y hx hy
    match i, hx, hy with
    | 0, hx, hy => simp at hx hy; subst hx hy; exact ((h1.below (below1 _ _)).below (below1 _ _)).below (below1 _ _)
    | 1, hx, hy => simp at hx hy; subst hx hy; exact (h2.below (below1 _ _)).below (below1 _ _)
    | 2, hx, hy => simp at hx hy; subst hx hy; exact h3.below (below1 _ _)

theorem rights_abc : ∀ ts ∈ [[tA], [tB], [tC]], rightsOk ts = true := by
  intro ts h
  simp only [List.mem_cons, List.not_mem_nil, or_false] at h
  rcases h with rfl | rfl | rfl <;> decide +kernel
theorem small_abc : ∀ ts ∈ [[tA], [tB], [tC]], SmallS ts := by
  intro ts h s hs
  simp only [List.mem_cons, List.not_mem_nil, or_false] at h
  rcases h with rfl | rfl | rfl <;> (simp at hs; subst hs; decide +kernel)

/-- The state of the draw: the steps so far in o, the kernel in block bk. -/
def StepsSt (w0 : World) (g N : Nat) (w : World) (bk : Nat) (o : Value) (ss : List StepV) (wr : World) : Prop :=
  ∃ m i e c xs, Dr w0 g N wr ∧ w.grownBy wr (some g) ∧ g < w.heap.size ∧ w0.heap.size ≤ w.heap.size ∧ OwnSteps w.heap.size wr o ss ∧ w.heap.size ≤ bk ∧
    wr.heap[bk]? = some (.cells #[m, i, e, c] 74 (0, 0)) ∧ OwnF w.heap.size 92 3 infoCs wr i xs ∧ xs.length ≤ 12

section
variable {w0 w wr w' : World} {g N M bk : Nat} {o o' : Value} {ss : List StepV}
theorem StepsSt.dr (h : StepsSt w0 g N w bk o ss wr) : Dr w0 g N wr := by
  obtain ⟨m, i, e, c, xs, h1, _⟩ := h
  exact h1
theorem StepsSt.own (h : StepsSt w0 g N w bk o ss wr) : OwnSteps w.heap.size wr o ss := by
  obtain ⟨m, i, e, c, xs, _, _, _, _, h1, _⟩ := h
  exact h1
theorem StepsSt.gr (h : StepsSt w0 g N w bk o ss wr) : w.grownBy wr (some g) ∧ g < w.heap.size ∧ w0.heap.size ≤ w.heap.size := by
  obtain ⟨m, i, e, c, xs, _, h1, h2, h3, _⟩ := h
  exact ⟨h1, h2, h3⟩
theorem StepsSt.mono (h : StepsSt w0 g N w bk o ss wr) (hm : N ≤ M) : StepsSt w0 g M w bk o ss wr := by
  obtain ⟨m, i, e, c, xs, h1, h2⟩ := h
  exact ⟨m, i, e, c, xs, h1.mono hm, h2⟩
theorem StepsSt.draw (h : StepsSt w0 g N w bk o ss wr) (hd : Dr w0 g M w') (hg : wr.grownBy w' (some g)) : StepsSt w0 g M w bk o ss w' := by
  obtain ⟨m, i, e, c, xs, h1, h2, h3, h4, h5, h6, h7, h8, h9⟩ := h
  have hr : ∀ k, some g = some k → k < w.heap.size := fun k hk => by cases hk; exact h3
  exact ⟨m, i, e, c, xs, hd, grown_trans h2 hg, h3, h4, own_past h5 hg hr, h6, blk_past h7 h6 hg hr, own_past h8 hg hr, h9⟩
theorem StepsSt.below (h : StepsSt w0 g N w bk o ss wr) (hb : Below wr.heap.size wr w') : StepsSt w0 g N w bk o ss w' := h.draw (h.dr.below hb) (grown_below hb _)
/-- A cell of a new block is written. -/
theorem StepsSt.setNew (h : StepsSt w0 g N w bk o ss wr) {b j : Nat} {u : Value} {T : Nat} {cur : Array Value} (hb : wr.heap[b]? = some (.cells cur T (0, 0))) (hlo : w.heap.size ≤ b) (h1 : T ≠ 74) (h2 : T ≠ 92) (h3 : o.ownBlock ≠ some b) : StepsSt w0 g N w bk o ss (wr.setCell ⟨b, j, none⟩ u) := by
  obtain ⟨m, i, e, c, xs, a1, a2, a3, a4, a5, a6, a7, a8, a9⟩ := h
  have hne : bk ≠ b := by
    rintro rfl
    rw [hb] at a7
    simp at a7
    exact h1 a7.2
  exact ⟨m, i, e, c, xs, a1.set (by omega) (by omega), grown_new a2 hlo _, a3, a4, own_grown a5 (grown_set wr b j u) (.inr h3), a6, (heap_setCell_other wr ⟨b, j, none⟩ bk u (fun e => hne (by simpa using e))).trans a7, a8.far (grown_set wr b j u) hb (Ne.symm h2), a9⟩
theorem StepsSt.push (h : StepsSt w0 g N w bk o ss wr) {s : StepV} (h1 : w'.ownsRow w.heap.size 40 9 o' (ss.length + 1) (stepCells ss ++ s.cells.toList)) (h2 : wr.grownBy w' o.ownBlock) : StepsSt w0 g N w bk o' (ss ++ [s]) w' := by
  obtain ⟨m, i, e, c, xs, a1, a2, a3, a4, a5, a6, a7, a8, a9⟩ := h
  have hlo := fun k hk => (World.ownsRow.lt a5 k hk).1
  refine ⟨m, i, e, c, xs, a1.keep h2 (fun e => by have := hlo g e; omega) (fun k hk => by have := hlo k hk; omega), ?_, a3, a4, ?_, a6, ?_, ?_, a9⟩
  · exact ⟨h2.os.trans a2.os, h2.tape.trans a2.tape, h2.output.trans a2.output, Nat.le_trans a2.size h2.size, fun k hk hne => (h2.block k (Nat.lt_of_lt_of_le hk a2.size) (fun e => by have := hlo k e.symm; omega)).trans (a2.block k hk hne)⟩
  · unfold OwnSteps
    rw [List.length_append]
    have e : stepCells (ss ++ [s]) = stepCells ss ++ s.cells.toList := by simp [stepCells]
    rw [e]
    exact h1
  · refine (h2.block bk (blk_lt a7) (fun e => ?_)).trans a7
    obtain ⟨cur, hc⟩ := own_type a5 bk e.symm
    rw [a7] at hc
    simp at hc
  · exact own_grown a8 h2 (apart_type a8 a5 (by decide)).ne
theorem StepsSt.kern (h : StepsSt w0 g N w bk o ss wr) : ∃ m i e c xs, wr.cell? ⟨bk, 0, none⟩ = some m ∧ wr.cell? ⟨bk, 1, none⟩ = some i ∧ wr.cell? ⟨bk, 2, none⟩ = some e ∧ wr.cell? ⟨bk, 3, none⟩ = some c ∧ (∀ w', wr.grownBy w' (some g) → RdInfos w' i xs) ∧ xs.length ≤ 12 := by
  obtain ⟨m, i, e, c, xs, a1, a2, a3, a4, a5, a6, a7, a8, a9⟩ := h
  obtain ⟨c0, c1, c2, c3⟩ := blk_cells4 a7
  exact ⟨m, i, e, c, xs, c0, c1, c2, c3, fun w' hg => OwnF.rd (own_past a8 hg (fun k hk => by cases hk; exact a3)), a9⟩
end
theorem step_cells {w : World} {b : Nat} {s : StepV} (h : w.heap[b]? = some (.cells s.cells 40 (0, 0))) : w.cell? ⟨b, 0, none⟩ = some (.int .i64 s.k) ∧ w.cell? ⟨b, 1, none⟩ = some (.int .i64 s.a) ∧ w.cell? ⟨b, 2, none⟩ = some (.int .i64 s.x) ∧ w.cell? ⟨b, 3, none⟩ = some (.int .i64 s.ck) ∧ w.cell? ⟨b, 4, none⟩ = some (.int .i64 s.ce) ∧ w.cell? ⟨b, 5, none⟩ = some (.int .i64 s.ca) ∧ w.cell? ⟨b, 6, none⟩ = some (.int .i64 s.cb) ∧ w.cell? ⟨b, 7, none⟩ = some (.int .i64 s.cc) ∧ w.cell? ⟨b, 8, none⟩ = some (.string s.nm) :=
  ⟨cell_of_row w b 0 _ _ _ h, cell_of_row w b 1 _ _ _ h, cell_of_row w b 2 _ _ _ h, cell_of_row w b 3 _ _ _ h, cell_of_row w b 4 _ _ _ h, cell_of_row w b 5 _ _ _ h, cell_of_row w b 6 _ _ _ h, cell_of_row w b 7 _ _ _ h, cell_of_row w b 8 _ _ _ h⟩

theorem step_set {w : World} {b : Nat} {s : StepV} (h : w.heap[b]? = some (.cells s.cells 40 (0, 0))) (s' : StepV) : (setMany w b 0 0 s'.cells.toList).heap[b]? = some (.cells s'.cells 40 (0, 0)) := by
  have h0 := heap_setCell_same w b 0 _ _ (.int .i64 s'.k) h
  have h1 := heap_setCell_same _ b 1 _ _ (.int .i64 s'.a) h0
  have h2 := heap_setCell_same _ b 2 _ _ (.int .i64 s'.x) h1
  have h3 := heap_setCell_same _ b 3 _ _ (.int .i64 s'.ck) h2
  have h4 := heap_setCell_same _ b 4 _ _ (.int .i64 s'.ce) h3
  have h5 := heap_setCell_same _ b 5 _ _ (.int .i64 s'.ca) h4
  have h6 := heap_setCell_same _ b 6 _ _ (.int .i64 s'.cb) h5
  have h7 := heap_setCell_same _ b 7 _ _ (.int .i64 s'.cc) h6
  have h8 := heap_setCell_same _ b 8 _ _ (.string s'.nm) h7
  simpa [StepV.cells, setMany] using h8
theorem StepsSt.setStep {w0 w wr : World} {g N bk : Nat} {o : Value} {ss : List StepV} (h : StepsSt w0 g N w bk o ss wr) {b : Nat} {s : StepV} (hb : wr.heap[b]? = some (.cells s.cells 40 (0, 0))) (hlo : w.heap.size ≤ b) (h3 : o.ownBlock ≠ some b) (us : List Value) (j : Nat) : StepsSt w0 g N w bk o ss (setMany wr b 0 j us) := by
  have : ∀ (us : List Value) (j : Nat) (wr : World) (cur : Array Value), StepsSt w0 g N w bk o ss wr → wr.heap[b]? = some (.cells cur 40 (0, 0)) → StepsSt w0 g N w bk o ss (setMany wr b 0 j us) := by
    intro us
    induction us with
    | nil => intro j wr cur h _; exact h
    | cons u us ih =>
      intro j wr cur h hb
      exact ih (j + 1) _ _ (h.setNew hb hlo (by decide) (by decide) h3) (heap_setCell_same wr b (0 + j) _ _ u hb)
  exact this us j wr _ h hb
/-- The step under way lies in block b. -/
def StepAt (lo b : Nat) (o : Value) (s : StepV) (wr : World) : Prop := wr.heap[b]? = some (.cells s.cells 40 (0, 0)) ∧ lo ≤ b ∧ o.ownBlock ≠ some b
theorem StepAt.draw {w0 w w1 w2 : World} {b g N bk : Nat} {o : Value} {s : StepV} {ss : List StepV} (h : StepAt w.heap.size b o s w1) (hg : w1.grownBy w2 (some g)) (St : StepsSt w0 g N w bk o ss w2) : StepAt w.heap.size b o s w2 :=
  ⟨blk_past h.1 h.2.1 hg (fun k hk => by cases hk; exact St.gr.2.1), h.2⟩
end Go.Proofs.Ytabaemnknjdjoaa
