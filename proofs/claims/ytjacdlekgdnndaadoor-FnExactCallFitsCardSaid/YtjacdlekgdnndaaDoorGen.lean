/-
  Lists whose elements lie in several cells each: read, owned, made, stored into.
-/
import Derived.Test.YtjacdlekgdnndaaDoorInts
import Derived.StillTailTactics
namespace Go.Proofs.YtjacdlekgdnndaaDoor
open Go.RowKit

/-- The cells of a list of elements. -/
def flat {α : Type} (cs : α → List Value) (xs : List α) : List Value := xs.flatMap cs

theorem flat_nil {α : Type} (cs : α → List Value) : flat cs [] = [] := rfl
theorem flat_cons {α : Type} (cs : α → List Value) (x : α) (xs : List α) : flat cs (x :: xs) = cs x ++ flat cs xs := rfl
theorem flat_append {α : Type} (cs : α → List Value) (xs ys : List α) : flat cs (xs ++ ys) = flat cs xs ++ flat cs ys := List.flatMap_append
theorem flat_one {α : Type} (cs : α → List Value) (x : α) : flat cs [x] = cs x := by simp [flat]
theorem flat_len {α : Type} {cs : α → List Value} {sz : Nat} (hs : ∀ x, (cs x).length = sz) (xs : List α) : (flat cs xs).length = xs.length * sz := by
  induction xs with
  | nil => simp [flat]
  | cons x xs ih => rw [flat_cons, List.length_append, hs, ih, List.length_cons, Nat.succ_mul]; omega
theorem flat_at {α : Type} {cs : α → List Value} {sz : Nat} (hs : ∀ x, (cs x).length = sz) {xs : List α} {k : Nat} {x : α} (h : xs[k]? = some x) {j : Nat} (hj : j < sz) : (flat cs xs)[k * sz + j]? = (cs x)[j]? := by
  induction xs generalizing k with
  | nil => simp at h
  | cons y ys ih =>
    cases k with
    | zero =>
      simp only [List.getElem?_cons_zero, Option.some.injEq] at h
      subst h
      rw [flat_cons, List.getElem?_append_left (by rw [hs]; omega)]
      simp
    | succ k =>
      rw [List.getElem?_cons_succ] at h
      rw [flat_cons, List.getElem?_append_right (by rw [hs, Nat.succ_mul]; omega), hs, ← ih h]
      congr 1
      rw [Nat.succ_mul]
      omega

/-- What the address a leads to: the elements xs. -/
def AtF {α : Type} (sz : Nat) (cs : α → List Value) (w : World) (a : Option Addr) (xs : List α) : Prop :=
  ∀ (k : Nat) x, xs[k]? = some x → ∃ b off, a = some ⟨b, off, none⟩ ∧ b < w.heap.size ∧ ∀ (j : Nat) u, (cs x)[j]? = some u → w.cell? ⟨b, off + k * sz + j, none⟩ = some u

theorem AtF.below {α : Type} {sz : Nat} {cs : α → List Value} {w w' : World} {a : Option Addr} {xs : List α} (h : AtF sz cs w a xs) (hb : Below w.heap.size w w') : AtF sz cs w' a xs := by
  intro k x hk
  obtain ⟨b, off, rfl, hlt, hc⟩ := h k x hk
  exact ⟨b, off, rfl, Nat.lt_of_lt_of_le hlt hb.size, fun j u hu => (hb.cell (p := ⟨b, off + k * sz + j, none⟩) hlt).trans (hc j u hu)⟩

theorem AtF.of {α : Type} {sz : Nat} {cs : α → List Value} (hs : ∀ x, (cs x).length = sz) (hsz : 0 < sz) {w : World} {a : Option Addr} {n c : Nat} {xs : List α} (h : Rd w (.slice a n c) sz xs.length (flat cs xs)) : AtF sz cs w a xs := by
  obtain ⟨a', cap, hv, hnc, hcm, hl, _, hc⟩ := h
  simp only [Value.slice.injEq] at hv
  obtain ⟨rfl, rfl, rfl⟩ := hv
  intro k x hk
  have hlt := (List.getElem?_eq_some_iff.1 hk).1
  obtain ⟨b, off, rfl, hcell⟩ := hc (by omega)
  have key : ∀ (j : Nat) u, (cs x)[j]? = some u → w.cell? ⟨b, off + k * sz + j, none⟩ = some u := by
    intro j u hu
    have hj : j < sz := by rw [← hs x]; exact (List.getElem?_eq_some_iff.1 hu).1
    have hm : k * sz + sz ≤ xs.length * sz := by rw [← Nat.succ_mul]; exact Nat.mul_le_mul_right _ hlt
    rw [Nat.add_assoc, hcell (k * sz + j) (by omega), flat_at hs hk hj, hu]
  refine ⟨b, off, rfl, ?_, key⟩
  have h0 : (cs x)[0]? = some ((cs x)[0]'(by rw [hs]; omega)) := List.getElem?_eq_getElem _
  exact World.block_lt_of_cell? w _ (key 0 _ h0)

theorem Rd.shape {w : World} {v : Value} {sz n : Nat} {xs : List Value} (h : Rd w v sz n xs) : ∃ a cap, v = .slice a n cap ∧ n ≤ cap ∧ cap ≤ maxLen := by
  obtain ⟨a, cap, rfl, hnc, hcm, _⟩ := h
  exact ⟨a, cap, rfl, hnc, hcm⟩

/-- 'make([]T, n)': n elements of any number of cells in a new block. -/
theorem wp_makeN {w : World} {ops : Array Oper} {rest : List Oper} {o : Oper} {a : Act} {Q : Exit → Act → World → Prop} {l : Operand} {t : TypeId} {n : Nat}
    (hg : o.guard = none) (hop : o.op = Op.makeSlice t l l) (e : TypeId) (z : Value) (sz bytes : Nat) (h1 : Tryd.prog.underlying t = some (.slice e))
    (h2 : (Tryd.prog.info? e).map (fun i => (i.zero, i.size, i.bytes)) = some (some z, sz, bytes))
    (hl : a.eval l = .int .i64 n) (b2 : bytes * n ≤ 281474976710656) (b3 : n ≤ maxLen)
    (hK : ∀ w', w'.ownsRow w.heap.size e sz (.slice (some ⟨w.heap.size, 0, none⟩) n n) n (madeCells z.cells (n * sz)).toList → Below w.heap.size w w' → w.heap.size < w'.heap.size →
      wpList Tryd.prog ops Q rest (a.put o.dst (.slice (some ⟨w.heap.size, 0, none⟩) n n)) w') : wpList Tryd.prog ops Q (o :: rest) a w := by
  obtain ⟨i0, hi, hz0, hz1, hz2⟩ := info_parts h2
  refine wpList_make_full w hg l l t hop w.heap.size e i0 z sz h1 hi hz0 hz1 .i64 .i64 n n n hl hl rfl rfl (by rw [hz2]; exact b2) b3 (Nat.le_refl _) fun w' h h' => ?_
  exact hK w' h (Below.of_grown h') (h.lt _ rfl).2

/-- Cells stored one behind the other. -/
def setMany (w : World) (g o : Nat) : Nat → List Value → World
  | _, [] => w
  | j, u :: us => setMany (w.setCell ⟨g, o + j, none⟩ u) g o (j + 1) us
def setList (xs : List Value) (o : Nat) : Nat → List Value → List Value
  | _, [] => xs
  | j, u :: us => setList (xs.set (o + j) u) o (j + 1) us

theorem setList_len (xs : List Value) (o j : Nat) (us : List Value) : (setList xs o j us).length = xs.length := by
  induction us generalizing xs j with
  | nil => rfl
  | cons u us ih => rw [setList, ih, List.length_set]

theorem setList_mid (A B C us : List Value) (j : Nat) (hB : B.length = us.length) (o : Nat) (ho : A.length = o + j) : setList (A ++ B ++ C) o j us = A ++ us ++ C := by
  induction us generalizing A B j with
  | nil => simp at hB; subst hB; simp [setList]
  | cons u us ih =>
    cases B with
    | nil => simp at hB
    | cons b B =>
      rw [setList, ← ho]
      have e : (A ++ b :: B ++ C).set A.length u = (A ++ [u]) ++ B ++ C := by simp [List.set_append_right]
      rw [e, ih (A ++ [u]) B (j + 1) (by simpa using hB) (by simp; omega)]
      simp

theorem setMany_own {w : World} {lo e sz g n cap : Nat} {xs : List Value} (h : w.ownsRow lo e sz (.slice (some ⟨g, 0, none⟩) n cap) n xs) (o j : Nat) (us : List Value) :
    (setMany w g o j us).ownsRow lo e sz (.slice (some ⟨g, 0, none⟩) n cap) n (setList xs o j us) ∧ w.grownBy (setMany w g o j us) (some g) := by
  induction us generalizing w xs j with
  | nil => exact ⟨h, ⟨rfl, rfl, rfl, Nat.le_refl _, fun _ _ _ => rfl⟩⟩
  | cons u us ih =>
    obtain ⟨s1, s2⟩ := World.ownsRow.stored h (o + j) u
    obtain ⟨t1, t2⟩ := ih s1 (j + 1)
    exact ⟨t1, ⟨t2.os.trans s2.os, t2.tape.trans s2.tape, t2.output.trans s2.output, Nat.le_trans s2.size t2.size, fun b hb hne => (t2.block b (Nat.lt_of_lt_of_le hb s2.size) hne).trans (s2.block b hb hne)⟩⟩

theorem split_at (zs : List Value) (n : Nat) (h : n ≤ zs.length) : ∃ B C, zs = B ++ C ∧ B.length = n := ⟨zs.take n, zs.drop n, (List.take_append_drop n zs).symm, by rw [List.length_take]; omega⟩

theorem take_one {α : Type} {xs : List α} {k : Nat} {x : α} (h : xs[k]? = some x) : xs.take (k + 1) = xs.take k ++ [x] := by
  obtain ⟨hlt, rfl⟩ := List.getElem?_eq_some_iff.1 h
  exact List.take_succ_eq_append_getElem hlt

theorem flat_set {α : Type} {cs : α → List Value} {sz : Nat} (hs : ∀ x, (cs x).length = sz) {xs : List α} {k : Nat} (hk : k < xs.length) (y : α) : setList (flat cs xs) (k * sz) 0 (cs y) = flat cs (xs.set k y) := by
  have e1 : xs = xs.take k ++ [xs[k]] ++ xs.drop (k + 1) := by simp
  have e2 : xs.set k y = xs.take k ++ [y] ++ xs.drop (k + 1) := by
    rw [List.set_eq_take_append_cons_drop, if_pos hk]; simp
  rw [e2]
  conv => lhs; rw [e1]
  rw [flat_append, flat_append, flat_append, flat_append, flat_one, flat_one]
  exact setList_mid _ _ _ _ 0 (by rw [hs, hs]) _ (by rw [flat_len hs, List.length_take]; congr 1; omega)

/-- Some cells in a row of the call's own; only its block and what is new have turned. -/
def OwnSome (w : World) (lo e sz g n cap : Nat) (wr : World) : Prop := ∃ cs : List Value, wr.ownsRow lo e sz (.slice (some ⟨g, 0, none⟩) n cap) n cs ∧ w.grownBy wr (some g)
theorem OwnSome.set {w wr : World} {lo e sz g n cap : Nat} (h : OwnSome w lo e sz g n cap wr) (j : Nat) (u : Value) : OwnSome w lo e sz g n cap (wr.setCell ⟨g, j, none⟩ u) := by
  obtain ⟨cs, h1, h2⟩ := h
  obtain ⟨s1, s2⟩ := World.ownsRow.stored h1 j u
  exact ⟨_, s1, s2.os.trans h2.os, s2.tape.trans h2.tape, s2.output.trans h2.output, Nat.le_trans h2.size s2.size, fun b hb hne => (s2.block b (Nat.lt_of_lt_of_le hb h2.size) hne).trans (h2.block b hb hne)⟩
theorem OwnSome.below {w wr w1 : World} {lo e sz g n cap : Nat} (h : OwnSome w lo e sz g n cap wr) (hb : Below wr.heap.size wr w1) : OwnSome w lo e sz g n cap w1 := by
  obtain ⟨cs, h1, h2⟩ := h
  exact ⟨_, ownsRow_below h1 hb, hb.os.trans h2.os, hb.tape.trans h2.tape, hb.output.trans h2.output, Nat.le_trans h2.size hb.size, fun b hb' hne => (hb.block b (Nat.lt_of_lt_of_le hb' h2.size)).trans (h2.block b hb' hne)⟩
theorem OwnSome.cell {w wr : World} {lo e sz g n cap : Nat} (h : OwnSome w lo e sz g n cap wr) (j : Nat) (hj : j < n * sz) : ∃ u, wr.cell? ⟨g, j, none⟩ = some u := by
  obtain ⟨cs, h1, h2⟩ := h
  have hl := h1.1
  exact ⟨_, (h1.cellAt j hj).trans (List.getElem?_eq_getElem (by omega))⟩
theorem OwnSome.frozen {w wr : World} {lo e sz g n cap : Nat} (h : OwnSome w lo e sz g n cap wr) (j : Nat) : wr.frozen? ⟨g, j, none⟩ = false := h.choose_spec.1.frozenAt j

theorem below1 (w : World) (a : Obj) : Below w.heap.size w (w.alloc a) := (Below.refl _ _).alloc (Nat.le_refl _) _
theorem below2 (w : World) (a b : Obj) : Below w.heap.size w ((w.alloc a).alloc b) := (below1 w a).alloc (by simp) _
theorem below3 (w : World) (a b c : Obj) : Below w.heap.size w (((w.alloc a).alloc b).alloc c) := (below2 w a b).alloc (by simp; omega) _
theorem below4 (w : World) (a b c d : Obj) : Below w.heap.size w ((((w.alloc a).alloc b).alloc c).alloc d) := (below3 w a b c).alloc (by simp; omega) _
theorem below5 (w : World) (a b c d e : Obj) : Below w.heap.size w (((((w.alloc a).alloc b).alloc c).alloc d).alloc e) := (below4 w a b c d).alloc (by simp; omega) _
theorem below6 (w : World) (a b c d e f : Obj) : Below w.heap.size w ((((((w.alloc a).alloc b).alloc c).alloc d).alloc e).alloc f) := (below5 w a b c d e).alloc (by simp; omega) _

theorem bcell {W w1 : World} (hb : Below W.heap.size W w1) : (∀ b o, b < W.heap.size → w1.cell? ⟨b, o, none⟩ = W.cell? ⟨b, o, none⟩) ∧ (∀ b o, b < W.heap.size → w1.frozen? ⟨b, o, none⟩ = W.frozen? ⟨b, o, none⟩) :=
  ⟨fun b o h => hb.cell (p := ⟨b, o, none⟩) h, fun b o h => hb.frozen (p := ⟨b, o, none⟩) h⟩
end Go.Proofs.YtjacdlekgdnndaaDoor
