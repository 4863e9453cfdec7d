/-
  Own base text: what a slice value reads as in a world, and small lemmas on lists. No conditions.
-/
import Derived.Test.YtjacdlekgdnndaaDoorRows
import Derived.Test.YtjacdlekgdnndaaDoorPk0
import Derived.WalkKit
import Derived.WalkSpells
import Derived.WalkLawsBesides
import Derived.Deep.QuietTactic
import Derived.BigQuiet
import Derived.Deep.LoopGhost
import Derived.Deep.RegionHeld3
import Derived.Lib.Hide
namespace Go.Proofs.YtjacdlekgdnndaaDoor
open Go.RowKit

/-- Element k of a list of numbers, a plain name that no simp rule rewrites. -/
def nth (xs : List Int) (k : Nat) : Int := xs.getD k 0

/-- The slice value v reads, in w, as n elements of sz cells each: the cells xs. -/
def Rd (w : World) (v : Value) (sz n : Nat) (xs : List Value) : Prop :=
  ∃ a cap, v = .slice a n cap ∧ n ≤ cap ∧ cap ≤ maxLen ∧ xs.length = n * sz ∧ (a = none → cap = 0) ∧
    (0 < n → ∃ b off, a = some ⟨b, off, none⟩ ∧ ∀ j, j < n * sz → w.cell? ⟨b, off + j, none⟩ = xs[j]?)

theorem Rd.of_owns {w : World} {base e sz n : Nat} {v : Value} {xs : List Value} (h : w.ownsRow base e sz v n xs) : Rd w v sz n xs := by
  rcases h.2 with ⟨rfl, rfl⟩ | ⟨g, cap, cur, rfl, hb, hg, hnc, hcm, hcs, htake⟩
  · exact ⟨none, 0, rfl, Nat.le_refl _, by simp [maxLen], h.1, fun _ => rfl, fun h => absurd h (Nat.lt_irrefl _)⟩
  · refine ⟨_, _, rfl, hnc, hcm, h.1, (fun h => by cases h), fun _ => ⟨g, 0, rfl, fun j hj => ?_⟩⟩
    have := h.cellAt j hj
    simpa using this

theorem Rd.keep {w w' : World} {sz n : Nat} {v : Value} {xs : List Value} (h : Rd w v sz n xs) (hk : ∀ k, k < w.heap.size → w'.heap[k]? = w.heap[k]?) : Rd w' v sz n xs := by
  obtain ⟨a, cap, rfl, hnc, hcm, hl, hnil, hc⟩ := h
  refine ⟨a, cap, rfl, hnc, hcm, hl, hnil, fun hn => ?_⟩
  obtain ⟨b, off, rfl, hcell⟩ := hc hn
  refine ⟨b, off, rfl, fun j hj => ?_⟩
  have h1 := hcell j hj
  have hsome : ∃ u, xs[j]? = some u := ⟨xs[j]'(by omega), List.getElem?_eq_getElem (by omega)⟩
  obtain ⟨u, hu⟩ := hsome
  rw [hu] at h1 ⊢
  have hlt := World.block_lt_of_cell? w _ h1
  exact (World.cell?_of_block (hk _ hlt)).trans h1

theorem Rd.below {w w' : World} {sz n : Nat} {v : Value} {xs : List Value} (h : Rd w v sz n xs) (hb : Below w.heap.size w w') : Rd w' v sz n xs := h.keep hb.block
theorem Rd.drewN {w : World} {sz n : Nat} {v : Value} {xs : List Value} (h : Rd w v sz n xs) (k : Nat) : Rd (w.drewN k) v sz n xs := h.keep (fun _ _ => rfl)
theorem Rd.alloc {w : World} {sz n : Nat} {v : Value} {xs : List Value} (h : Rd w v sz n xs) (o : Obj) : Rd (w.alloc o) v sz n xs := h.keep (fun k hk => (World.grownBy_alloc w o none).block k hk (by simp))

/-- v reads as the numbers xs. -/
def RdInts (w : World) (v : Value) (xs : List Int) : Prop := Rd w v 1 xs.length (xs.map (Value.int .i64))

/-- What the address a leads to: the numbers xs. -/
def AtInts (w : World) (a : Option Addr) (xs : List Int) : Prop :=
  ∀ k, k < xs.length → ∃ b off, a = some ⟨b, off, none⟩ ∧ ∀ j, j < xs.length → w.cell? ⟨b, off + j, none⟩ = some (.int .i64 (nth xs j))

theorem nth_lt {xs : List Int} {k : Nat} (h : k < xs.length) : xs[k]? = some (nth xs k) := by
  simp [nth, h]
theorem nth_eq {xs : List Int} {k : Nat} (h : k < xs.length) : nth xs k = xs[k] := by
  simp [nth, h]
theorem take_nth {xs : List Int} {k : Nat} (h : k < xs.length) : xs.take (k + 1) = xs.take k ++ [nth xs k] := by
  rw [List.take_succ_eq_append_getElem h, nth_eq h]

theorem RdInts.open {w : World} {v : Value} {xs : List Int} (h : RdInts w v xs) :
    ∃ a cap, v = .slice a xs.length cap ∧ xs.length ≤ cap ∧ cap ≤ maxLen ∧ AtInts w a xs := by
  obtain ⟨a, cap, rfl, hnc, hcm, hl, _, hc⟩ := h
  refine ⟨a, cap, rfl, hnc, hcm, fun k hk => ?_⟩
  obtain ⟨b, off, rfl, hcell⟩ := hc (by omega)
  refine ⟨b, off, rfl, fun j hj => ?_⟩
  rw [hcell j (by omega), List.getElem?_map, nth_lt hj]
  rfl

theorem AtInts.at {w : World} {a : Option Addr} {xs : List Int} (h : AtInts w a xs) {k : Nat} (hk : k < xs.length) :
    ∃ b off, a = some ⟨b, off, none⟩ ∧ w.cell? ⟨b, off + k, none⟩ = some (.int .i64 (nth xs k)) := by
  obtain ⟨b, off, rfl, hc⟩ := h k hk
  exact ⟨b, off, rfl, hc k hk⟩

theorem AtInts.keep {w w' : World} {a : Option Addr} {xs : List Int} (h : AtInts w a xs) (hk : ∀ k, k < w.heap.size → w'.heap[k]? = w.heap[k]?) : AtInts w' a xs := by
  intro k hk'
  obtain ⟨b, off, rfl, hc⟩ := h k hk'
  exact ⟨b, off, rfl, fun j hj => (World.cell?_of_block (hk _ (World.block_lt_of_cell? w _ (hc j hj)))).trans (hc j hj)⟩
theorem AtInts.below {w w' : World} {a : Option Addr} {xs : List Int} (h : AtInts w a xs) (hb : Below w.heap.size w w') : AtInts w' a xs := h.keep hb.block
theorem RdInts.below {w w' : World} {v : Value} {xs : List Int} (h : RdInts w v xs) (hb : Below w.heap.size w w') : RdInts w' v xs := Rd.below h hb
theorem RdInts.drewN {w : World} {v : Value} {xs : List Int} (h : RdInts w v xs) (k : Nat) : RdInts (w.drewN k) v xs := Rd.drewN h k
theorem RdInts.keep {w w' : World} {v : Value} {xs : List Int} (h : RdInts w v xs) (hk : ∀ k, k < w.heap.size → w'.heap[k]? = w.heap[k]?) : RdInts w' v xs := Rd.keep h hk
theorem RdInts.alloc {w : World} {v : Value} {xs : List Int} (h : RdInts w v xs) (o : Obj) : RdInts (w.alloc o) v xs := Rd.alloc h o

/-- v owns the numbers xs, in a block from lo on. -/
def OwnInts (lo : Nat) (w : World) (v : Value) (xs : List Int) : Prop := w.ownsRow lo 3 1 v xs.length (xs.map (Value.int .i64))

theorem OwnInts.rd {lo : Nat} {w : World} {v : Value} {xs : List Int} (h : OwnInts lo w v xs) : RdInts w v xs := Rd.of_owns h

theorem ret_bool {a b : Bool} (h : a = b) : Ending.returned (.bool a) = .returned (.bool b) := by rw [h]
theorem ret_int {a b : Int} (h : a = b) : Ending.returned (.int .i64 a) = .returned (.int .i64 b) := by rw [h]


theorem drewN_drewN (w : World) (a b : Nat) : (w.drewN a).drewN b = w.drewN (a + b) := by
  simp [World.drewN, Nat.add_assoc]
theorem ex_drew1 (w : World) (a : Nat) : ∃ n, w.drewN a = w.drewN n := ⟨a, rfl⟩
theorem ex_drew2 (w : World) (a b : Nat) : ∃ n, (w.drewN a).drewN b = w.drewN n := ⟨a + b, drewN_drewN w a b⟩
theorem below_drewN {B : Nat} {a w : World} (h : Below B a w) (n : Nat) : Below B a (w.drewN n) := ⟨h.os, h.tape, h.output, h.size, h.block⟩

/-- v reads as the bytes bs. -/
def RdBytes (w : World) (v : Value) (bs : List Int) : Prop := Rd w v 1 bs.length (bs.map (Value.int .u8)) ∧ ∀ b ∈ bs, 0 ≤ b ∧ b < 256

theorem rd_of_row (k : IntKind) {w : World} {a : Option Addr} {len cap : Nat} {zs : List Int}
    (h : (a = none ∧ len = 0 ∧ cap = 0 ∧ zs = []) ∨ ∃ x, a = some x ∧ len ≤ cap ∧ cap ≤ maxLen ∧ zs.length = cap ∧ (∀ i, i < zs.length → w.cell? (x.add i) = some (.int k (zs.getD i 0))) ∧ ∀ n ∈ zs, (Lit.int k n).wf = true) :
    Rd w (.slice a len cap) 1 (zs.take len).length ((zs.take len).map (Value.int k)) ∧ ∀ n ∈ zs.take len, (Lit.int k n).wf = true := by
  rcases h with ⟨rfl, rfl, rfl, rfl⟩ | ⟨x, rfl, hlc, hcm, hz, hc, hwf⟩
  · exact ⟨⟨none, 0, by simp, by simp, by simp [maxLen], by simp, fun _ => rfl, by simp⟩, by simp⟩
  · have hl : (zs.take len).length = len := by rw [List.length_take]; omega
    refine ⟨⟨some x, cap, by rw [hl], by omega, hcm, by simp, (fun h => by cases h), fun hn => ?_⟩, fun n hn => hwf n (List.mem_of_mem_take hn)⟩
    rw [hl] at hn ⊢
    have h0 := hc 0 (by omega)
    obtain ⟨b, off, spot⟩ := x
    cases spot with
    | some q => simp [Addr.add, World.cell?] at h0; split at h0 <;> simp_all
    | none =>
      refine ⟨b, off, rfl, fun j hj => ?_⟩
      have hj' := hc j (by omega)
      have hadd : (⟨b, off, none⟩ : Addr).add j = ⟨b, off + j, none⟩ := by unfold Addr.add; split <;> simp_all
      rw [hadd] at hj'
      rw [hj', List.getElem?_map, List.getElem?_take, if_pos (by omega)]
      simp [List.getElem?_eq_getElem (show j < zs.length by omega)]

theorem rdInts_of_row {w : World} {a : Option Addr} {len cap : Nat} {zs : List Int}
    (h : (a = none ∧ len = 0 ∧ cap = 0 ∧ zs = []) ∨ ∃ x, a = some x ∧ len ≤ cap ∧ cap ≤ maxLen ∧ zs.length = cap ∧ (∀ i, i < zs.length → w.cell? (x.add i) = some (.int .i64 (zs.getD i 0))) ∧ ∀ n ∈ zs, (Lit.int .i64 n).wf = true) :
    RdInts w (.slice a len cap) (zs.take len) := (rd_of_row .i64 h).1
theorem rdBytes_of_row {w : World} {a : Option Addr} {len cap : Nat} {zs : List Int}
    (h : (a = none ∧ len = 0 ∧ cap = 0 ∧ zs = []) ∨ ∃ x, a = some x ∧ len ≤ cap ∧ cap ≤ maxLen ∧ zs.length = cap ∧ (∀ i, i < zs.length → w.cell? (x.add i) = some (.int .u8 (zs.getD i 0))) ∧ ∀ n ∈ zs, (Lit.int .u8 n).wf = true) :
    RdBytes w (.slice a len cap) (zs.take len) := by
  refine ⟨(rd_of_row .u8 h).1, fun b hb => ?_⟩
  have := (rd_of_row .u8 h).2 b hb
  simp only [Lit.wf, Bool.and_eq_true, decide_eq_true_eq] at this
  have h1 : IntKind.min .u8 = 0 := by decide
  have h2 : IntKind.max .u8 = 255 := by decide
  omega
end Go.Proofs.YtjacdlekgdnndaaDoor
