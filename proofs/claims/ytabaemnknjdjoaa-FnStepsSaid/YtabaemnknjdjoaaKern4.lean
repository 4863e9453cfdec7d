/-
  Walks: the statement by which the reference adds an environment to a new kernel.
-/
import Derived.Test.YtabaemnknjdjoaaKern2
import Derived.Test.YtabaemnknjdjoaaCopyE
set_option linter.unusedVariables false
namespace Go.Proofs.Ytabaemnknjdjoaa
open Go.RowKit

theorem Try.infoString : (Try.prog.info? 9).map (fun i => (i.zero, i.size, i.bytes)) = some (some (.string ⟨#[]⟩), 1, 16) := by kernel_rfl
theorem Try.infoEnv : (Try.prog.info? 85).map (fun i => (i.zero, i.size, i.bytes)) = some (some (.agg #[.slice none 0 0, .int .i64 0]), 2, 32) := by kernel_rfl
theorem Try.mixed : Try.prog.follows .mixedOrders = true := by kernel_rfl

theorem mem_strs {ts : List ByteArray} : ∀ u ∈ flat strCs ts, u.oneCell' = true := by
  intro u hu
  obtain ⟨s, _, hs⟩ := List.mem_flatMap.1 hu
  simp [strCs] at hs
  subst hs
  rfl

theorem RdF.keep {α : Type} {sz : Nat} {cs : α → List Value} {w w' : World} {v : Value} {xs : List α} (h : RdF sz cs w v xs) (hk : ∀ k, k < w.heap.size → w'.heap[k]? = w.heap[k]?) : RdF sz cs w' v xs := Rd.keep h hk

/-- An environment more. -/
theorem OwnEnvs.push {lo lo' : Nat} {w w1 w2 : World} {v v' r : Value} {ps : List (Value × Int)} {es : List EnvV} {ts : List ByteArray} {n : Int}
    (h : OwnEnvs lo w v ps es) (hb : Below w.heap.size w w1) (hlo : lo ≤ lo') (hlo' : w.heap.size ≤ lo') (hr : OwnF lo' 9 1 strCs w1 r ts)
    (h1 : w2.ownsRow lo 85 2 v' (ps.length + 1) (flat pairCs ps ++ [r, .int .i64 n])) (h2 : w1.grownBy w2 v.ownBlock) : OwnEnvs lo w2 v' (ps ++ [(r, n)]) (es ++ [⟨ts, n⟩]) := by
  obtain ⟨a1, a2, a3⟩ := h
  have a1' := a1.below hb
  have hne : 9 ≠ 85 := by decide
  refine ⟨?_, Both.snoc (a2.mono fun y ys hy => ⟨?_, hy.2⟩) ⟨?_, rfl⟩, ?_⟩
  · unfold OwnF
    rw [flat_append, flat_one, List.length_append]
    exact h1
  · have hy' := hy.1.below hb
    exact own_grown hy' h2 (apart_type hy' a1' hne).ne
  · exact own_grown (own_loV hr hlo) h2 (apart_type hr a1' hne).ne
  · rw [List.map_append]
    refine AllApart.snoc a3 fun y hy => ?_
    obtain ⟨p, hp, rfl⟩ := List.mem_map.1 hy
    obtain ⟨i, hi⟩ := List.getElem?_of_mem hp
    obtain ⟨e, he⟩ : ∃ e, es[i]? = some e := ⟨_, List.getElem?_eq_getElem (by rw [← a2.1]; exact (List.getElem?_eq_some_iff.1 hi).1)⟩
    exact own_apart (B := 0) (a2.2 i p e hi he).1 (fun k hk => Nat.le_trans hlo' (hr.lt k hk).1)

def envR (lo lo' g : Nat) (arg u ev : Value) (b at_ : Nat) (k : Int) (ts : List ByteArray) (ps : List (Value × Int)) (es : List EnvV) (i : Nat) (v : Value) (w : World) : Prop := match i with
  | 0 => v = .pointer (some ⟨g, 2, none⟩)
  | 1 => v = ev
  | 2 => ∃ g2, v = .slice (some ⟨g2, 0, none⟩) 0 0 ∧ lo' ≤ g2 ∧ w.heap[g2]? = some (.cells #[] 9 (0, 0))
  | 3 => v = arg
  | 4 => v = .int .i64 k
  | 5 => v = .pointer (some ⟨b, at_, none⟩)
  | 6 => v = u
  | 7 => OwnF lo' 9 1 strCs w v ts
  | 8 => ∃ r, v = .agg #[r, .int .i64 (-1)] ∧ OwnF lo' 9 1 strCs w r ts
  | 9 => ∃ r g9, v = .slice (some ⟨g9, 0, none⟩) 1 1 ∧ lo' ≤ g9 ∧ w.heap[g9]? = some (.cells #[r, .int .i64 (-1)] 85 (0, 0)) ∧ OwnF lo' 9 1 strCs w r ts
  | 10 => ∃ r, OwnEnvs lo w v (ps ++ [(r, -1)]) (es ++ [⟨ts, -1⟩])
  | 11 => v = .pointer (some ⟨g, 2, none⟩)
  | _ => True

theorem own_past {lo e sz n : Nat} {w w' : World} {v : Value} {xs : List Value} {row : Option Nat} (h : w.ownsRow lo e sz v n xs) (hg : w.grownBy w' row) (hr : ∀ k, row = some k → k < lo) : w'.ownsRow lo e sz v n xs := by
  refine own_grown h hg ?_
  cases hv : v.ownBlock with
  | none => exact .inl rfl
  | some k =>
    refine .inr fun he => ?_
    have h1 := hr k he.symm
    have h2 := (h.lt k hv).1
    omega
theorem blk_past {w w' : World} {lo g : Nat} {o : Obj} {row : Option Nat} (h : w.heap[g]? = some o) (hl : lo ≤ g) (hg : w.grownBy w' row) (hr : ∀ k, row = some k → k < lo) : w'.heap[g]? = some o :=
  (hg.block g (Array.getElem?_eq_some_iff.1 h).1 (fun e => by have := hr g e.symm; omega)).trans h

theorem envR_keep {lo lo' g : Nat} {arg u ev : Value} {b at_ : Nat} {k : Int} {ts : List ByteArray} {ps : List (Value × Int)} {es : List EnvV} {i : Nat} {v : Value} {w w' : World} {row : Option Nat}
    (h : envR lo lo' g arg u ev b at_ k ts ps es i v w) (hg : w.grownBy w' row) (hr : ∀ k, row = some k → k < lo') (hi : i ≠ 10 ∨ row = none) : envR lo lo' g arg u ev b at_ k ts ps es i v w' := by
  match i with
  | 0 => exact h
  | 1 => exact h
  | 2 => obtain ⟨g2, h0, h1, h2⟩ := h; exact ⟨g2, h0, h1, blk_past h2 h1 hg hr⟩
  | 3 => exact h
  | 4 => exact h
  | 5 => exact h
  | 6 => exact h
  | 7 => exact own_past h hg hr
  | 8 => obtain ⟨r, h0, h1⟩ := h; exact ⟨r, h0, own_past h1 hg hr⟩
  | 9 => obtain ⟨r, g9, h0, h1, h2, h3⟩ := h; exact ⟨r, g9, h0, h1, blk_past h2 h1 hg hr, own_past h3 hg hr⟩
  | 10 =>
    obtain ⟨r, h0⟩ := h
    rcases hi with hi | hi
    · exact absurd rfl hi
    · subst hi; exact ⟨r, h0.below ⟨hg.os, hg.tape, hg.output, hg.size, fun k hk => hg.block k hk (by simp)⟩⟩
  | 11 => exact h
  | _ + 12 => trivial
end Go.Proofs.Ytabaemnknjdjoaa
