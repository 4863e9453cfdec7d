/-
  Walks: a memory of zeros.
-/
import Derived.Test.YtabaemnknjdjoaaKern
set_option linter.unusedVariables false
namespace Go.Proofs.Ytabaemnknjdjoaa
open Go.RowKit

theorem Try.infoRow : (Try.prog.info? 30).map (fun i => (i.zero, i.size, i.bytes)) = some (some (.slice none 0 0), 1, 24) := by kernel_rfl
theorem tyRowInt : 30 ≠ 3 := by decide

theorem own_apart {lo e sz n B : Nat} {w : World} {v u : Value} {xs : List Value} (h : w.ownsRow lo e sz v n xs) (hu : ∀ k, u.ownBlock = some k → w.heap.size ≤ k) : Apart v u := by
  intro k hk hu'
  have h1 := (h.lt k hk).2
  have h2 := hu k hu'
  omega

/-- A row more. -/
theorem OwnRows.push {lo : Nat} {w w1 w2 : World} {v v' u : Value} {vs : List Value} {xss : List (List Int)} {x : List Int}
    (h : OwnRows lo w v vs xss) (hb : Below w.heap.size w w1) (hlo : lo ≤ w.heap.size) (hu : OwnInts w.heap.size w1 u x)
    (h1 : w2.ownsRow lo 30 1 v' (vs.length + 1) (flat oneCs vs ++ [u])) (h2 : w1.grownBy w2 v.ownBlock) : OwnRows lo w2 v' (vs ++ [u]) (xss ++ [x]) := by
  obtain ⟨a1, a2, a3⟩ := h
  have a1' := a1.below hb
  refine ⟨?_, Both.snoc (a2.mono fun y ys hy => ?_) ?_, AllApart.snoc a3 fun y hy => ?_⟩
  · unfold OwnF
    rw [flat_append, flat_one, List.length_append]
    exact h1
  · have hy' := hy.below hb
    exact own_grown hy' h2 (apart_type hy' a1' (Ne.symm tyRowInt)).ne
  · exact own_grown (own_loV hu hlo) h2 (apart_type hu a1' (Ne.symm tyRowInt)).ne
  · obtain ⟨i, hi⟩ := List.getElem?_of_mem hy
    obtain ⟨ys, hys⟩ : ∃ ys, xss[i]? = some ys := ⟨_, List.getElem?_eq_getElem (by rw [← a2.1]; exact (List.getElem?_eq_some_iff.1 hi).1)⟩
    exact own_apart (B := 0) (a2.2 i y ys hi hys) (fun k hk => (hu.lt k hk).1)

theorem flat_cells {w : World} {u : Value} (h : ∃ a n c, u = .slice a n c) : ∀ x ∈ [u], x.oneCell' = true := by
  obtain ⟨a, n, c, rfl⟩ := h
  simp [Value.oneCell']

def zeros (n : Nat) : List (List Int) := List.replicate n [0, 0, 0, 0]

set_option maxHeartbeats 2000000 in
theorem l2New_any (w : World) :
    Calls Try.prog 60 #[] w fun e w' => ∃ v vs, e = .returned v ∧ OwnRows w.heap.size w' v vs (zeros 12) ∧ Below w.heap.size w w' := by
  go_enter Try.func60, Try.ntmps60
  go_wp2_with fail
  go_loopw [1, 2] (fun o i wr => ∃ k : Nat, ∃ vs : List Value, k ≤ 12 ∧ vs.length = k ∧ i = .int .i64 k ∧ OwnRows w.heap.size wr o vs (zeros k) ∧ Below w.heap.size w wr) (fun _ i _ => 12 - (intOf i).toNat)
  case atStart => exact ⟨0, [], by omega, rfl, rfl, ⟨ownsRow_empty _ _ _, Both.nil, AllApart.nil⟩, below1 _ _⟩
  case round =>
    obtain ⟨k, vs, hk, hl, rfl, hO, hbel⟩ := hrel
    have Hl := Lib.hid hl; clear hl
    by_cases hlt : k < 12
    · have hv1 : vs.length ≤ 12 := by rw [Hl.out]; omega
      go_wp2_with (first | (at_make; go_must (refine wp_make (n := 4) rfl rfl 3 (.int .i64 0) 8 Try.underlying30 Try.infoInt rfl rfl (by omega) (by unfold maxLen; omega) ?_; intro w2 hown hbel2 hsz)) | (at_builtin; go_must (refine wp_appendL (lo := w.heap.size) (n := vs.length) (xs := flat oneCs vs) (m := 1) (news := [.slice (some ⟨wr.heap.size, 0, none⟩) 4 4]) rfl rfl 30 (.slice none 0 0) 1 24 Try.underlying69 Try.infoRow rfl (by decide) rfl ((hO.below hbel2).below (below1 _ _)).1 rfl (Rd.newsAt _ #[_] _ 1 1 _ (by simp) rfl (by simp [maxLen])) (by simp [Value.oneCell']) (by unfold maxLen; omega) (by omega) (by have := hbel.size; simp; omega) ?_; intro o' w3 g1 g2 g3 g4)))
      go_roundw
      case rel =>
        have hu : OwnInts wr.heap.size w2 (.slice (some ⟨wr.heap.size, 0, none⟩) 4 4) [0, 0, 0, 0] := hown
        have hb2 := hbel2.trans ((below1 w2 (.cells #[.slice (some ⟨wr.heap.size, 0, none⟩) 4 4] 30)).mono hbel2.size)
        have hP := hO.push hb2 hbel.size (hu.below (below1 _ _)) g1 g2
        refine ⟨k + 1, vs ++ [.slice (some ⟨wr.heap.size, 0, none⟩) 4 4], by omega, by rw [List.length_append, Hl.out]; rfl, by go_num, ?_, (hbel.trans (hb2.mono hbel.size)).trans g4⟩
        rw [show zeros (k + 1) = zeros k ++ [[0, 0, 0, 0]] by simp [zeros, List.replicate_succ']]
        exact hP
      case measure => simp [intOf]; omega
    · obtain rfl : k = 12 := by omega
      go_wp2_with fail
      go_ret
      exact ⟨_, vs, rfl, hO, hbel⟩
end Go.Proofs.Ytabaemnknjdjoaa
