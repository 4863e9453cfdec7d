/-
  Small lemmas for the exact laws whose results are slices.
-/
import Derived.Test.YtpkbfkolllcjgaaSl6
namespace Go.Proofs.Ytpkbfkolllcjgaa
open Go.RowKit

theorem giveList_len {xs : List Int} {at_ env : Int} (h : xs.length ≤ 1048576) : (giveList xs at_ env).length ≤ 1048576 := by
  unfold giveList
  split
  · rwa [List.length_set]
  · simp
theorem sRun_len {xs : List Int} {at_ many : Int} : (sRun xs at_ many).length ≤ 1048576 := by
  unfold sRun
  split
  · rename_i h
    simp only [runOk, Bool.and_eq_true, decide_eq_true_eq] at h
    have := (inB_iff.1 h.1.2)
    rw [runTo_len]
    omega
  · simp

theorem own_kept {lo : Nat} {w w' : World} {v : Value} {xs : List Int} {row : Option Nat} (h : OwnInts lo w v xs) (hg : w.grownBy w' row) (hne : v.ownBlock = none ∨ v.ownBlock ≠ row) : OwnInts lo w' v xs := World.ownsRow.kept h hg hne
theorem apart_lt {v1 v2 : Value} {B : Nat} (h1 : ∀ k, v1.ownBlock = some k → k < B) (h2 : ∀ k, v2.ownBlock = some k → B ≤ k) : v1.ownBlock = none ∨ v1.ownBlock ≠ v2.ownBlock := by
  cases h : v1.ownBlock with
  | none => exact .inl rfl
  | some k =>
    refine .inr fun e => ?_
    have a1 := h1 k h
    have a2 := h2 k e.symm
    omega
theorem apart_gt {v1 v2 : Value} {B : Nat} (h1 : ∀ k, v1.ownBlock = some k → B ≤ k) (h2 : ∀ k, v2.ownBlock = some k → k < B) : v1.ownBlock = none ∨ v1.ownBlock ≠ v2.ownBlock := by
  cases h : v1.ownBlock with
  | none => exact .inl rfl
  | some k =>
    refine .inr fun e => ?_
    have a1 := h1 k h
    have a2 := h2 k e.symm
    omega
end Go.Proofs.Ytpkbfkolllcjgaa
