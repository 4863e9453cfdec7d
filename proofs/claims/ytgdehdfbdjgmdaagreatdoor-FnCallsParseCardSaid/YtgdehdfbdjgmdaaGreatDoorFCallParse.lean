/-
  The laws laws.FnCallParse and laws.FnCallParseBad return true for every drawn text. Conditions: some variables of the library lie as laid.
-/
import Derived.Test.YtgdehdfbdjgmdaaGreatDoorCallEq
import Derived.Test.YtgdehdfbdjgmdaaGreatDoorParsI
import Derived.Test.YtgdehdfbdjgmdaaGreatDoorDrP
set_option linter.unusedVariables false
set_option linter.unusedSimpArgs false
namespace Go.Proofs.YtgdehdfbdjgmdaaGreatDoor
open Go.RowKit

theorem six_words {y : CallV} (h : fitsC y = true) : (callB y).data.toList.count 32 = 5 := by
  have h1 := congrArg List.length (cut_callB h)
  rw [callWsB_len] at h1
  unfold cutB at h1
  rw [List.length_map, cutL_len] at h1
  omega
theorem bad_right {x : CallV} (hx : fitsC x = true) : ∀ y : CallV, fitsC y = true → callB y ≠ callB x ++ ⟨#[32]⟩ := by
  intro y hy e
  have h1 := six_words hy
  rw [e, ByteArray.data_append, Array.toList_append, List.count_append, six_words hx] at h1
  simp at h1
theorem bad_left {x : CallV} (hx : fitsC x = true) : ∀ y : CallV, fitsC y = true → callB y ≠ ⟨#[32]⟩ ++ callB x := by
  intro y hy e
  have h1 := six_words hy
  rw [e, ByteArray.data_append, Array.toList_append, List.count_append, six_words hx] at h1
  simp at h1


end Go.Proofs.YtgdehdfbdjgmdaaGreatDoor
