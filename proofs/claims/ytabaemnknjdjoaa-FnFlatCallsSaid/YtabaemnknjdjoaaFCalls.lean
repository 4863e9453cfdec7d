/-
  The law laws.FnFlatCalls returns true for every input. No conditions.
-/
import Derived.Test.YtabaemnknjdjoaaDr7
import Derived.Test.YtabaemnknjdjoaaFlat3
set_option linter.unusedVariables false
namespace Go.Proofs.Ytabaemnknjdjoaa.fnFlatCalls
open Go.RowKit
open Go.Proofs.Ytabaemnknjdjoaa

def noCalls (ss : List StepV) : List StepV := ss.filter fun s => decide (s.k ≠ 3)
theorem noCalls_next {ss : List StepV} {k : Nat} {s : StepV} (h : ss[k]? = some s) : noCalls (ss.take (k + 1)) = if s.k = 3 then noCalls (ss.take k) else noCalls (ss.take k) ++ [s] := by
  rw [take_one h, noCalls, List.filter_append]
  split
  · next h => simp [h, noCalls]
  · next h => simp [h, noCalls]
theorem noCalls_len (ss : List StepV) : (noCalls ss).length ≤ ss.length := List.length_filter_le _ _
theorem noCalls_run (ss : List StepV) (st : List Int × List Int) : (noCalls ss).foldl flatStep st = ss.foldl flatStep st := by
  induction ss generalizing st with
  | nil => rfl
  | cons s ss ih =>
    by_cases h : s.k = 3
    · have e : noCalls (s :: ss) = noCalls ss := by simp [noCalls, h]
      rw [e, ih, List.foldl_cons, flatStep3 (by omega) (by omega)]
    · have e : noCalls (s :: ss) = s :: noCalls ss := by simp [noCalls, h]
      rw [e, List.foldl_cons, ih, List.foldl_cons]
theorem noCalls_out {ss : List StepV} (h : stepsOk ss = true) : flatOut (noCalls ss) = flatOut ss := by
  have h2 : stepsOk (noCalls ss) = true := by
    have := noCalls_len ss
    simp only [stepsOk, Bool.and_eq_true, decide_eq_true_eq, List.all_eq_true] at h ⊢
    exact ⟨by omega, fun s hs => h.2 s ((List.mem_filter.1 hs).1)⟩
  rw [flatOut, flatOut, h, h2]
  simp only [if_true]
  rw [flatRun, flatRun, noCalls_run]

set_option maxRecDepth 100000 in
set_option maxHeartbeats 4000000 in
theorem walkR (v : Value) (bs : List Int) (w : World) (h : RdBytes w v bs) :
    Calls Try.prog 8 #[v] w fun e w' => e = .returned (.bool true) ∧ Below w.heap.size w w' := by
  obtain ⟨a, c, hv, hc, hcm, hA⟩ := h.open
  subst hv
  unfold maxLen at hcm
  by_cases hl : 1048576 < bs.length
  · go_enter Try.func8, Try.ntmps8
    go_wp2_with fail
    go_ret
    exact ⟨rfl, Below.refl _ _⟩
  go_enter Try.func8, Try.ntmps8
  go_wp2_with fail
  refine (DrawFlatPlay_any _ bs _ h).mono ?_; rintro e w1 ⟨v1, ss, rfl, o1, hsl, b1⟩
  have hz1 := b1.size
  clear hA h
  have Hok : Hid (stepsOk ss = true → flatOut (noCalls ss) = flatOut ss) := Lib.hid noCalls_out
  go_wp2_with fail
  refine (FlatPlay_impl v1 ss _ o1.rd).mono ?_; rintro e w2 ⟨v2, rfl, o2, c2⟩
  have b2 := b1.trans (c2.mono b1.size)
  have r1 : RdSteps w2 v1 ss := Rd.below o1.rd c2
  clear c2 b1 o1
  go_wp2_with fail
  refine (FlatPlay_spec v1 ss _ r1).mono ?_; rintro e w3 ⟨v3, rfl, o3, c3⟩
  have b3 := b2.trans (c3.mono b2.size)
  have r1 : RdSteps w3 v1 ss := Rd.below r1 c3
  have o2 := o2.below c3
  clear c3 b2
  go_wp2_with fail
  refine (sameInts_any _ _ _ _ _ o2.rd o3.rd).mono ?_; rintro e w4 ⟨rfl, n4, rfl⟩
  rw [show decide (flatOut ss = flatOut ss) = true by simp]
  have b4 := below_drewN b3 n4
  have c4 := below_drewN (Below.refl w3.heap.size w3) n4
  have r1 : RdSteps (w3.drewN n4) v1 ss := Rd.below r1 c4
  have o2 := o2.below c4
  have o3 := o3.below c4
  generalize w3.drewN n4 = w4 at b4 r1 o2 o3
  clear c4 b3
  go_wp2_with fail
  refine (StepsValid_spec _ ss _ r1).mono ?_; rintro e w5 ⟨rfl, c5⟩
  have b5 := b4.trans (c5.mono b4.size)
  have r1 : RdSteps w5 v1 ss := Rd.below r1 c5
  have o2 := o2.below c5
  have o3 := o3.below c5
  clear c5 b4
  cases hok : stepsOk ss
  · have Hk := Lib.hid hok; clear hok
    go_wp2_with fail
    refine (sameInts_any _ _ _ _ _ o2.rd o3.rd).mono ?_; rintro e w6 ⟨rfl, n6, rfl⟩
    rw [show decide (flatOut ss = flatOut ss) = true by simp]
    go_wp2_with fail
    go_ret
    exact ⟨rfl, below_drewN b5 n6⟩
  replace Hok := Lib.hid (Hok.out hok)
  clear hok o3
  have o1 := ownsRow_empty w5 40 9
  have hz5 := b5.size
  obtain ⟨a1, c1, rfl, hc1, hcm1, H0⟩ := r1.open
  unfold maxLen at hcm1
  clear r1
  go_wp2_with fail
  have bA := below1 w5 (.cells #[] 40)
  generalize w5.alloc (.cells #[] 40) = wa at o1 bA
  generalize (Value.slice (some ⟨w5.heap.size, 0, none⟩) 0 0) = o at o1
  go_loopw [6, 7] (fun o i wr => ∃ k : Nat, k ≤ ss.length ∧ i = .int .i64 k ∧ OwnSteps w5.heap.size wr o (noCalls (ss.take k)) ∧ Below w5.heap.size w5 wr) (fun _ i _ => ss.length - (intOf i).toNat)
  case atStart => exact ⟨0, Nat.zero_le _, rfl, by simpa [OwnSteps, noCalls, stepCells] using o1, bA⟩
  case round =>
    clear o1 bA
    obtain ⟨k, hk, rfl, hown, hbel⟩ := hrel
    by_cases hlt : k < ss.length
    · obtain ⟨s, hs⟩ : ∃ s, ss[k]? = some s := ⟨_, List.getElem?_eq_getElem hlt⟩
      obtain ⟨b, off, rfl, D0, D1, D2, D3, D4, D5, D6, D7, D8⟩ := H0.nine hbel hs
      have Nx := Lib.hid (noCalls_next hs)
      have hnl := noCalls_len (ss.take k)
      have htk : (ss.take k).length ≤ 82 := by rw [List.length_take]; omega
      clear hs
      generalize noCalls (ss.take k) = ys at hown Nx hnl
      by_cases h3 : s.k = 3
      · have t0 : (s.k == 3) = true := by simp [h3]
        have Nx' := Lib.hid (Nx.out.trans (if_pos h3))
        clear Nx h3
        go_wp2_with fail
        go_roundw
        case rel => exact ⟨k + 1, by omega, by go_num, by rw [Nx'.out]; exact hown, hbel⟩
        case measure => simp [intOf]; omega
      · have t0 : (s.k == 3) = false := by simp [h3]
        have Nx' := Lib.hid (Nx.out.trans (if_neg h3))
        clear Nx h3
        go_wp2_with (at_builtin; go_must (refine wp_appendL (lo := w5.heap.size) (n := ys.length) (xs := stepCells ys) (m := 1) (news := s.cells.toList) rfl rfl 40 _ 9 _ Try.underlying25 Try.infoStep rfl (by decide) rfl (ownsRow_below hown (below1 _ _)) rfl (Rd.newsAt _ s.cells _ 9 1 _ (by simp) rfl (by simp [maxLen])) (by simp [StepV.cells, Value.oneCell']) (by unfold maxLen; omega) (by omega) (by have := hbel.size; simp; omega) ?_; intro o' w9 k1 k2 k3 k4))
        go_roundw
        case rel => exact ⟨k + 1, by omega, by go_num, by
            rw [Nx'.out]
            unfold OwnSteps
            rw [List.length_append, show stepCells (ys ++ [s]) = stepCells ys ++ s.cells.toList by simp [stepCells]]
            exact k1, (hbel.alloc hbel.size _).trans k4⟩
        case measure => simp [intOf]; omega
    · have e1 : ss.take k = ss := List.take_of_length_le (by omega)
      rw [e1] at hown
      have o2 := o2.below hbel
      have b6 := b5.trans (hbel.mono b5.size)
      clear hbel
      go_wp2_with fail
      refine (FlatPlay_impl _ _ _ (OwnSteps.rd hown)).mono ?_; rintro e w7 ⟨v7, rfl, o7, c7⟩
      have o2 := o2.below c7
      rw [Hok.out] at o7
      go_wp2_with fail
      refine (sameInts_any _ _ _ _ _ o7.rd o2.rd).mono ?_; rintro e w8 ⟨rfl, n8, rfl⟩
      rw [show decide (flatOut ss = flatOut ss) = true by simp]
      have b8 := below_drewN (b6.trans (c7.mono b6.size)) n8
      go_wp2_with fail
      go_ret
      exact ⟨rfl, b8⟩
end Go.Proofs.Ytabaemnknjdjoaa.fnFlatCalls
