/-
  Walks: the program's check of a list of steps.
-/
import Derived.Test.YtabaemnknjdjoaaStep2
namespace Go.Proofs.Ytabaemnknjdjoaa
open Go.RowKit

set_option maxHeartbeats 400000 in
theorem StepsValid1_any (s : StepV) (w : World) :
    Calls Try.prog 31 #[s.val] w fun e w' => e = .returned (.bool (!s.ok)) ∧ Below w.heap.size w w' := by
  have Hs := Lib.hid (fun w => stepOk_any s w)
  obtain ⟨k, a, x, ck, ce, ca, cb, cc, nm⟩ := s
  simp only [StepV.val, StepV.cells] at Hs ⊢
  go_enter Try.func31, Try.ntmps31
  go_wp2_with (go_at_call 32; refine (Hs.out _).mono ?_; rintro e w1 ⟨rfl, hbel⟩)
  go_ret
  exact ⟨rfl, ((Below.refl _ _).alloc (Nat.le_refl _) _).trans (hbel.mono (by simp))⟩

def stepBad (ss : List StepV) (n : Int) : Prop := (n = -1 ∧ ss.all StepV.ok = true) ∨ (0 ≤ n ∧ ss.all StepV.ok = false)

set_option maxHeartbeats 1000000 in
theorem IndexFuncSteps_any (v : Value) (ss : List StepV) (w : World) (h : RdSteps w v ss) :
    Calls Try.prog 48 #[v, .func (.func 31) #[] #[]] w fun e w' => ∃ n, e = .returned (.int .i64 n) ∧ stepBad ss n ∧ Below w.heap.size w w' := by
  obtain ⟨a, c, hv, hc, hcm, H0⟩ := h.open
  subst hv
  unfold maxLen at hcm
  have hF : ∀ args w, (callFunc 31 args).run Try.prog w = .ok (.enter 31 args) w := fun _ _ => by kernel_rfl
  go_enter Try.func48, Try.ntmps48
  go_wp2_with fail
  go_loopw [8] (fun i wr => ∃ k : Nat, k ≤ ss.length ∧ i = .int .i64 k ∧ (∀ j s, j < k → ss[j]? = some s → s.ok = true) ∧ Below w.heap.size w wr) (fun i _ => ss.length - (intOf i).toNat)
  case atStart => exact ⟨0, Nat.zero_le _, rfl, fun j s hj => absurd hj (Nat.not_lt_zero _), Below.refl _ _⟩
  case round =>
    obtain ⟨k, hk, rfl, hpre, hbel⟩ := hrel
    have Hpre := Lib.hid hpre; clear hpre
    by_cases hlt : k < ss.length
    · obtain ⟨s, hs⟩ : ∃ s, ss[k]? = some s := ⟨_, List.getElem?_eq_getElem hlt⟩
      obtain ⟨b, off, rfl, D0, D1, D2, D3, D4, D5, D6, D7, D8⟩ := H0.nine hbel hs
      have Hs := Lib.hid hs; clear hs
      cases hok : s.ok
      · have S := Lib.hid (List.all_eq_false.2 ⟨s, List.mem_of_getElem? Hs.out, by simp [hok]⟩ : ss.all StepV.ok = false)
        have Hok := Lib.hid hok; clear hok
        go_wp2_with (refine (StepsValid1_any s _).mono ?_; rintro e w1 ⟨rfl, hbel1⟩; rw [Hok.out])
        go_ret
        exact ⟨k, rfl, .inr ⟨by omega, S.out⟩, hbel.trans (hbel1.mono hbel.size)⟩
      · have Hok := Lib.hid hok; clear hok
        go_wp2_with (refine (StepsValid1_any s _).mono ?_; rintro e w1 ⟨rfl, hbel1⟩; rw [Hok.out])
        go_roundw
        case rel => exact ⟨k + 1, by omega, by go_num, steps_next Hpre.out Hs.out Hok.out, hbel.trans (hbel1.mono hbel.size)⟩
        case measure => simp [intOf]; omega
    · have S := Lib.hid (List.all_eq_true.2 fun s hs => by
        obtain ⟨j, hj⟩ := List.getElem?_of_mem hs
        exact Hpre.out j s (by have := (List.getElem?_eq_some_iff.1 hj).1; omega) hj : ss.all StepV.ok = true)
      go_wp2_with fail
      go_ret
      exact ⟨-1, rfl, .inl ⟨rfl, S.out⟩, hbel⟩

set_option maxHeartbeats 1000000 in
theorem ContainsFuncSteps_any (v : Value) (ss : List StepV) (w : World) (h : RdSteps w v ss) :
    Calls Try.prog 30 #[v, .func (.func 31) #[] #[]] w fun e w' => e = .returned (.bool (!ss.all StepV.ok)) ∧ Below w.heap.size w w' := by
  go_enter Try.func30, Try.ntmps30
  go_wp2_with (go_at_call 48; refine (IndexFuncSteps_any _ ss _ h).mono ?_; rintro e w1 ⟨n, rfl, hn, hbel⟩)
  go_ret
  refine ⟨ret_bool ?_, hbel⟩
  rcases hn with ⟨rfl, h⟩ | ⟨h0, h⟩
  · simp [h]
  · simp [h, h0]

set_option maxHeartbeats 1000000 in
theorem StepsValid_impl (v : Value) (ss : List StepV) (w : World) (h : RdSteps w v ss) :
    Calls Try.prog 12 #[v] w fun e w' => e = .returned (.bool (stepsOk ss)) ∧ Below w.heap.size w w' := by
  obtain ⟨a, c, hv, hc, hcm, _⟩ := h.open
  subst hv
  unfold maxLen at hcm
  by_cases h8 : ss.length ≤ 80
  · have S := Lib.hid (show stepsOk ss = ss.all StepV.ok by simp [stepsOk, h8])
    go_enter Try.func12, Try.ntmps12
    go_wp2_with (go_at_call 30; refine (ContainsFuncSteps_any _ ss _ h).mono ?_; rintro e w1 ⟨rfl, hbel⟩)
    go_ret
    exact ⟨ret_bool S.out.symm, hbel⟩
  · have S := Lib.hid (show stepsOk ss = false by simp [stepsOk, h8])
    go_enter Try.func12, Try.ntmps12
    go_wp2_with fail
    go_ret
    exact ⟨ret_bool S.out.symm, Below.refl _ _⟩
end Go.Proofs.Ytabaemnknjdjoaa
