/-
  Walks: equal lists of steps are found equal.
-/
import Derived.Test.YtabaemnknjdjoaaStep4
namespace Go.Proofs.Ytabaemnknjdjoaa
open Go.RowKit

theorem sameSelf (s : ByteArray) : (s.toList == s.toList) = true := by simp

set_option maxHeartbeats 400000 in
theorem eqCall_same (c : CallV) (w : World) :
    Calls Try.prog 52 #[c.val, c.val] w fun e w' => e = .returned (.bool true) ∧ (w.alloc (.cells c.cells 38)).alloc (.cells c.cells 38) = w' := by
  obtain ⟨k, e, a, b, c, nm⟩ := c
  simp only [CallV.val, CallV.cells]
  go_enter Try.func52, Try.ntmps52
  go_wp2_with fail
  go_ret
  exact ⟨rfl, rfl⟩

set_option maxHeartbeats 400000 in
theorem eqStep_same (s : StepV) (w : World) :
    Calls Try.prog 33 #[s.val, s.val] w fun e w' => e = .returned (.bool true) ∧ Below w.heap.size w w' := by
  have Hs := Lib.hid (fun w => eqCall_same s.call w)
  obtain ⟨k, a, x, ck, ce, ca, cb, cc, nm⟩ := s
  simp only [StepV.val, StepV.cells, StepV.call, CallV.val, CallV.cells] at Hs ⊢
  go_enter Try.func33, Try.ntmps33
  go_wp2_with fail
  refine (Hs.out _).mono ?_; rintro e w1 ⟨rfl, rfl⟩
  clear Hs
  go_wp2_with fail
  go_ret
  exact ⟨rfl, below4 _ _ _ _ _⟩

set_option maxRecDepth 100000 in
set_option maxHeartbeats 1000000 in
theorem eqStepS_same (v1 v2 : Value) (ss : List StepV) (w : World) (h1 : RdSteps w v1 ss) (h2 : RdSteps w v2 ss) :
    Calls Try.prog 13 #[v1, v2] w fun e w' => e = .returned (.bool true) ∧ Below w.heap.size w w' := by
  obtain ⟨a1, c1, hv1, hc1, hcm1, H1⟩ := h1.open
  obtain ⟨a2, c2, hv2, hc2, hcm2, H2⟩ := h2.open
  subst hv1 hv2
  unfold maxLen at hcm1 hcm2
  clear h1 h2
  go_enter Try.func13, Try.ntmps13
  go_wp2_with fail
  go_loopw [5] (fun i wr => ∃ k : Nat, k ≤ ss.length ∧ i = .int .i64 k ∧ Below w.heap.size w wr) (fun i _ => ss.length - (intOf i).toNat)
  case atStart => exact ⟨0, Nat.zero_le _, rfl, Below.refl _ _⟩
  case round =>
    obtain ⟨k, hk, rfl, hbel⟩ := hrel
    by_cases hlt : k < ss.length
    · obtain ⟨s, hs⟩ : ∃ s, ss[k]? = some s := ⟨_, List.getElem?_eq_getElem hlt⟩
      obtain ⟨b1, o1, rfl, D0, D1, D2, D3, D4, D5, D6, D7, D8⟩ := H1.nine hbel hs
      obtain ⟨b2, o2, rfl, E0, E1, E2, E3, E4, E5, E6, E7, E8⟩ := H2.nine hbel hs
      have Hs := Lib.hid hs; clear hs
      go_wp2_with fail
      go_still_tail 8, (by kernel_rfl)
      change wpList _ _ _ _ _ wr.drew
      have hbd : Below w.heap.size w wr.drew := below_drewN hbel 1
      generalize wr.drew = w2 at hbd
      go_wp2_with fail
      refine (eqStep_same s _).mono ?_; rintro e w1 ⟨rfl, hbel1⟩
      have hbel' := hbd.trans (hbel1.mono hbd.size)
      clear D0 D1 D2 D3 D4 D5 D6 D7 D8 E0 E1 E2 E3 E4 E5 E6 E7 E8 hbel hbel1 hbd
      go_wp2_with fail
      go_roundw
      case rel => exact ⟨k + 1, by omega, by go_num, hbel'⟩
      case measure => simp [intOf]; omega
    · go_wp2_with fail
      go_ret
      exact ⟨rfl, hbel⟩
end Go.Proofs.Ytabaemnknjdjoaa
