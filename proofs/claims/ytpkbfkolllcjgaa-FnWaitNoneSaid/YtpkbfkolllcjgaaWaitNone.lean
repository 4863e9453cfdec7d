/-
  The law laws.FnWaitNone returns true for every code. No conditions.
-/
import Derived.Test.YtpkbfkolllcjgaaFn1
namespace Go.Proofs.Ytpkbfkolllcjgaa.fnWaitNone
open Go.RowKit
open Go.Proofs.Ytpkbfkolllcjgaa

set_option maxHeartbeats 2000000 in
theorem walkR (v : Value) (bs : List Int) (w : World) (h : RdBytes w v bs) :
    Calls Try.prog 11 #[v] w fun e w' => e = .returned (.bool true) ∧ Below w.heap.size w w' := by
  obtain ⟨a0, c0, hv, hc, hcm, _⟩ := h.open
  subst hv
  unfold maxLen at hcm
  by_cases hs : 1048576 < bs.length
  · go_enter Try.func11, Try.ntmps11
    go_wp2_with fail
    go_ret
    exact ⟨rfl, Below.refl _ _⟩
  go_enter Try.func11, Try.ntmps11
  go_wp2_with fail
  refine (DrawSlicesWait_any _ bs _ h).mono ?_; rintro e w1 ⟨v1, xs, env, rfl, o1, hl, b1⟩
  obtain ⟨a1, c1, rfl, hc1, hcm1, hA⟩ := o1.rd.open
  unfold maxLen at hcm1
  go_wp2_with fail
  refine (SlicesWait_impl _ xs _ _ o1.rd).mono ?_; rintro e w2 ⟨rfl, rfl⟩
  go_wp2_with fail
  refine (SlicesWait_spec _ xs _ _ o1.rd).mono ?_; rintro e w2 ⟨rfl, rfl⟩
  cases h1 : slicesOk xs
  · have H1 := Lib.hid h1; clear h1
    go_wp2_with (go_at_call 16; refine (SlicesValid_spec _ xs _ o1.rd).mono ?_; rintro e w' ⟨rfl, rfl⟩; rw [H1.out])
    go_ret
    exact ⟨rfl, b1⟩
  by_cases h2 : 0 ≤ env ∧ env < 3
  · obtain ⟨h2, h3⟩ := h2
    have Hw := Lib.hid (waits_none (xs := xs) (env := env))
    have He := Lib.hid (sWait_yes h1 (inB_iff.2 ⟨h2, by omega⟩))
    have H1 := Lib.hid h1; clear h1
    have h3' : ¬ (3 : Int) ≤ env := by omega
    go_wp2_with (first | (go_at_call 16; refine (SlicesValid_spec _ xs _ o1.rd).mono ?_; rintro e w' ⟨rfl, rfl⟩; rw [H1.out]) | (go_at_call 32; refine (hasNumber_any _ xs _ _ o1.rd).mono ?_; rintro e w' ⟨rfl, rfl⟩))
    go_ret
    refine ⟨ret_bool ?_, b1⟩
    rw [He.out]
    have := Hw.out
    rw [← this]
    by_cases hh : waitsTo xs env xs.length = -1 <;> simp [hh]
  · have H1 := Lib.hid h1; clear h1
    rcases (show env < 0 ∨ (0 ≤ env ∧ 3 ≤ env) by omega) with h3 | ⟨h3, h4⟩
    all_goals
      clear h2
      go_wp2_with (go_at_call 16; refine (SlicesValid_spec _ xs _ o1.rd).mono ?_; rintro e w' ⟨rfl, rfl⟩; rw [H1.out])
      go_ret
      exact ⟨rfl, b1⟩
end Go.Proofs.Ytpkbfkolllcjgaa.fnWaitNone
