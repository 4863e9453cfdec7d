/-
  The program's SlicesWait answers as the reference's does, for all arguments. No conditions.
-/
import Derived.Test.YtpkbfkolllcjgaaSl6
namespace Go.Proofs.Ytpkbfkolllcjgaa.fnExactSlicesWait
open Go.RowKit
open Go.Proofs.Ytpkbfkolllcjgaa

set_option maxHeartbeats 1000000 in
theorem walkR (v : Value) (xs : List Int) (env : Int) (w : World) (h : RdInts w v xs) :
    Calls Try.prog 5 #[v, .int .i64 env] w fun e w' => e = .returned (.bool true) ∧ Below w.heap.size w w' := by
  obtain ⟨a, c, hv, hc, hcm, H0⟩ := h.open
  subst hv
  unfold maxLen at hcm
  by_cases hs : xs.length ≤ 1048576
  · have hs' : ¬ (1048576 < xs.length) := by omega
    go_enter Try.func5, Try.ntmps5
    go_wp2_with fail
    refine (toIntS_any _ xs _ h hs).mono ?_; rintro e w1 ⟨v1, rfl, o1, b1⟩
    go_wp2_with fail
    refine (SlicesWait_spec _ xs _ _ o1.rd).mono ?_; rintro e w2 ⟨rfl, rfl⟩
    go_wp2_with fail
    refine (toIntS_any _ xs _ (h.below b1) hs).mono ?_; rintro e w2 ⟨v2, rfl, o2, b2⟩
    go_wp2_with fail
    refine (SlicesWait_impl _ xs _ _ o2.rd).mono ?_; rintro e w3 ⟨rfl, rfl⟩
    go_wp2_with fail
    refine (toIntS_any _ xs _ ((h.below b1).below b2) hs).mono ?_; rintro e w3 ⟨v3, rfl, o3, b3⟩
    go_wp2_with fail
    refine (eqIntS_any _ _ xs xs _ (o2.below b3).rd o3.rd).mono ?_; rintro e w4 ⟨rfl, n, rfl⟩
    go_wp2_with fail
    go_ret
    exact ⟨rfl, below_drewN ((b1.trans (b2.mono b1.size)).trans (b3.mono (by have := b1.size; have := b2.size; omega))) n⟩
  · have hs' : 1048576 < xs.length := by omega
    go_enter Try.func5, Try.ntmps5
    go_wp2_with fail
    go_ret
    exact ⟨rfl, Below.refl _ _⟩
end Go.Proofs.Ytpkbfkolllcjgaa.fnExactSlicesWait
