/-
  The program's SlicesNext answers as the reference's does, for all arguments. No conditions.
-/
import Derived.Test.YtpkbfkolllcjgaaSl6
namespace Go.Proofs.Ytpkbfkolllcjgaa.fnExactSlicesNext
open Go.RowKit
open Go.Proofs.Ytpkbfkolllcjgaa

theorem sNext_tuple (xs : List Int) (at_ : Int) : ∃ p q r, sNext xs at_ = .tuple #[.int .i64 p, .int .i64 q, .bool r] := by
  unfold sNext
  split
  · exact ⟨_, _, _, rfl⟩
  · exact ⟨_, _, _, rfl⟩

set_option maxHeartbeats 1000000 in
theorem walkR (v : Value) (xs : List Int) (at_ : Int) (w : World) (h : RdInts w v xs) :
    Calls Try.prog 4 #[v, .int .i64 at_] w fun e w' => e = .returned (.bool true) ∧ Below w.heap.size w w' := by
  obtain ⟨a, c, hv, hc, hcm, H0⟩ := h.open
  subst hv
  unfold maxLen at hcm
  by_cases hs : xs.length ≤ 1048576
  · have hs' : ¬ (1048576 < xs.length) := by omega
    obtain ⟨p, q, r, hp⟩ := sNext_tuple xs at_
    have Hp := Lib.hid hp; clear hp
    go_enter Try.func4, Try.ntmps4
    go_wp2_with fail
    refine (toIntS_any _ xs _ h hs).mono ?_; rintro e w1 ⟨v1, rfl, o1, b1⟩
    go_wp2_with fail
    refine (SlicesNext_spec _ xs _ _ o1.rd).mono ?_; rintro e w2 ⟨rfl, n1, rfl⟩; rw [Hp.out]
    have b1' := below_drewN b1 n1
    go_wp2_with fail
    refine (toIntS_any _ xs _ (h.below b1') hs).mono ?_; rintro e w2 ⟨v2, rfl, o2, b2⟩
    go_wp2_with fail
    refine (SlicesNext_impl _ xs _ _ o2.rd).mono ?_; rintro e w3 ⟨rfl, n2, rfl⟩; rw [Hp.out]
    have b2' := below_drewN b2 n2
    have o2' := OwnInts.below o2 (below_drewN (Below.refl _ _) n2)
    go_wp2_with fail
    refine (toIntS_any _ xs _ ((h.below b1').below b2') hs).mono ?_; rintro e w3 ⟨v3, rfl, o3, b3⟩
    go_wp2_with fail
    refine (eqIntS_any _ _ xs xs _ (o2'.below b3).rd o3.rd).mono ?_; rintro e w4 ⟨rfl, n, rfl⟩
    go_wp2_with fail
    go_ret
    exact ⟨rfl, below_drewN ((b1'.trans (b2'.mono b1'.size)).trans (b3.mono (by have := b1'.size; have := b2'.size; omega))) n⟩
  · have hs' : 1048576 < xs.length := by omega
    go_enter Try.func4, Try.ntmps4
    go_wp2_with fail
    go_ret
    exact ⟨rfl, Below.refl _ _⟩
end Go.Proofs.Ytpkbfkolllcjgaa.fnExactSlicesNext
