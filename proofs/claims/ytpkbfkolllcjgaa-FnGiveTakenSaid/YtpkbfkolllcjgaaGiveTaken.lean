/-
  The law laws.FnGiveTaken returns true for every code. No conditions.
-/
import Derived.Test.YtpkbfkolllcjgaaFn1
namespace Go.Proofs.Ytpkbfkolllcjgaa.fnGiveTaken
open Go.RowKit
open Go.Proofs.Ytpkbfkolllcjgaa

theorem give_taken {xs : List Int} {a : Nat} {env : Int} (h1 : slicesOk xs = true) (ha : a < xs.length) (he0 : 0 ≤ env) (he : env < 3) : giveOk xs a env = (nth xs a == -1 || nth xs a == env) := by
  have h2 : inB (a : Int) 0 (xs.length - 1) = true := inB_iff.2 ⟨by omega, by omega⟩
  have h3 : inB env (-1) 2 = true := inB_iff.2 ⟨by omega, by omega⟩
  have h4 : (env != -1) = true := by simp; omega
  simp only [giveOk, h1, h2, h3, h4, Bool.true_and, Int.toNat_natCast]
  have e1 : (nth xs a != -1) = !(nth xs a == -1) := rfl
  have e2 : (nth xs a != env) = !(nth xs a == env) := rfl
  rw [e1, e2]
  cases (nth xs a == -1) <;> cases (nth xs a == env) <;> rfl

set_option maxHeartbeats 4000000 in
theorem walkR (v : Value) (bs : List Int) (w : World) (h : RdBytes w v bs) :
    Calls Try.prog 13 #[v] w fun e w' => e = .returned (.bool true) ∧ Below w.heap.size w w' := by
  obtain ⟨a0, c0, hv, hc, hcm, _⟩ := h.open
  subst hv
  unfold maxLen at hcm
  by_cases hs : 1048576 < bs.length
  · go_enter Try.func13, Try.ntmps13
    go_wp2_with fail
    go_ret
    exact ⟨rfl, Below.refl _ _⟩
  go_enter Try.func13, Try.ntmps13
  go_wp2_with fail
  refine (DrawSlicesGive_any _ bs _ h).mono ?_; rintro e w1 ⟨v1, xs, at_, env, rfl, o1, hl, b1⟩
  obtain ⟨a1, c1, rfl, hc1, hcm1, hA⟩ := o1.rd.open
  unfold maxLen at hcm1
  go_wp2_with fail
  refine (SlicesGive_impl _ xs _ _ _ o1.rd).mono ?_; rintro e w2 ⟨v2, rfl, o2, c2⟩
  have b2 := b1.trans (c2.mono b1.size)
  have o1b := o1.below c2
  go_wp2_with fail
  refine (SlicesGive_spec _ xs _ _ _ o1b.rd).mono ?_; rintro e w3 ⟨v3, rfl, o3, c3⟩
  have b3 := b2.trans (c3.mono b2.size)
  have o2b := o2.below c3
  have o1c := o1b.below c3
  generalize hys : giveList xs at_ env = ys at o2b o3
  clear hys o2
  go_wp2_with fail
  refine (sameInts_any _ _ ys ys _ o2b.rd o3.rd).mono ?_; rintro e w4 ⟨rfl, n4, rfl⟩
  have o4 := OwnInts.below o1c (below_drewN (Below.refl _ _) n4)
  have o2d := OwnInts.below o2b (below_drewN (Below.refl _ _) n4)
  have o3d := OwnInts.below o3 (below_drewN (Below.refl _ _) n4)
  have hA4 := (hA.below c2).below c3
  cases h1 : slicesOk xs
  · have H1 := Lib.hid h1; clear h1
    go_wp2_with (first | (go_at_call 16; refine (SlicesValid_spec _ xs _ o4.rd).mono ?_; rintro e w' ⟨rfl, rfl⟩; rw [H1.out]) | (go_at_call 34; refine (sameInts_any _ _ ys ys _ o2d.rd o3d.rd).mono ?_; rintro e w' ⟨rfl, n5, rfl⟩))
    go_ret
    exact ⟨rfl, below_drewN b3 _⟩
  obtain ⟨hl1, hl2⟩ := slicesOk_len h1
  by_cases hr : 0 ≤ at_ ∧ at_ < xs.length ∧ 0 ≤ env ∧ env < 3
  · obtain ⟨hr1, hr2, hr3, hr4⟩ := hr
    obtain ⟨a, rfl⟩ := Int.eq_ofNat_of_zero_le hr1
    have ha : a < xs.length := by omega
    have Hg := Lib.hid (give_taken h1 ha hr3 hr4)
    have H1 := Lib.hid h1; clear h1
    obtain ⟨b, off, rfl, D⟩ := hA4.at ha
    have D : (w3.drewN n4).cell? ⟨b, off + a, none⟩ = some (.int .i64 (nth xs a)) := D
    by_cases q2 : nth xs a = -1
    · have t2 : (nth xs a == -1) = true := by simp [q2]
      have hge : giveOk xs a env = true := by rw [Hg.out]; simp [q2]
      rw [hge]
      clear q2 hge
      go_wp2_with (go_at_call 16; refine (SlicesValid_spec _ xs _ o4.rd).mono ?_; rintro e w' ⟨rfl, rfl⟩; rw [H1.out])
      go_ret
      exact ⟨rfl, below_drewN b3 _⟩
    · have t2 : (nth xs a == -1) = false := by simp [q2]
      have hge : giveOk xs a env = (nth xs a == env) := by rw [Hg.out]; simp [q2]
      rw [hge]
      clear q2 hge
      go_wp2_with (go_at_call 16; refine (SlicesValid_spec _ xs _ o4.rd).mono ?_; rintro e w' ⟨rfl, rfl⟩; rw [H1.out])
      go_ret
      exact ⟨ret_bool (by simp), below_drewN b3 _⟩
  · have H1 := Lib.hid h1; clear h1
    rcases (show at_ < 0 ∨ (0 ≤ at_ ∧ xs.length ≤ at_) ∨ (0 ≤ at_ ∧ at_ < xs.length ∧ env < 0) ∨ (0 ≤ at_ ∧ at_ < xs.length ∧ 0 ≤ env ∧ 3 ≤ env) by omega) with h3 | ⟨h3, h4⟩ | ⟨h3, h4, h5⟩ | ⟨h3, h4, h5, h6⟩
    all_goals
      clear hr
      go_wp2_with (first | (go_at_call 16; refine (SlicesValid_spec _ xs _ o4.rd).mono ?_; rintro e w' ⟨rfl, rfl⟩; rw [H1.out]) | (go_at_call 34; refine (sameInts_any _ _ ys ys _ o2d.rd o3d.rd).mono ?_; rintro e w' ⟨rfl, n5, rfl⟩))
      go_ret
      exact ⟨rfl, below_drewN b3 _⟩
end Go.Proofs.Ytpkbfkolllcjgaa.fnGiveTaken
