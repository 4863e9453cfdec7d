/-
  The law laws.FnGiveSlice returns true for every code. No conditions.
-/
import Derived.Test.YtpkbfkolllcjgaaFn1
namespace Go.Proofs.Ytpkbfkolllcjgaa.fnGiveSlice
open Go.RowKit
open Go.Proofs.Ytpkbfkolllcjgaa

theorem give_facts {xs : List Int} {at_ env : Int} (h : giveOk xs at_ env = true) : ∃ a : Nat, at_ = a ∧ a < xs.length ∧ giveList xs a env = xs.set a env ∧ giveOk (xs.set a env) a env = true ∧ giveList (xs.set a env) a env = xs.set a env ∧ nth (xs.set a env) a = env := by
  have h' := h
  simp only [giveOk, Bool.and_eq_true] at h'
  obtain ⟨⟨⟨h1, h2⟩, h3⟩, _⟩ := h'
  obtain ⟨ha0, ha1⟩ := inB_iff.1 h2
  obtain ⟨a, rfl⟩ := Int.eq_ofNat_of_zero_le ha0
  have ha : a < xs.length := by omega
  have hn : nth (xs.set a env) a = env := by rw [nth_set ha, if_pos rfl]
  have hok : slicesOk (xs.set a env) = true := by
    rw [slicesOk_good]
    · rw [List.length_set]
      simp only [slicesOk, Bool.and_eq_true] at h1
      exact h1.1
    · intro j hj
      rw [List.length_set] at hj
      rw [nth_set ha]
      split
      · exact h3
      · simp only [slicesOk, Bool.and_eq_true, List.all_eq_true] at h1
        rw [nth_eq hj]
        exact h1.2 _ (List.getElem_mem hj)
  have h2' : inB (a : Int) 0 ((xs.set a env).length - 1) = true := by rw [List.length_set]; exact h2
  have hg2 : giveOk (xs.set a env) a env = true := giveOk_yes hok h2' h3 (by rw [hn]; exact fun hh => hh.2.2 rfl)
  exact ⟨a, rfl, ha, giveList_yes h, hg2, by rw [giveList_yes hg2, List.set_set], hn⟩

set_option maxHeartbeats 4000000 in
theorem walkR (v : Value) (bs : List Int) (w : World) (h : RdBytes w v bs) :
    Calls Try.prog 12 #[v] w fun e w' => e = .returned (.bool true) ∧ Below w.heap.size w w' := by
  obtain ⟨a0, c0, hv, hc, hcm, _⟩ := h.open
  subst hv
  unfold maxLen at hcm
  by_cases hs : 1048576 < bs.length
  · go_enter Try.func12, Try.ntmps12
    go_wp2_with fail
    go_ret
    exact ⟨rfl, Below.refl _ _⟩
  go_enter Try.func12, Try.ntmps12
  go_wp2_with fail
  refine (DrawSlicesGive_any _ bs _ h).mono ?_; rintro e w1 ⟨v1, xs, at_, env, rfl, o1, hl, b1⟩
  obtain ⟨a1, c1, rfl, hc1, hcm1, hA⟩ := o1.rd.open
  unfold maxLen at hcm1
  go_wp2_with fail
  refine (SlicesGive_impl _ xs _ _ _ o1.rd).mono ?_; rintro e w2 ⟨v2, rfl, o2, c2⟩
  have b2 := b1.trans (c2.mono b1.size)
  have o1b := o1.below c2
  go_wp2_with fail
  refine (SlicesGive_spec _ xs _ _ _ o1b.rd).mono ?_; rintro e w3 ⟨v3, rfl, o3, c3⟩
  have b3 := b2.trans (c3.mono b2.size)
  have o2b := o2.below c3
  have o1c := o1b.below c3
  obtain ⟨ys, hys⟩ : ∃ ys, ys = giveList xs at_ env := ⟨_, rfl⟩
  rw [← hys] at o2b o3
  clear o2
  cases hg : giveOk xs at_ env
  · clear hys
    go_wp2_with fail
    refine (sameInts_any _ _ ys ys _ o2b.rd o3.rd).mono ?_; rintro e w4 ⟨rfl, n4, rfl⟩
    have o2d := OwnInts.below o2b (below_drewN (Below.refl _ _) n4)
    have o3d := OwnInts.below o3 (below_drewN (Below.refl _ _) n4)
    have Hg := Lib.hid hg; clear hg
    go_wp2_with (go_at_call 34; refine (sameInts_any _ _ ys ys _ o2d.rd o3d.rd).mono ?_; rintro e w' ⟨rfl, n5, rfl⟩)
    go_ret
    exact ⟨rfl, below_drewN b3 _⟩
  obtain ⟨a, hat, ha, hys2, hag, hag2, hnth⟩ := give_facts hg
  subst hat
  rw [hys2] at hys
  have hyl : ys.length ≤ xs.length ∧ xs.length ≤ ys.length := by rw [hys, List.length_set]; exact ⟨Nat.le_refl _, Nat.le_refl _⟩
  rw [← hys] at hag hag2 hnth
  have Hg := Lib.hid hg; clear hg
  have Hys := Lib.hid hys; clear hys
  have Hag := Lib.hid hag; clear hag
  have Hag2 := Lib.hid hag2; clear hag2 hys2
  have o1d := OwnInts.below o1c (below_drewN (Below.refl _ _) 0)
  go_wp2_with fail
  refine (sameInts_any _ _ ys ys _ o2b.rd o3.rd).mono ?_; rintro e w4 ⟨rfl, n4, rfl⟩
  have o2d := OwnInts.below o2b (below_drewN (Below.refl _ _) n4)
  have o1d := OwnInts.below o1c (below_drewN (Below.refl _ _) n4)
  have b4 := below_drewN b3 n4
  go_wp2_with fail
  refine (SlicesGive_impl _ ys _ _ _ o2d.rd).mono ?_; rintro e w5 ⟨v5, rfl, o5, c5⟩
  rw [Hag.out]
  rw [Hag2.out] at o5
  have b5 := b4.trans (c5.mono b4.size)
  have o2e := o2d.below c5
  have o1e := o1d.below c5
  obtain ⟨a2, cc2, rfl, hcc2, hccm2, hB⟩ := o2e.rd.open
  unfold maxLen at hccm2
  have hA := (hA.below c2).below c3
  have hA := (hA.below (below_drewN (Below.refl _ _) n4)).below c5
  go_wp2_with fail
  go_loopw [12] (fun i wr => ∃ t : Nat, t ≤ xs.length ∧ i = .int .i64 t ∧ ∃ n, wr = w5.drewN n) (fun i _ => xs.length - (intOf i).toNat)
  case atStart => exact ⟨0, Nat.zero_le _, rfl, 0, rfl⟩
  case round =>
    obtain ⟨t, ht, rfl, n, rfl⟩ := hrel
    by_cases hlt : t < xs.length
    · have hlt2 : t < ys.length := by omega
      obtain ⟨b, off, rfl, D⟩ := hA.at hlt
      obtain ⟨b', off', rfl, E⟩ := hB.at hlt2
      by_cases hta : t = a
      · subst hta
        have hd : ((t : Int) != t) = false := by simp
        clear hnth
        go_wp2_with fail
        go_quiet (fail)
        go_wp2_with fail
        go_roundw
        case rel => exact ⟨t + 1, by omega, by go_num, _, rfl⟩
        case measure => simp [intOf]; omega
      · have hd : ((t : Int) != a) = true := by simp; omega
        have hn : nth ys t = nth xs t := by rw [Hys.out, nth_set ha, if_neg hta]
        rw [hn] at E
        clear hn hnth
        have hz : (nth xs t != nth xs t) = false := by simp
        go_wp2_with fail
        go_quiet (fail)
        go_wp2_with fail
        go_roundw
        case rel => exact ⟨t + 1, by omega, by go_num, _, rfl⟩
        case measure => simp [intOf]; omega
    · obtain ⟨b', off', rfl, E⟩ := hB.at (k := a) (by omega)
      rw [hnth] at E
      have hlen : ((ys.length : Int) == xs.length) = true := by simp; omega
      have o2f := OwnInts.below o2e (below_drewN (Below.refl _ _) n)
      have o5f := OwnInts.below o5 (below_drewN (Below.refl _ _) n)
      clear hnth
      go_wp2_with (go_at_call 34; refine (sameInts_any _ _ ys ys _ o5f.rd o2f.rd).mono ?_; rintro e w' ⟨rfl, n5, rfl⟩)
      go_ret
      exact ⟨rfl, below_drewN b5 _⟩
end Go.Proofs.Ytpkbfkolllcjgaa.fnGiveSlice
