/-
  The law laws.FnNextNone returns true for every code. No conditions.
-/
import Derived.Test.YtpkbfkolllcjgaaFn1
namespace Go.Proofs.Ytpkbfkolllcjgaa.fnNextNone
open Go.RowKit
open Go.Proofs.Ytpkbfkolllcjgaa

def anyFree (xs : List Int) (t : Nat) : Bool := (xs.take t).any (· != -1)
theorem anyFree_succ {xs : List Int} {t : Nat} (h : t < xs.length) : anyFree xs (t + 1) = (anyFree xs t || nth xs t != -1) := by
  simp [anyFree, take_nth h]
theorem anyFree_all {xs : List Int} : anyFree xs xs.length = xs.any (· != -1) := by simp [anyFree]

set_option maxHeartbeats 2000000 in
theorem walkR (v : Value) (bs : List Int) (w : World) (h : RdBytes w v bs) :
    Calls Try.prog 8 #[v] w fun e w' => e = .returned (.bool true) ∧ Below w.heap.size w w' := by
  obtain ⟨a0, c0, hv, hc, hcm, _⟩ := h.open
  subst hv
  unfold maxLen at hcm
  by_cases hs : 1048576 < bs.length
  · go_enter Try.func8, Try.ntmps8
    go_wp2_with fail
    go_ret
    exact ⟨rfl, Below.refl _ _⟩
  go_enter Try.func8, Try.ntmps8
  go_wp2_with fail
  refine (DrawSlicesNext_any _ bs _ h).mono ?_; rintro e w1 ⟨v1, xs, at_, rfl, o1, hl, b1⟩
  obtain ⟨a1, c1, rfl, hc1, hcm1, hA⟩ := o1.rd.open
  unfold maxLen at hcm1
  go_wp2_with fail
  refine (SlicesNext_impl _ xs _ _ o1.rd).mono ?_; rintro e w2 ⟨rfl, n2, rfl⟩
  have b2 := below_drewN b1 n2
  have o2 := OwnInts.below o1 (below_drewN (Below.refl _ _) n2)
  cases h1 : slicesOk xs
  · have Hs := Lib.hid (sNext_no (xs := xs) (at_ := at_) (by simp [h1]))
    have H1 := Lib.hid h1; clear h1
    rw [Hs.out]
    go_wp2_with fail
    refine (SlicesNext_spec _ xs _ _ o2.rd).mono ?_; rintro e w3 ⟨rfl, n3, rfl⟩
    rw [Hs.out]
    have o3 := OwnInts.below o1 (below_drewN (Below.refl _ _) (n2 + n3))
    go_wp2_with (go_at_call 16; refine (SlicesValid_spec _ xs _ o3.rd).mono ?_; rintro e w' ⟨rfl, rfl⟩; rw [H1.out])
    go_ret
    exact ⟨rfl, below_drewN b1 _⟩
  by_cases h2 : 0 ≤ at_ ∧ at_ < xs.length
  · obtain ⟨h2, h3⟩ := h2
    obtain ⟨a, rfl⟩ := Int.eq_ofNat_of_zero_le h2
    have ha : a < xs.length := by omega
    obtain ⟨p, q, r, hs2, hr⟩ : ∃ p q r, sNext xs a = .tuple #[.int .i64 p, .int .i64 q, .bool r] ∧ r = xs.any (· != -1) := by
      rw [← next_iff ha]
      by_cases h3 : 0 ≤ nextI xs a
      · exact ⟨_, _, true, sNext_yes h1 ha h3, by simp [h3]⟩
      · exact ⟨0, 0, false, sNext_no (by rw [Int.toNat_natCast]; simp [h3]), by simp [h3]⟩
    have Hs := Lib.hid hs2; clear hs2
    have Hr := Lib.hid hr; clear hr
    have H1 := Lib.hid h1; clear h1
    rw [Hs.out]
    go_wp2_with fail
    refine (SlicesNext_spec _ xs _ _ o2.rd).mono ?_; rintro e w3 ⟨rfl, n3, rfl⟩
    rw [Hs.out]
    have o3 := OwnInts.below o1 (below_drewN (Below.refl _ _) (n2 + n3))
    go_wp2_with (go_at_call 16; refine (SlicesValid_spec _ xs _ o3.rd).mono ?_; rintro e w' ⟨rfl, rfl⟩; rw [H1.out])
    go_loop [11, 12] (fun s k => ∃ t : Nat, t ≤ xs.length ∧ k = .int .i64 t ∧ s = .bool (anyFree xs t)) (fun _ k => xs.length - (intOf k).toNat)
    case atStart => exact ⟨0, Nat.zero_le _, rfl, rfl⟩
    case round =>
      obtain ⟨t, ht, rfl, rfl⟩ := hrel
      by_cases hlt : t < xs.length
      · obtain ⟨b, off, rfl, D⟩ := hA.at hlt
        have Hst := Lib.hid (anyFree_succ hlt)
        cases hb : anyFree xs t
        · have hb' := Lib.hid hb
          go_wp2_with fail
          go_round
          case rel => exact ⟨t + 1, by omega, by go_num, by rw [Hst.out, hb'.out]; rfl⟩
          case measure => simp [intOf]; omega
        · have hb' := Lib.hid hb
          go_wp2_with fail
          go_round
          case rel => exact ⟨t + 1, by omega, by go_num, by rw [Hst.out, hb'.out]; rfl⟩
          case measure => simp [intOf]; omega
      · obtain rfl : xs.length = t := by omega
        go_wp2_with fail
        go_ret
        exact ⟨ret_bool (by rw [Hr.out, anyFree_all]; simp), below_drewN b1 _⟩
  · have Hs := Lib.hid (sNext_no (xs := xs) (at_ := at_) (by
      rintro ⟨_, q2, _⟩
      have := inB_iff.1 q2
      omega))
    have H1 := Lib.hid h1; clear h1
    rw [Hs.out]
    go_wp2_with fail
    refine (SlicesNext_spec _ xs _ _ o2.rd).mono ?_; rintro e w3 ⟨rfl, n3, rfl⟩
    rw [Hs.out]
    have o3 := OwnInts.below o1 (below_drewN (Below.refl _ _) (n2 + n3))
    rcases (show at_ < 0 ∨ (0 ≤ at_ ∧ xs.length ≤ at_) by omega) with h3 | ⟨h3, h4⟩
    all_goals
      clear h2
      go_wp2_with (go_at_call 16; refine (SlicesValid_spec _ xs _ o3.rd).mono ?_; rintro e w' ⟨rfl, rfl⟩; rw [H1.out])
      go_ret
      exact ⟨rfl, below_drewN b1 _⟩
end Go.Proofs.Ytpkbfkolllcjgaa.fnNextNone
