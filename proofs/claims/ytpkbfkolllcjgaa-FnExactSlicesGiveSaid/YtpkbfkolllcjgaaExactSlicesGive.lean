/-
  The program's SlicesGive answers as the reference's does, for all arguments, and shares no memory with them. No conditions.
-/
import Derived.Test.YtpkbfkolllcjgaaEx1
namespace Go.Proofs.Ytpkbfkolllcjgaa.fnExactSlicesGive
open Go.RowKit
open Go.Proofs.Ytpkbfkolllcjgaa

set_option maxHeartbeats 2000000 in
theorem walkR (v : Value) (xs : List Int) (at_ env : Int) (w : World) (h : RdInts w v xs) :
    Calls Try.prog 6 #[v, .int .i64 at_, .int .i64 env] w fun e w' => e = .returned (.bool true) ∧ Below w.heap.size w w' := by
  obtain ⟨a, c, hv, hc, hcm, H0⟩ := h.open
  subst hv
  unfold maxLen at hcm
  by_cases hs : xs.length ≤ 1048576
  · have hs' : ¬ (1048576 < xs.length) := by omega
    obtain ⟨ys, hys⟩ : ∃ ys, ys = giveList xs at_ env := ⟨_, rfl⟩
    have hyl : ys.length ≤ 1048576 := by rw [hys]; exact giveList_len hs
    have Hys := Lib.hid hys; clear hys
    go_enter Try.func6, Try.ntmps6
    go_wp2_with fail
    refine (toIntS_any _ xs _ h hs).mono ?_; rintro e w1 ⟨v1, rfl, o1, b1⟩
    go_wp2_with fail
    refine (SlicesGive_spec _ xs at_ env _ o1.rd).mono ?_; rintro e w2 ⟨v2, rfl, o2, c2⟩; rw [← Hys.out] at o2
    have b2 := b1.trans (c2.mono b1.size)
    have l2 := o2.lt
    go_wp2_with fail
    refine (toIntS_any _ xs _ (h.below b2) hs).mono ?_; rintro e w3 ⟨v3, rfl, o3, c3⟩
    have b3 := b2.trans (c3.mono b2.size)
    have o2 := o2.below c3
    have l3 := o3.lt
    go_wp2_with fail
    refine (SlicesGive_impl _ xs at_ env _ o3.rd).mono ?_; rintro e w4 ⟨v4, rfl, o4, c4⟩; rw [← Hys.out] at o4
    have b4 := b3.trans (c4.mono b3.size)
    have o2 := o2.below c4
    have o3 := o3.below c4
    have l4 := o4.lt
    go_wp2_with fail
    refine (eqIntS_any _ _ ys ys _ o4.rd o2.rd).mono ?_; rintro e w5 ⟨rfl, n5, rfl⟩
    have b5 := below_drewN b4 n5
    have c5 := below_drewN (Below.refl w4.heap.size w4) n5
    have o2 := o2.below c5
    have o3 := o3.below c5
    have o4 := o4.below c5
    go_wp2_with fail
    refine (toIntS_any _ xs _ (h.below b5) hs).mono ?_; rintro e w6 ⟨v6, rfl, o6, c6⟩
    have b6 := b5.trans (c6.mono b5.size)
    have o2 := o2.below c6
    have o3 := o3.below c6
    have o4 := o4.below c6
    go_wp2_with fail
    refine (eqIntS_any _ _ xs xs _ o3.rd o6.rd).mono ?_; rintro e w7 ⟨rfl, n7, rfl⟩
    have b7 := below_drewN b6 n7
    have c7 := below_drewN (Below.refl w6.heap.size w6) n7
    have o2 := o2.below c7
    have o3 := o3.below c7
    have o4 := o4.below c7
    go_wp2_with fail
    refine (markIntS_any _ _ xs 1 _ o3 hs (by decide) (by decide)).mono ?_; rintro e w8 ⟨ms, rfl, ml, mn, o3', g8⟩
    have b8 := b7.grown g8 b7.size (fun k hk => Nat.le_trans b2.size (l3 k hk).1)
    have o2 := own_kept o2 g8 (apart_lt (fun k hk => (l2 k hk).2) (fun k hk => (l3 k hk).1))
    have o4 := own_kept o4 g8 (apart_gt (fun k hk => (l4 k hk).1) (fun k hk => (l3 k hk).2))
    have Ml := Lib.hid ml; clear ml
    have Mn := Lib.hid mn; clear mn
    go_wp2_with fail
    refine (eqIntS_any _ _ ys ys _ o4.rd o2.rd).mono ?_; rintro e w9 ⟨rfl, n9, rfl⟩
    have b9 := below_drewN b8 n9
    have c9 := below_drewN (Below.refl w8.heap.size w8) n9
    have o2 := o2.below c9
    have o4 := o4.below c9
    go_wp2_with fail
    refine (markIntS_any _ _ ys 1 _ o4 hyl (by decide) (by decide)).mono ?_; rintro e w10 ⟨ns, rfl, nl, nn, o4', g10⟩
    have b10 := b9.grown g10 b9.size (fun k hk => Nat.le_trans b3.size (l4 k hk).1)
    have o2 := own_kept o2 g10 (apart_lt (B := w3.heap.size) (fun k hk => Nat.lt_of_lt_of_le (l2 k hk).2 c3.size) (fun k hk => (l4 k hk).1))
    have Nl := Lib.hid nl; clear nl
    have Nn := Lib.hid nn; clear nn
    go_wp2_with fail
    refine (heldIntS_any _ ns 1 _ o4'.rd (by rw [Nl.out]; exact hyl) (by decide) (by decide) (fun j hj => Nn.out j (by rw [← Nl.out]; exact hj))).mono ?_; rintro e w11 ⟨rfl, rfl⟩; rw [Nl.out]
    go_wp2_with fail
    refine (toIntS_any _ xs _ (h.below b10) hs).mono ?_; rintro e w11 ⟨v11, rfl, o11, c11⟩
    have b11 := b10.trans (c11.mono b10.size)
    have o2 := o2.below c11
    have o4' := o4'.below c11
    go_wp2_with fail
    refine (SlicesGive_impl _ xs at_ env _ o11.rd).mono ?_; rintro e w12 ⟨v12, rfl, o12, c12⟩; rw [← Hys.out] at o12
    have b12 := b11.trans (c12.mono b11.size)
    have o2 := o2.below c12
    have o4' := o4'.below c12
    go_wp2_with fail
    refine (eqIntS_any _ _ ys ys _ o12.rd o2.rd).mono ?_; rintro e w13 ⟨rfl, n13, rfl⟩
    have b13 := below_drewN b12 n13
    have o4' := o4'.below (below_drewN (Below.refl w12.heap.size w12) n13)
    go_wp2_with fail
    refine (heldIntS_any _ ns 1 _ o4'.rd (by rw [Nl.out]; exact hyl) (by decide) (by decide) (fun j hj => Nn.out j (by rw [← Nl.out]; exact hj))).mono ?_; rintro e w14 ⟨rfl, rfl⟩; rw [Nl.out]
    go_wp2_with fail
    go_ret
    exact ⟨rfl, b13⟩
  · have hs' : 1048576 < xs.length := by omega
    go_enter Try.func6, Try.ntmps6
    go_wp2_with fail
    go_ret
    exact ⟨rfl, Below.refl _ _⟩
end Go.Proofs.Ytpkbfkolllcjgaa.fnExactSlicesGive
