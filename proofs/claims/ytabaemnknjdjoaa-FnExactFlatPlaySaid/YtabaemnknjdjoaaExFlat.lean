/-
  The law laws.FnExactFlatPlay returns true for every list of steps. No conditions.
-/
import Derived.Test.YtabaemnknjdjoaaStep6
import Derived.Test.YtabaemnknjdjoaaFlat3
set_option linter.unusedVariables false
namespace Go.Proofs.Ytabaemnknjdjoaa.fnExactFlatPlay
open Go.RowKit
open Go.Proofs.Ytabaemnknjdjoaa

theorem dec_self (xs : List Int) : decide (xs = xs) = true := by simp

theorem ownSteps_below {lo : Nat} {w w' : World} {v : Value} {ss : List StepV} (h : OwnSteps lo w v ss) (hb : Below w.heap.size w w') : OwnSteps lo w' v ss := ownsRow_below h hb

theorem flatOut_len {ss : List StepV} (hs : ss.length ≤ 1048576) : (flatOut ss).length ≤ 1048576 := by
  unfold flatOut; split
  · have := flatRun_out ss; omega
  · simp

set_option maxRecDepth 100000 in
set_option maxHeartbeats 4000000 in
theorem walkR (v : Value) (ss : List StepV) (w : World) (h : RdSteps w v ss) :
    Calls Try.prog 6 #[v] w fun e w' => e = .returned (.bool true) ∧ Below w.heap.size w w' := by
  go_enter Try.func6, Try.ntmps6
  go_wp2_with fail
  refine (szStepS_any v ss _ _ h (by decide) (by decide)).mono ?_; rintro e w0 ⟨⟨r, rfl, hr⟩, b0⟩
  by_cases h0 : r < 0
  · go_wp2_with fail
    go_ret
    exact ⟨rfl, b0⟩
  have hs := hr (by omega)
  clear hr
  obtain ⟨ys, hys⟩ : ∃ ys, ys = flatOut ss := ⟨_, rfl⟩
  have hyl : ys.length ≤ 1048576 := by rw [hys]; exact flatOut_len hs
  have Hys := Lib.hid hys; clear hys
  go_wp2_with fail
  refine (toStepS_any v ss _ (Rd.below h b0) hs).mono ?_; rintro e w1 ⟨v1, rfl, o1, c1⟩
  have b1 := b0.trans (c1.mono b0.size)
  go_wp2_with fail
  refine (FlatPlay_spec v1 ss _ o1.rd).mono ?_; rintro e w2 ⟨v2, rfl, o2, c2⟩; rw [← Hys.out] at o2
  have b2 := b1.trans (c2.mono b1.size)
  have l2 := o2.lt
  clear o1
  go_wp2_with fail
  refine (toStepS_any v ss _ (Rd.below h b2) hs).mono ?_; rintro e w3 ⟨v3, rfl, o3, c3⟩
  have b3 := b2.trans (c3.mono b2.size)
  have o2 := o2.below c3
  have l3 := World.ownsRow.lt o3
  go_wp2_with fail
  refine (FlatPlay_impl v3 ss _ o3.rd).mono ?_; rintro e w4 ⟨v4, rfl, o4, c4⟩; rw [← Hys.out] at o4
  have b4 := b3.trans (c4.mono b3.size)
  have o2 := o2.below c4
  have o3 := ownSteps_below o3 c4
  have l4 := o4.lt
  go_wp2_with fail
  refine (eqIntS_any _ _ ys ys _ o4.rd o2.rd).mono ?_; rintro e w5 ⟨rfl, n5, rfl⟩
  have b5 := below_drewN b4 n5
  have c5 := below_drewN (Below.refl w4.heap.size w4) n5
  have o2 := o2.below c5
  have o3 := ownSteps_below o3 c5
  have o4 := o4.below c5
  go_wp2_with fail
  refine (toStepS_any v ss _ (Rd.below h b5) hs).mono ?_; rintro e w6 ⟨v6, rfl, o6, c6⟩
  have b6 := b5.trans (c6.mono b5.size)
  have o2 := o2.below c6
  have o3 := ownSteps_below o3 c6
  have o4 := o4.below c6
  go_wp2_with fail
  refine (eqStepS_same _ _ ss _ o3.rd o6.rd).mono ?_; rintro e w7 ⟨rfl, c7⟩
  have b7 := b6.trans (c7.mono b6.size)
  have o2 := o2.below c7
  have o3 := ownSteps_below o3 c7
  have o4 := o4.below c7
  clear o6
  go_wp2_with fail
  refine (markStepS_any _ _ ss 1 _ o3 hs (by decide) (by decide)).mono ?_; rintro e w8 ⟨rfl, g8⟩
  have b8 := b7.grown g8 b7.size (fun k hk => Nat.le_trans b2.size (l3 k hk).1)
  have o2 := own_kept o2 g8 (apart_lt (fun k hk => (l2 k hk).2) (fun k hk => (l3 k hk).1))
  have o4 := own_kept o4 g8 (apart_gt (fun k hk => (l4 k hk).1) (fun k hk => (l3 k hk).2))
  clear o3
  go_wp2_with fail
  refine (eqIntS_any _ _ ys ys _ o4.rd o2.rd).mono ?_; rintro e w9 ⟨rfl, n9, rfl⟩
  have b9 := below_drewN b8 n9
  have c9 := below_drewN (Below.refl w8.heap.size w8) n9
  have o2 := o2.below c9
  have o4 := o4.below c9
  go_wp2_with fail
  refine (markIntS_any _ _ ys 1 _ o4 hyl (by decide) (by decide)).mono ?_; rintro e w10 ⟨ns, rfl, nl, nn, o4', g10⟩
  have b10 := b9.grown g10 b9.size (fun k hk => Nat.le_trans b3.size (l4 k hk).1)
  have o2 := own_kept o2 g10 (apart_lt (B := w3.heap.size) (fun k hk => Nat.lt_of_lt_of_le (l2 k hk).2 c3.size) (fun k hk => (l4 k hk).1))
  have Nl := Lib.hid nl; clear nl
  have Nn := Lib.hid nn; clear nn
  go_wp2_with fail
  refine (heldIntS_any _ ns 1 _ o4'.rd (by rw [Nl.out]; exact hyl) (by decide) (by decide) (fun j hj => Nn.out j (by rw [← Nl.out]; exact hj))).mono ?_; rintro e w11 ⟨rfl, rfl⟩; rw [Nl.out]
  go_wp2_with fail
  refine (toStepS_any v ss _ (Rd.below h b10) hs).mono ?_; rintro e w11 ⟨v11, rfl, o11, c11⟩
  have b11 := b10.trans (c11.mono b10.size)
  have o2 := o2.below c11
  have o4' := o4'.below c11
  go_wp2_with fail
  refine (FlatPlay_impl v11 ss _ o11.rd).mono ?_; rintro e w12 ⟨v12, rfl, o12, c12⟩; rw [← Hys.out] at o12
  have b12 := b11.trans (c12.mono b11.size)
  have o2 := o2.below c12
  have o4' := o4'.below c12
  go_wp2_with fail
  refine (eqIntS_any _ _ ys ys _ o12.rd o2.rd).mono ?_; rintro e w13 ⟨rfl, n13, rfl⟩
  have b13 := below_drewN b12 n13
  have o4' := o4'.below (below_drewN (Below.refl w12.heap.size w12) n13)
  go_wp2_with fail
  refine (heldIntS_any _ ns 1 _ o4'.rd (by rw [Nl.out]; exact hyl) (by decide) (by decide) (fun j hj => Nn.out j (by rw [← Nl.out]; exact hj))).mono ?_; rintro e w14 ⟨rfl, rfl⟩; rw [Nl.out]
  go_wp2_with fail
  go_ret
  exact ⟨rfl, b13⟩
end Go.Proofs.Ytabaemnknjdjoaa.fnExactFlatPlay
