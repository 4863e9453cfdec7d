/-
  The law laws.FnUnpack returns true for every code. No conditions.
-/
import Derived.Test.YtabaemnknjdjoaaPack4
namespace Go.Proofs.Ytabaemnknjdjoaa.fnUnpack
open Go.RowKit
open Go.Proofs.Ytabaemnknjdjoaa

theorem unpackI_facts {ps : List Int} (h : (unpackI ps).2 = true) : wordsOk (unpackI ps).1 = true ∧ packL (unpackI ps).1 = ps := by
  unfold unpackI at h ⊢
  split at h
  · rename_i hc
    rw [if_pos hc]
    exact ⟨hc.2.2.2.1, by rw [packL_yes hc.2.2.2.1]; exact hc.2.2.2.2⟩
  · simp at h

theorem dec_self (xs : List Int) : decide (xs = xs) = true := by simp

set_option maxHeartbeats 4000000 in
theorem walkR (v : Value) (bs : List Int) (w : World) (h : RdBytes w v bs) :
    Calls Try.prog 4 #[v] w fun e w' => e = .returned (.bool true) ∧ Below w.heap.size w w' := by
  obtain ⟨a0, c0, hv, hc, hcm, _⟩ := h.open
  subst hv
  unfold maxLen at hcm
  by_cases hs : 1048576 < bs.length
  · go_enter Try.func4, Try.ntmps4
    go_wp2_with fail
    go_ret
    exact ⟨rfl, Below.refl _ _⟩
  go_enter Try.func4, Try.ntmps4
  go_wp2_with fail
  refine (DrawPageUnpack_any _ bs _ h).mono ?_; rintro e w1 ⟨v1, ps, rfl, o1, hl, b1⟩
  go_wp2_with fail
  refine (PageUnpack_impl _ ps _ o1.rd).mono ?_; rintro e w2 ⟨v2, rfl, o2, c2⟩
  have b2 := b1.trans (c2.mono b1.size)
  have o1b := o1.below c2
  go_wp2_with fail
  refine (PageUnpack_spec _ ps _ o1b.rd (by omega)).mono ?_; rintro e w3 ⟨v3, rfl, o3, c3⟩
  have b3 := b2.trans (c3.mono b2.size)
  have o2b := o2.below c3
  have o1c := o1b.below c3
  rw [← unpack_eq] at o3
  rw [← unpack_eq]
  have hf := unpackI_facts (ps := ps)
  generalize unpackI ps = X at o2b o3 hf o2 ⊢
  obtain ⟨xs, ok⟩ := X
  dsimp only at o2b o3 hf o2 ⊢
  clear o2 o1 o1b c2 c3 b1 b2
  cases ok
  · clear hf
    go_wp2_with (first | (go_at_call 17; refine (sameInts_any _ _ _ _ _ o2b.rd o3.rd).mono ?_; rintro e w4 ⟨rfl, n, rfl⟩; rw [dec_self]) | (go_at_call 17; refine (sameInts_any _ _ _ _ _ (RdInts.drewN o2b.rd _) (RdInts.drewN o3.rd _)).mono ?_; rintro e w4 ⟨rfl, n2, rfl⟩; rw [dec_self]))
    go_ret
    exact ⟨rfl, below_drewN b3 _⟩
  · have Hw := Lib.hid (hf rfl).1
    have Hp := Lib.hid (hf rfl).2
    clear hf
    go_wp2_with fail
    refine (sameInts_any _ _ _ _ _ o2b.rd o3.rd).mono ?_; rintro e w4 ⟨rfl, n, rfl⟩; rw [dec_self]
    go_wp2_with fail
    refine (PagePack_impl _ _ _ (RdInts.drewN o2b.rd _)).mono ?_; rintro e w4 ⟨v4, rfl, o4, c4⟩; rw [Hw.out]; rw [Hp.out] at o4
    have o1d : OwnInts w.heap.size w4 v1 ps := OwnInts.below (w := w3.drewN n) (w' := w4) o1c c4
    have b4 : Below w.heap.size w w4 := (below_drewN b3 n).trans (c4.mono (below_drewN b3 n).size)
    clear o2b o3 o1c c4 b3 Hw Hp
    go_wp2_with fail
    refine (sameInts_any _ _ _ _ _ o4.rd o1d.rd).mono ?_; rintro e w5 ⟨rfl, n2, rfl⟩; rw [dec_self]
    go_wp2_with fail
    go_ret
    exact ⟨rfl, below_drewN b4 _⟩
end Go.Proofs.Ytabaemnknjdjoaa.fnUnpack
