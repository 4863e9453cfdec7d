/-
  The law laws.FnRun returns true for every code. No conditions.
-/
import Derived.Test.YtpkbfkolllcjgaaFn1
import Derived.Deep.RegionWith
namespace Go.Proofs.Ytpkbfkolllcjgaa.fnRun
open Go.RowKit
open Go.Proofs.Ytpkbfkolllcjgaa

theorem run_facts {xs ys : List Int} {at_ many : Int} (hys : ys = sRun xs at_ many) (hne : ¬ ys.length = 0) :
    ∃ a m : Nat, at_ = a ∧ many = ys.length ∧ ys.length = m + 1 ∧ a < xs.length ∧ slicesOk xs = true ∧ 0 ≤ nextI xs a ∧ m + 1 ≤ 100 ∧
      ys = nth xs (nextI xs a).toNat :: (runTo xs (nextI xs a).toNat m).2 ∧ sRun xs (nextI xs a) m = (runTo xs (nextI xs a).toNat m).2 := by
  cases hok : runOk xs at_ many
  · rw [sRun_no hok] at hys; subst hys; simp at hne
  have hok' := hok
  simp only [runOk, Bool.and_eq_true, decide_eq_true_eq] at hok'
  obtain ⟨⟨⟨q1, q2⟩, q3⟩, q4⟩ := hok'
  obtain ⟨ha0, ha1⟩ := inB_iff.1 q2
  obtain ⟨a, rfl⟩ := Int.eq_ofNat_of_zero_le ha0
  obtain ⟨hm0, hm1⟩ := inB_iff.1 q3
  obtain ⟨k, rfl⟩ := Int.eq_ofNat_of_zero_le hm0
  rw [sRun_yes hok] at hys
  rw [Int.toNat_natCast] at q4
  have hk : k = ys.length := by rw [hys, runTo_len]
  obtain ⟨m, rfl⟩ : ∃ m, k = m + 1 := ⟨k - 1, by omega⟩
  have hlt := nextI_lt q4
  refine ⟨a, m, rfl, by rw [hk], hk.symm, by omega, q1, q4, by omega, by rw [hys, runTo_cons], ?_⟩
  have hP : nextI xs a = ((nextI xs a).toNat : Int) := (Int.toNat_of_nonneg q4).symm
  have hok2 : runOk xs ((nextI xs a).toNat : Int) m = true := by
    have e2 : inB ((nextI xs a).toNat : Int) 0 (xs.length - 1) = true := inB_iff.2 ⟨by omega, by omega⟩
    have e3 : inB (m : Int) 0 100 = true := inB_iff.2 ⟨by omega, by omega⟩
    have e4 : 0 ≤ nextI xs (nextI xs a).toNat := nextI_any hlt.1 q4
    simp only [runOk, q1, e2, e3, Int.toNat_natCast, e4, decide_true, Bool.and_self]
  have h := sRun_yes hok2
  rw [Int.toNat_of_nonneg q4] at h
  exact h

theorem own_tail {lo : Nat} {w : World} {g cap : Nat} {y : Int} {ys zs : List Int} (h : OwnInts lo w (.slice (some ⟨g, 0, none⟩) ys.length cap) ys) (hy : ys = y :: zs) :
    RdInts w (.slice (some ⟨g, 1, none⟩) (ys.length - 1) (cap - 1)) zs ∧ (cap = 1 → RdInts w (.slice (some ⟨g, 0, none⟩) (ys.length - 1) (cap - 1)) zs) ∧ w.cell? ⟨g, 0, none⟩ = some (.int .i64 y) ∧ ys.length ≤ cap ∧ cap ≤ maxLen := by
  subst hy
  have hcell : ∀ j, j < (y :: zs).length → w.cell? ⟨g, j, none⟩ = ((y :: zs).map (Value.int .i64))[j]? := fun j hj => World.ownsRow.cellAt h j (by omega)
  obtain ⟨hl, h'⟩ := h
  rcases h' with ⟨h1, _⟩ | ⟨g', cap', cur, h1, hb, hg, hnc, hcm, _⟩
  · simp at h1
  simp only [Value.slice.injEq, Option.some.injEq, Addr.mk.injEq, and_true, true_and] at h1
  obtain ⟨rfl, rfl⟩ := h1
  simp only [List.length_cons] at hnc hcell ⊢
  rw [Nat.add_sub_cancel]
  refine ⟨⟨_, _, rfl, by omega, by omega, by simp, by simp, fun hn => ⟨g, 1, rfl, fun j hj => ?_⟩⟩, fun hc => ⟨_, _, rfl, by omega, by omega, by simp, by simp, fun hn => by omega⟩, ?_, by omega, hcm⟩
  · rw [Nat.add_comm, hcell (j + 1) (by omega)]
    simp
  · rw [hcell 0 (by omega)]
    simp

set_option maxHeartbeats 4000000 in
theorem walkR (v : Value) (bs : List Int) (w : World) (h : RdBytes w v bs) :
    Calls Try.prog 14 #[v] w fun e w' => e = .returned (.bool true) ∧ Below w.heap.size w w' := by
  obtain ⟨a0, c0, hv, hc, hcm, _⟩ := h.open
  subst hv
  unfold maxLen at hcm
  by_cases hs : 1048576 < bs.length
  · go_enter Try.func14, Try.ntmps14
    go_wp2_with fail
    go_ret
    exact ⟨rfl, Below.refl _ _⟩
  go_enter Try.func14, Try.ntmps14
  go_wp2_with fail
  refine (DrawSlicesRun_any _ bs _ h).mono ?_; rintro e w1 ⟨v1, xs, at_, many, rfl, o1, hl, b1⟩
  obtain ⟨a1, c1, rfl, hc1, hcm1, hA⟩ := o1.rd.open
  unfold maxLen at hcm1
  go_wp2_with fail
  refine (SlicesRun_impl _ xs _ _ _ o1.rd).mono ?_; rintro e w2 ⟨v2, rfl, o2, c2⟩
  have b2 := b1.trans (c2.mono b1.size)
  have o1b := o1.below c2
  go_wp2_with fail
  refine (SlicesRun_spec _ xs _ _ _ o1b.rd).mono ?_; rintro e w3 ⟨v3, rfl, o3, c3⟩
  have b3 := b2.trans (c3.mono b2.size)
  have o2b := o2.below c3
  have o1c := o1b.below c3
  obtain ⟨ys, hys⟩ : ∃ ys, ys = sRun xs at_ many := ⟨_, rfl⟩
  rw [← hys] at o2b o3
  clear o2
  obtain ⟨a3, c3', rfl, hc3, hcm3, hC⟩ := o3.rd.open
  unfold maxLen at hcm3
  by_cases hne : ys.length = 0
  · have hne' : ((ys.length : Int) == 0) = true := by simp [hne]
    clear hne hys
    go_wp2_with fail
    refine (sameInts_any _ _ ys ys _ o2b.rd o3.rd).mono ?_; rintro e w4 ⟨rfl, n4, rfl⟩
    have o2d := OwnInts.below o2b (below_drewN (Below.refl _ _) n4)
    have o3d := OwnInts.below o3 (below_drewN (Below.refl _ _) n4)
    go_wp2_with (go_at_call 34; refine (sameInts_any _ _ ys ys _ o2d.rd o3d.rd).mono ?_; rintro e w' ⟨rfl, n5, rfl⟩)
    go_ret
    exact ⟨rfl, below_drewN b3 _⟩
  have hne' : ((ys.length : Int) == 0) = false := by simp [hne]
  obtain ⟨a, m, hat, hmany, hym, ha, hok, hn0, hm100, hcons, htail⟩ := run_facts hys hne
  subst hat
  have Hmany := Lib.hid hmany; clear hmany
  clear hne hys
  obtain ⟨P, hP⟩ : ∃ P : Nat, nextI xs a = P := Int.eq_ofNat_of_zero_le hn0
  have Hs := Lib.hid (sNext_yes hok ha hn0)
  rw [hP, Int.toNat_natCast] at hcons htail
  obtain ⟨zs, hzs⟩ : ∃ zs, zs = (runTo xs P m).2 := ⟨_, rfl⟩
  rw [← hzs] at hcons htail
  have hzl : zs.length = m := by rw [hzs, runTo_len]
  clear hzs hn0 hok
  have HP := Lib.hid hP; clear hP
  have Ht := Lib.hid htail; clear htail
  have Hc := Lib.hid hcons; clear hcons
  have Hzl := Lib.hid hzl; clear hzl
  have hy1 : ys.length ≤ m + 1 := by omega
  have hy2 : m + 1 ≤ ys.length := by omega
  clear hym
  go_wp2_with fail
  refine (sameInts_any _ _ ys ys _ o2b.rd o3.rd).mono ?_; rintro e w4 ⟨rfl, n4, rfl⟩
  have o2d := OwnInts.below o2b (below_drewN (Below.refl _ _) n4)
  have o1d := OwnInts.below o1c (below_drewN (Below.refl _ _) n4)
  have b4 := below_drewN b3 n4
  obtain ⟨g, cap, hv2, hg1, hg2⟩ := own_shape o2d (by omega)
  subst hv2
  obtain ⟨rt1, rt2, hc0, hcap, hcapm⟩ := own_tail o2d Hc.out
  unfold maxLen at hcapm
  go_wp2_with fail
  refine (SlicesNext_impl _ xs _ _ o1d.rd).mono ?_; rintro e w5 ⟨rfl, n5, rfl⟩
  rw [Hs.out, HP.out, Int.toNat_natCast]
  have o1e := OwnInts.below o1d (below_drewN (Below.refl _ _) n5)
  have b5 := below_drewN b4 n5
  go_wp2_with fail
  clear hA hC o2b o3
  obtain ⟨Y, hY⟩ : ∃ Y, Y = nth xs P := ⟨_, rfl⟩
  have C0 : w3.cell? ⟨g, 0, none⟩ = some (.int .i64 Y) := by rw [hY]; exact hc0
  have t1 : (Y == nth xs P) = true := by simp [hY]
  have t2 : ((ys.length : Int) == many) = true := by rw [Hmany.out]; simp
  clear hY
  have e1 : IntKind.i64.wrap (many - 1) = m := by rw [Hmany.out, show (ys.length : Int) - 1 = m by omega]; exact IntWalk.i64_in _ (by omega)
  have o1f : RdInts (w3.drewN (n4 + n5 + 1)) (.slice a1 xs.length c1) xs := OwnInts.rd (lo := w.heap.size) (OwnInts.below o1e ⟨rfl, rfl, rfl, Nat.le_refl _, fun _ _ => rfl⟩)
  have b6 : Below w.heap.size w (w3.drewN (n4 + n5 + 1)) := b3.trans ⟨rfl, rfl, rfl, Nat.le_refl _, fun _ _ => rfl⟩
  clear hc0 hne'
  by_cases hcap1 : cap = 1
  · have rt : RdInts (w3.drewN (n4 + n5 + 1)) (.slice (some ⟨g, 0, none⟩) (ys.length - 1) 0) zs := by
      have h := rt2 hcap1
      rw [hcap1] at h
      exact RdInts.below h ⟨rfl, rfl, rfl, Nat.le_refl _, fun _ _ => rfl⟩
    clear rt1 rt2
    have hpos : 0 < ys.length := by omega
    have hpos1 : 1 ≤ ys.length := by omega
    have hpos2 : (1 : Int) ≤ ys.length := by omega
    have g3 : g < w3.heap.size := hg2
    refine wp_region_any (by kernel_rfl) ?_
    change wpAny _ _ _ _ _ _ _ (World.drew _)
    refine wpAny_take (i := 0) (v := .bool true) rfl (by kernel_rfl) (by kernel_rfl) (by kernel_rfl) (fun _ _ _ h => h) (Or.inl ⟨by rfl, ?_⟩) ?_
    · intro w; go_simp
    go_simp
    refine wpAny_take (i := 1) (v := .bool true) rfl (by kernel_rfl) (by kernel_rfl) (by kernel_rfl) (fun _ _ _ h => h) (Or.inl ⟨by rfl, ?_⟩) ?_
    · intro w; go_simp
    go_simp
    refine wpAny_take (i := 2) (v := .slice (some ⟨g, 0, none⟩) ys.length cap) rfl (by kernel_rfl) (by kernel_rfl) (by kernel_rfl) (fun _ _ _ h => h) (Or.inl ⟨by rfl, ?_⟩) ?_
    · intro w; go_simp
    go_simp
    refine wpAny_take (i := 5) (v := .int .i64 (nth xs P)) rfl (by kernel_rfl) (by kernel_rfl) (by kernel_rfl) (fun _ _ _ h => h) (Or.inl ⟨by rfl, ?_⟩) ?_
    · intro w; go_simp
    go_simp
    refine wpAny_ready (rs := [3]) (by kernel_rfl) (by simp) ?_
    refine AllReady.cons rfl (fun K hK => ?_) AllReady.nil
    go_simp
    refine hK _ _ ?_; clear hK K
    refine wpAny_ready (rs := [4]) (by kernel_rfl) (by simp) ?_
    refine AllReady.cons rfl (fun K hK => ?_) AllReady.nil
    go_simp
    refine hK _ _ ?_; clear hK K
    refine wpAny_take (i := 6) (v := .bool true) rfl (by kernel_rfl) (by kernel_rfl) (by kernel_rfl) (fun _ _ _ h => h) (Or.inl ⟨by rfl, ?_⟩) ?_
    · intro w; go_simp
    go_simp
    refine wpAny_take (i := 7) (v := .bool true) rfl (by kernel_rfl) (by kernel_rfl) (by kernel_rfl) (fun _ _ _ h => h) (Or.inl ⟨by rfl, ?_⟩) ?_
    · intro w; go_simp
    go_simp
    refine wpAny_take (i := 8) (v := .bool true) rfl (by kernel_rfl) (by kernel_rfl) (by kernel_rfl) (fun _ _ _ h => h) (Or.inl ⟨by rfl, ?_⟩) ?_
    · intro w; go_simp
    go_simp
    refine wpAny_take (i := 9) (v := .slice (some ⟨g, 0, none⟩) ys.length cap) rfl (by kernel_rfl) (by kernel_rfl) (by kernel_rfl) (fun _ _ _ h => h) (Or.inl ⟨by rfl, ?_⟩) ?_
    · intro w; go_simp
    go_simp
    refine wpAny_take (i := 10) (v := .int .i64 ys.length) rfl (by kernel_rfl) (by kernel_rfl) (by kernel_rfl) (fun _ _ _ h => h) (Or.inl ⟨by rfl, ?_⟩) ?_
    · intro w; go_simp
    go_simp
    refine wpAny_take (i := 11) (v := .int .i64 many) rfl (by kernel_rfl) (by kernel_rfl) (by kernel_rfl) (fun _ _ _ h => h) (Or.inl ⟨by rfl, ?_⟩) ?_
    · intro w; go_simp
    go_simp
    refine wpAny_take (i := 12) (v := .bool true) rfl (by kernel_rfl) (by kernel_rfl) (by kernel_rfl) (fun _ _ _ h => h) (Or.inl ⟨by rfl, ?_⟩) ?_
    · intro w; go_simp
    go_simp
    refine wpAny_take (i := 13) (v := .bool true) rfl (by kernel_rfl) (by kernel_rfl) (by kernel_rfl) (fun _ _ _ h => h) (Or.inl ⟨by rfl, ?_⟩) ?_
    · intro w; go_simp
    go_simp
    refine wpAny_take (i := 14) (v := .bool true) rfl (by kernel_rfl) (by kernel_rfl) (by kernel_rfl) (fun _ _ _ h => h) (Or.inl ⟨by rfl, ?_⟩) ?_
    · intro w; go_simp
    go_simp
    refine wpAny_take (i := 15) (v := .slice (some ⟨g, 0, none⟩) ys.length cap) rfl (by kernel_rfl) (by kernel_rfl) (by kernel_rfl) (fun _ _ _ h => h) (Or.inl ⟨by rfl, ?_⟩) ?_
    · intro w; go_simp
    go_simp
    refine wpAny_take (i := 17) (v := .slice a1 xs.length c1) rfl (by kernel_rfl) (by kernel_rfl) (by kernel_rfl) (fun _ _ _ h => h) (Or.inl ⟨by rfl, ?_⟩) ?_
    · intro w; go_simp
    go_simp
    refine wpAny_take (i := 18) (v := .int .i64 P) rfl (by kernel_rfl) (by kernel_rfl) (by kernel_rfl) (fun _ _ _ h => h) (Or.inl ⟨by rfl, ?_⟩) ?_
    · intro w; go_simp
    go_simp
    refine wpAny_take (i := 19) (v := .int .i64 many) rfl (by kernel_rfl) (by kernel_rfl) (by kernel_rfl) (fun _ _ _ h => h) (Or.inl ⟨by rfl, ?_⟩) ?_
    · intro w; go_simp
    go_simp
    refine wpAny_take (i := 20) (v := .int .i64 m) rfl (by kernel_rfl) (by kernel_rfl) (by kernel_rfl) (fun _ _ _ h => h) (Or.inl ⟨by rfl, ?_⟩) ?_
    · intro w; go_simp
    go_simp
    refine wpAny_ready (rs := [16, 21]) (by kernel_rfl) (by simp) ?_
    refine AllReady.cons rfl (fun K hK => ?_) (AllReady.cons rfl (fun K hK => ?_) AllReady.nil)
    · go_simp
      refine hK _ _ ?_; clear hK K
      refine wpAny_ready (rs := [21]) (by kernel_rfl) (by simp) ?_
      refine AllReady.cons rfl (fun K hK => ?_) AllReady.nil
      go_simp
      refine (SlicesRun_impl _ xs _ _ _ o1f).mono ?_; rintro e w6 ⟨v6, rfl, o6, c6⟩; rw [Ht.out] at o6
      have b7 := b6.trans (c6.mono b6.size)
      have rt' := rt.below c6
      simp only []
      refine hK _ _ ?_; clear hK K
      refine wpAny_ready (rs := [22]) (by kernel_rfl) (by simp) ?_
      refine AllReady.cons rfl (fun K hK => ?_) AllReady.nil
      go_simp
      refine (sameInts_any _ _ zs zs _ rt' o6.rd).mono ?_; rintro e w7 ⟨rfl, n7, rfl⟩
      simp only []
      refine hK _ _ ?_; clear hK K
      refine wpAny_ready (rs := [23]) (by kernel_rfl) (by simp) ?_
      refine AllReady.cons rfl (fun K hK => ?_) AllReady.nil
      go_simp
      refine hK _ _ ?_; clear hK K
      refine wpAny_ready (rs := [24]) (by kernel_rfl) (by simp) ?_
      refine AllReady.cons rfl (fun K hK => ?_) AllReady.nil
      go_simp
      refine hK _ _ ?_; clear hK K
      refine wpAny_done (by kernel_rfl) ?_ _
      go_wp2_with fail
      go_ret
      exact ⟨rfl, below_drewN b7 _⟩
    · go_simp
      refine (SlicesRun_impl _ xs _ _ _ o1f).mono ?_; rintro e w6 ⟨v6, rfl, o6, c6⟩; rw [Ht.out] at o6
      have b7 := b6.trans (c6.mono b6.size)
      have rt' := rt.below c6
      simp only []
      refine hK _ _ ?_; clear hK K
      refine wpAny_ready (rs := [16]) (by kernel_rfl) (by simp) ?_
      refine AllReady.cons rfl (fun K hK => ?_) AllReady.nil
      go_simp
      refine hK _ _ ?_; clear hK K
      refine wpAny_ready (rs := [22]) (by kernel_rfl) (by simp) ?_
      refine AllReady.cons rfl (fun K hK => ?_) AllReady.nil
      go_simp
      refine (sameInts_any _ _ zs zs _ rt' o6.rd).mono ?_; rintro e w7 ⟨rfl, n7, rfl⟩
      simp only []
      refine hK _ _ ?_; clear hK K
      refine wpAny_ready (rs := [23]) (by kernel_rfl) (by simp) ?_
      refine AllReady.cons rfl (fun K hK => ?_) AllReady.nil
      go_simp
      refine hK _ _ ?_; clear hK K
      refine wpAny_ready (rs := [24]) (by kernel_rfl) (by simp) ?_
      refine AllReady.cons rfl (fun K hK => ?_) AllReady.nil
      go_simp
      refine hK _ _ ?_; clear hK K
      refine wpAny_done (by kernel_rfl) ?_ _
      go_wp2_with fail
      go_ret
      exact ⟨rfl, below_drewN b7 _⟩
  · have rt : RdInts (w3.drewN (n4 + n5 + 1)) (.slice (some ⟨g, 1, none⟩) (ys.length - 1) (cap - 1)) zs := rt1.below ⟨rfl, rfl, rfl, Nat.le_refl _, fun _ _ => rfl⟩
    clear rt1 rt2
    have hpos : 0 < ys.length := by omega
    have hpos1 : 1 ≤ ys.length := by omega
    have hpos2 : (1 : Int) ≤ ys.length := by omega
    have g3 : g < w3.heap.size := hg2
    refine wp_region_any (by kernel_rfl) ?_
    change wpAny _ _ _ _ _ _ _ (World.drew _)
    refine wpAny_take (i := 0) (v := .bool true) rfl (by kernel_rfl) (by kernel_rfl) (by kernel_rfl) (fun _ _ _ h => h) (Or.inl ⟨by rfl, ?_⟩) ?_
    · intro w; go_simp
    go_simp
    refine wpAny_take (i := 1) (v := .bool true) rfl (by kernel_rfl) (by kernel_rfl) (by kernel_rfl) (fun _ _ _ h => h) (Or.inl ⟨by rfl, ?_⟩) ?_
    · intro w; go_simp
    go_simp
    refine wpAny_take (i := 2) (v := .slice (some ⟨g, 0, none⟩) ys.length cap) rfl (by kernel_rfl) (by kernel_rfl) (by kernel_rfl) (fun _ _ _ h => h) (Or.inl ⟨by rfl, ?_⟩) ?_
    · intro w; go_simp
    go_simp
    refine wpAny_take (i := 5) (v := .int .i64 (nth xs P)) rfl (by kernel_rfl) (by kernel_rfl) (by kernel_rfl) (fun _ _ _ h => h) (Or.inl ⟨by rfl, ?_⟩) ?_
    · intro w; go_simp
    go_simp
    refine wpAny_ready (rs := [3]) (by kernel_rfl) (by simp) ?_
    refine AllReady.cons rfl (fun K hK => ?_) AllReady.nil
    go_simp
    refine hK _ _ ?_; clear hK K
    refine wpAny_ready (rs := [4]) (by kernel_rfl) (by simp) ?_
    refine AllReady.cons rfl (fun K hK => ?_) AllReady.nil
    go_simp
    refine hK _ _ ?_; clear hK K
    refine wpAny_take (i := 6) (v := .bool true) rfl (by kernel_rfl) (by kernel_rfl) (by kernel_rfl) (fun _ _ _ h => h) (Or.inl ⟨by rfl, ?_⟩) ?_
    · intro w; go_simp
    go_simp
    refine wpAny_take (i := 7) (v := .bool true) rfl (by kernel_rfl) (by kernel_rfl) (by kernel_rfl) (fun _ _ _ h => h) (Or.inl ⟨by rfl, ?_⟩) ?_
    · intro w; go_simp
    go_simp
    refine wpAny_take (i := 8) (v := .bool true) rfl (by kernel_rfl) (by kernel_rfl) (by kernel_rfl) (fun _ _ _ h => h) (Or.inl ⟨by rfl, ?_⟩) ?_
    · intro w; go_simp
    go_simp
    refine wpAny_take (i := 9) (v := .slice (some ⟨g, 0, none⟩) ys.length cap) rfl (by kernel_rfl) (by kernel_rfl) (by kernel_rfl) (fun _ _ _ h => h) (Or.inl ⟨by rfl, ?_⟩) ?_
    · intro w; go_simp
    go_simp
    refine wpAny_take (i := 10) (v := .int .i64 ys.length) rfl (by kernel_rfl) (by kernel_rfl) (by kernel_rfl) (fun _ _ _ h => h) (Or.inl ⟨by rfl, ?_⟩) ?_
    · intro w; go_simp
    go_simp
    refine wpAny_take (i := 11) (v := .int .i64 many) rfl (by kernel_rfl) (by kernel_rfl) (by kernel_rfl) (fun _ _ _ h => h) (Or.inl ⟨by rfl, ?_⟩) ?_
    · intro w; go_simp
    go_simp
    refine wpAny_take (i := 12) (v := .bool true) rfl (by kernel_rfl) (by kernel_rfl) (by kernel_rfl) (fun _ _ _ h => h) (Or.inl ⟨by rfl, ?_⟩) ?_
    · intro w; go_simp
    go_simp
    refine wpAny_take (i := 13) (v := .bool true) rfl (by kernel_rfl) (by kernel_rfl) (by kernel_rfl) (fun _ _ _ h => h) (Or.inl ⟨by rfl, ?_⟩) ?_
    · intro w; go_simp
    go_simp
    refine wpAny_take (i := 14) (v := .bool true) rfl (by kernel_rfl) (by kernel_rfl) (by kernel_rfl) (fun _ _ _ h => h) (Or.inl ⟨by rfl, ?_⟩) ?_
    · intro w; go_simp
    go_simp
    refine wpAny_take (i := 15) (v := .slice (some ⟨g, 0, none⟩) ys.length cap) rfl (by kernel_rfl) (by kernel_rfl) (by kernel_rfl) (fun _ _ _ h => h) (Or.inl ⟨by rfl, ?_⟩) ?_
    · intro w; go_simp
    go_simp
    refine wpAny_take (i := 17) (v := .slice a1 xs.length c1) rfl (by kernel_rfl) (by kernel_rfl) (by kernel_rfl) (fun _ _ _ h => h) (Or.inl ⟨by rfl, ?_⟩) ?_
    · intro w; go_simp
    go_simp
    refine wpAny_take (i := 18) (v := .int .i64 P) rfl (by kernel_rfl) (by kernel_rfl) (by kernel_rfl) (fun _ _ _ h => h) (Or.inl ⟨by rfl, ?_⟩) ?_
    · intro w; go_simp
    go_simp
    refine wpAny_take (i := 19) (v := .int .i64 many) rfl (by kernel_rfl) (by kernel_rfl) (by kernel_rfl) (fun _ _ _ h => h) (Or.inl ⟨by rfl, ?_⟩) ?_
    · intro w; go_simp
    go_simp
    refine wpAny_take (i := 20) (v := .int .i64 m) rfl (by kernel_rfl) (by kernel_rfl) (by kernel_rfl) (fun _ _ _ h => h) (Or.inl ⟨by rfl, ?_⟩) ?_
    · intro w; go_simp
    go_simp
    refine wpAny_ready (rs := [16, 21]) (by kernel_rfl) (by simp) ?_
    refine AllReady.cons rfl (fun K hK => ?_) (AllReady.cons rfl (fun K hK => ?_) AllReady.nil)
    · go_simp
      refine hK _ _ ?_; clear hK K
      refine wpAny_ready (rs := [21]) (by kernel_rfl) (by simp) ?_
      refine AllReady.cons rfl (fun K hK => ?_) AllReady.nil
      go_simp
      refine (SlicesRun_impl _ xs _ _ _ o1f).mono ?_; rintro e w6 ⟨v6, rfl, o6, c6⟩; rw [Ht.out] at o6
      have b7 := b6.trans (c6.mono b6.size)
      have rt' := rt.below c6
      simp only []
      refine hK _ _ ?_; clear hK K
      refine wpAny_ready (rs := [22]) (by kernel_rfl) (by simp) ?_
      refine AllReady.cons rfl (fun K hK => ?_) AllReady.nil
      go_simp
      refine (sameInts_any _ _ zs zs _ rt' o6.rd).mono ?_; rintro e w7 ⟨rfl, n7, rfl⟩
      simp only []
      refine hK _ _ ?_; clear hK K
      refine wpAny_ready (rs := [23]) (by kernel_rfl) (by simp) ?_
      refine AllReady.cons rfl (fun K hK => ?_) AllReady.nil
      go_simp
      refine hK _ _ ?_; clear hK K
      refine wpAny_ready (rs := [24]) (by kernel_rfl) (by simp) ?_
      refine AllReady.cons rfl (fun K hK => ?_) AllReady.nil
      go_simp
      refine hK _ _ ?_; clear hK K
      refine wpAny_done (by kernel_rfl) ?_ _
      go_wp2_with fail
      go_ret
      exact ⟨rfl, below_drewN b7 _⟩
    · go_simp
      refine (SlicesRun_impl _ xs _ _ _ o1f).mono ?_; rintro e w6 ⟨v6, rfl, o6, c6⟩; rw [Ht.out] at o6
      have b7 := b6.trans (c6.mono b6.size)
      have rt' := rt.below c6
      simp only []
      refine hK _ _ ?_; clear hK K
      refine wpAny_ready (rs := [16]) (by kernel_rfl) (by simp) ?_
      refine AllReady.cons rfl (fun K hK => ?_) AllReady.nil
      go_simp
      refine hK _ _ ?_; clear hK K
      refine wpAny_ready (rs := [22]) (by kernel_rfl) (by simp) ?_
      refine AllReady.cons rfl (fun K hK => ?_) AllReady.nil
      go_simp
      refine (sameInts_any _ _ zs zs _ rt' o6.rd).mono ?_; rintro e w7 ⟨rfl, n7, rfl⟩
      simp only []
      refine hK _ _ ?_; clear hK K
      refine wpAny_ready (rs := [23]) (by kernel_rfl) (by simp) ?_
      refine AllReady.cons rfl (fun K hK => ?_) AllReady.nil
      go_simp
      refine hK _ _ ?_; clear hK K
      refine wpAny_ready (rs := [24]) (by kernel_rfl) (by simp) ?_
      refine AllReady.cons rfl (fun K hK => ?_) AllReady.nil
      go_simp
      refine hK _ _ ?_; clear hK K
      refine wpAny_done (by kernel_rfl) ?_ _
      go_wp2_with fail
      go_ret
      exact ⟨rfl, below_drewN b7 _⟩
end Go.Proofs.Ytpkbfkolllcjgaa.fnRun
