/-
  The law laws.FnNext returns true for every code. No conditions.
-/
import Derived.Test.YtpkbfkolllcjgaaFn1
namespace Go.Proofs.Ytpkbfkolllcjgaa.fnNext
open Go.RowKit
open Go.Proofs.Ytpkbfkolllcjgaa

set_option maxHeartbeats 1000000 in
theorem walkR (v : Value) (bs : List Int) (w : World) (h : RdBytes w v bs) :
    Calls Try.prog 7 #[v] w fun e w' => e = .returned (.bool true) ∧ Below w.heap.size w w' := by
  obtain ⟨a0, c0, hv, hc, hcm, _⟩ := h.open
  subst hv
  unfold maxLen at hcm
  by_cases hs : 1048576 < bs.length
  · go_enter Try.func7, Try.ntmps7
    go_wp2_with fail
    go_ret
    exact ⟨rfl, Below.refl _ _⟩
  go_enter Try.func7, Try.ntmps7
  go_wp2_with fail
  refine (DrawSlicesNext_any _ bs _ h).mono ?_; rintro e w1 ⟨v1, xs, at_, rfl, o1, hl, b1⟩
  obtain ⟨a1, c1, rfl, hc1, hcm1, hA⟩ := o1.rd.open
  unfold maxLen at hcm1
  go_wp2_with fail
  refine (SlicesNext_impl _ xs _ _ o1.rd).mono ?_; rintro e w2 ⟨rfl, n2, rfl⟩
  have b2 := below_drewN b1 n2
  have o2 := OwnInts.below o1 (below_drewN (Below.refl _ _) n2)
  by_cases hok : slicesOk xs = true ∧ inB at_ 0 (xs.length - 1) = true ∧ 0 ≤ nextI xs at_.toNat
  · obtain ⟨h1, h2, h3⟩ := hok
    obtain ⟨ha0, ha1⟩ := inB_iff.1 h2
    obtain ⟨a, rfl⟩ := Int.eq_ofNat_of_zero_le ha0
    rw [Int.toNat_natCast] at h3
    have ha : a < xs.length := by omega
    obtain ⟨q, hq, hqe, hq1, hq2⟩ := next_spec h3
    have Hs := Lib.hid (sNext_yes h1 ha h3)
    have hPn : (a + (q + 1)) % xs.length < xs.length := Nat.mod_lt _ (by omega)
    have Hq1 := Lib.hid hq1; clear hq1
    obtain ⟨P, hP⟩ : ∃ P, P = (a + (q + 1)) % xs.length := ⟨_, rfl⟩
    rw [← hP] at hqe hq2 hPn
    have HP := Lib.hid hP; clear hP
    have Hqe := Lib.hid hqe; clear hqe
    obtain ⟨b, off, rfl, DP⟩ := hA.at hPn
    have hq2' : (nth xs P != -1) = true := by simp [hq2]
    clear hq2
    clear h1 h2 h3
    rw [Hs.out, Hqe.out]
    rw [Int.toNat_natCast]
    go_wp2_with fail
    refine (SlicesNext_spec _ xs _ _ o2.rd).mono ?_; rintro e w3 ⟨rfl, n3, rfl⟩
    rw [Hs.out, Hqe.out]
    rw [Int.toNat_natCast]
    go_wp2_with fail
    go_loopg [11] q (fun gk k wr => ∃ K : Nat, k = .int .i64 K ∧ K = (a + (q - gk + 1)) % xs.length ∧ gk ≤ q ∧ wr = (w1.drewN (n2 + n3)))
    case atStart => exact ⟨(a + (q - q + 1)) % xs.length, by rw [Nat.sub_self]; push_cast; rfl, rfl, Nat.le_refl _, rfl⟩
    case round =>
      obtain ⟨K, rfl, hK, hgq, rfl⟩ := hrel
      have hKn : K < xs.length := by rw [hK]; exact Nat.mod_lt _ (by omega)
      obtain ⟨b', off', hbb, DK⟩ := hA.at hKn
      obtain ⟨rfl, rfl⟩ : b = b' ∧ off = off' := by simpa using hbb
      clear hbb
      by_cases hz : gk = 0
      · subst hz
        obtain rfl : K = P := by rw [hK, HP.out]; rfl
        clear hK
        go_wp2_with fail
        go_ret
        exact ⟨rfl, below_drewN b1 _⟩
      · have hm1 : nth xs K = -1 := by rw [hK]; exact Hq1.out (q - gk) (by omega)
        have hne : ((K : Int) != P) = true := by
          have : K ≠ P := by rintro rfl; rw [hm1] at hq2'; simp at hq2'
          simp; omega
        rw [hm1] at DK
        have Hm1 := Lib.hid hm1; clear hm1
        have HK := Lib.hid hK; clear hK
        obtain ⟨hmb1, hmb2, hmb3⟩ := mod_bounds (a := K) (k := 0) (n := xs.length) (by omega)
        go_wp2_with fail
        go_roundg (gk - 1)
        case measure => omega
        case rel =>
          refine ⟨(K + 1) % xs.length, by push_cast; rfl, ?_, by omega, rfl⟩
          rw [HK.out, Nat.add_mod, Nat.mod_mod, ← Nat.add_mod]
          congr 1
          omega
  · have Hs := Lib.hid (sNext_no hok)
    clear hok
    rw [Hs.out]
    go_wp2_with fail
    refine (SlicesNext_spec _ xs _ _ o2.rd).mono ?_; rintro e w3 ⟨rfl, n3, rfl⟩
    rw [Hs.out]
    go_wp2_with fail
    go_ret
    exact ⟨rfl, below_drewN b1 _⟩
end Go.Proofs.Ytpkbfkolllcjgaa.fnNext
