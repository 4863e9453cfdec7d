/-
  The law laws.FnRunRound returns true for every code. No conditions.
-/
import Derived.Test.YtpkbfkolllcjgaaFn1
namespace Go.Proofs.Ytpkbfkolllcjgaa.fnRunRound
open Go.RowKit
open Go.Proofs.Ytpkbfkolllcjgaa

theorem run_facts {xs ys : List Int} {at_ many : Int} (hys : ys = sRun xs at_ many) (hne : ¬ ys.length = 0) :
    ∃ a m : Nat, at_ = a ∧ many = ys.length ∧ ys.length = m + 1 ∧ a < xs.length ∧ slicesOk xs = true ∧ 0 ≤ nextI xs a ∧ m + 1 ≤ 100 ∧
      ys = nth xs (nextI xs a).toNat :: (runTo xs (nextI xs a).toNat m).2 ∧ sRun xs (nextI xs a) m = (runTo xs (nextI xs a).toNat m).2 := by
  cases hok : runOk xs at_ many
  · rw [sRun_no hok] at hys; subst hys; simp at hne
  have hok' := hok
  simp only [runOk, Bool.and_eq_true, decide_eq_true_eq] at hok'
  obtain ⟨⟨⟨q1, q2⟩, q3⟩, q4⟩ := hok'
  obtain ⟨ha0, ha1⟩ := inB_iff.1 q2
  obtain ⟨a, rfl⟩ := Int.eq_ofNat_of_zero_le ha0
  obtain ⟨hm0, hm1⟩ := inB_iff.1 q3
  obtain ⟨k, rfl⟩ := Int.eq_ofNat_of_zero_le hm0
  rw [sRun_yes hok] at hys
  rw [Int.toNat_natCast] at q4
  have hk : k = ys.length := by rw [hys, runTo_len]
  obtain ⟨m, rfl⟩ : ∃ m, k = m + 1 := ⟨k - 1, by omega⟩
  have hlt := nextI_lt q4
  refine ⟨a, m, rfl, by rw [hk], hk.symm, by omega, q1, q4, by omega, by rw [hys, runTo_cons], ?_⟩
  have hP : nextI xs a = ((nextI xs a).toNat : Int) := (Int.toNat_of_nonneg q4).symm
  have hok2 : runOk xs ((nextI xs a).toNat : Int) m = true := by
    have e2 : inB ((nextI xs a).toNat : Int) 0 (xs.length - 1) = true := inB_iff.2 ⟨by omega, by omega⟩
    have e3 : inB (m : Int) 0 100 = true := inB_iff.2 ⟨by omega, by omega⟩
    have e4 : 0 ≤ nextI xs (nextI xs a).toNat := nextI_any hlt.1 q4
    simp only [runOk, q1, e2, e3, Int.toNat_natCast, e4, decide_true, Bool.and_self]
  have h := sRun_yes hok2
  rw [Int.toNat_of_nonneg q4] at h
  exact h

/-- How many of the first t answer p. -/
def cnt (p : Int → Bool) (xs : List Int) (t : Nat) : Int := ((xs.take t).countP p : Nat)
theorem cnt_succ {p : Int → Bool} {xs : List Int} {t : Nat} (h : t < xs.length) : cnt p xs (t + 1) = cnt p xs t + (if p (nth xs t) = true then 1 else 0) := by
  unfold cnt
  rw [take_nth h, List.countP_append]
  cases hp : p (nth xs t) <;> simp [hp]
theorem cnt_bd {p : Int → Bool} {xs : List Int} {t : Nat} : 0 ≤ cnt p xs t ∧ cnt p xs t ≤ t := by
  unfold cnt
  have h1 := List.countP_le_length (p := p) (l := xs.take t)
  have h2 := List.length_take_le t xs
  omega
theorem cnt_all {p : Int → Bool} {xs : List Int} : cnt p xs xs.length = (xs.countP p : Nat) := by simp [cnt]
theorem cnt_hit {p : Int → Bool} {xs : List Int} {t : Nat} (h : t < xs.length) (hp : p (nth xs t) = true) : cnt p xs (t + 1) = cnt p xs t + 1 := by rw [cnt_succ h, if_pos hp]
theorem cnt_miss {p : Int → Bool} {xs : List Int} {t : Nat} (h : t < xs.length) (hp : p (nth xs t) = false) : cnt p xs (t + 1) = cnt p xs t := by rw [cnt_succ h, if_neg (by simp [hp]), Int.add_zero]

theorem round_run {xs : List Int} {a : Nat} (hok : slicesOk xs = true) (ha : a < xs.length) (hn : 0 ≤ nextI xs a) : sRun xs a (cnt (· != -1) xs xs.length) = (runTo xs a (xs.countP (· != -1))).2 := by
  have hl := slicesOk_len hok
  have hc := List.countP_le_length (p := (· != (-1 : Int))) (l := xs)
  rw [cnt_all]
  have hok2 : runOk xs (a : Int) ((xs.countP (· != -1) : Nat) : Int) = true := by
    have e2 : inB (a : Int) 0 (xs.length - 1) = true := inB_iff.2 ⟨by omega, by omega⟩
    have e3 : inB ((xs.countP (· != -1) : Nat) : Int) 0 100 = true := inB_iff.2 ⟨by omega, by omega⟩
    simp only [runOk, hok, e2, e3, Int.toNat_natCast, hn, decide_true, Bool.and_self]
  exact sRun_yes hok2

set_option maxHeartbeats 4000000 in
theorem walkR (v : Value) (bs : List Int) (w : World) (h : RdBytes w v bs) :
    Calls Try.prog 15 #[v] w fun e w' => e = .returned (.bool true) ∧ Below w.heap.size w w' := by
  obtain ⟨a0, c0, hv, hc, hcm, _⟩ := h.open
  subst hv
  unfold maxLen at hcm
  by_cases hs : 1048576 < bs.length
  · go_enter Try.func15, Try.ntmps15
    go_wp2_with fail
    go_ret
    exact ⟨rfl, Below.refl _ _⟩
  go_enter Try.func15, Try.ntmps15
  go_wp2_with fail
  refine (DrawSlicesRun_any _ bs _ h).mono ?_; rintro e w1 ⟨v1, xs, at_, many, rfl, o1, hl, b1⟩
  obtain ⟨a1, c1, rfl, hc1, hcm1, hA⟩ := o1.rd.open
  unfold maxLen at hcm1
  go_wp2_with fail
  refine (SlicesRun_impl _ xs _ _ _ o1.rd).mono ?_; rintro e w2 ⟨v2, rfl, o2, c2⟩
  have b2 := b1.trans (c2.mono b1.size)
  have o1b := o1.below c2
  go_wp2_with fail
  refine (SlicesRun_spec _ xs _ _ _ o1b.rd).mono ?_; rintro e w3 ⟨v3, rfl, o3, c3⟩
  have b3 := b2.trans (c3.mono b2.size)
  have o2b := o2.below c3
  have o1c := o1b.below c3
  obtain ⟨ys, hys⟩ : ∃ ys, ys = sRun xs at_ many := ⟨_, rfl⟩
  rw [← hys] at o2b o3
  clear o2
  obtain ⟨a3, c3', rfl, hc3, hcm3, hC⟩ := o3.rd.open
  unfold maxLen at hcm3
  by_cases hne : ys.length = 0
  · have hne' : ((ys.length : Int) == 0) = true := by simp [hne]
    clear hne hys
    go_wp2_with fail
    refine (sameInts_any _ _ ys ys _ o2b.rd o3.rd).mono ?_; rintro e w4 ⟨rfl, n4, rfl⟩
    have o2d := OwnInts.below o2b (below_drewN (Below.refl _ _) n4)
    have o3d := OwnInts.below o3 (below_drewN (Below.refl _ _) n4)
    go_wp2_with (go_at_call 34; refine (sameInts_any _ _ ys ys _ o2d.rd o3d.rd).mono ?_; rintro e w' ⟨rfl, n5, rfl⟩)
    go_ret
    exact ⟨rfl, below_drewN b3 _⟩
  have hne' : ((ys.length : Int) == 0) = false := by simp [hne]
  obtain ⟨a, m, hat, hmany, hym, ha, hok, hn0, hm100, hcons, htail⟩ := run_facts hys hne
  clear hcons htail hm100 hym
  subst hat
  have Hmany := Lib.hid hmany; clear hmany
  clear hys hne
  obtain ⟨hl1, hl2⟩ := slicesOk_len hok
  have Hrr := Lib.hid (round_run hok ha hn0)
  have Hrc := Lib.hid (fun (env : Int) (he : env ≠ -1) => round_count ha he)
  have Hlen := Lib.hid (runTo_len (xs := xs) (a := a) (xs.countP (· != -1)))
  have hcl := List.countP_le_length (p := (· != (-1 : Int))) (l := xs)
  obtain ⟨zs, hzs⟩ : ∃ zs, zs = (runTo xs a (xs.countP (· != -1))).2 := ⟨_, rfl⟩
  rw [← hzs] at Hrr Hrc Hlen
  have hz10 : zs.length ≤ 10 := by rw [Hlen.out]; omega
  clear hzs hcl hok hn0
  go_wp2_with fail
  refine (sameInts_any _ _ ys ys _ o2b.rd o3.rd).mono ?_; rintro e w4 ⟨rfl, n4, rfl⟩
  have o1d := OwnInts.below o1c (below_drewN (Below.refl _ _) n4)
  have b4 := below_drewN b3 n4
  have hA4 : AtInts (w3.drewN n4) a1 xs := ((hA.below c2).below c3).keep (fun _ _ => rfl)
  clear o2b o3 hC hA o1c
  go_wp2_with fail
  go_loopw [8] (fun ev wr => ∃ E : Nat, E ≤ 3 ∧ ev = .int .i64 E ∧ Below (w3.drewN n4).heap.size (w3.drewN n4) wr) (fun ev _ => 3 - (intOf ev).toNat)
  case atStart => exact ⟨0, by decide, rfl, Below.refl _ _⟩
  case round =>
    obtain ⟨E, hE, rfl, hbr⟩ := hrel
    by_cases hlt : E < 3
    · have hEne : (E : Int) ≠ -1 := by omega
      have hcE := Lib.hid (Hrc.out E hEne)
      have o1e := o1d.below hbr
      have hA5 := hA4.below hbr
      have b5 := b4.trans (hbr.mono b4.size)
      go_wp2_with fail
      go_loop [9, 10, 11] (fun n al k => ∃ t : Nat, t ≤ xs.length ∧ k = .int .i64 t ∧ n = .int .i64 (cnt (· == (E : Int)) xs t) ∧ al = .int .i64 (cnt (· != -1) xs t)) (fun _ _ k => xs.length - (intOf k).toNat)
      case atStart => exact ⟨0, Nat.zero_le _, rfl, rfl, rfl⟩
      case round =>
        obtain ⟨t, ht, rfl, rfl, rfl⟩ := hrel
        by_cases hlt2 : t < xs.length
        · obtain ⟨b, off, rfl, D⟩ := hA5.at hlt2
          have q1 := cnt_bd (p := (· == (E : Int))) (xs := xs) (t := t)
          have q2 := cnt_bd (p := (· != (-1 : Int))) (xs := xs) (t := t)
          obtain ⟨q1a, q1b⟩ := q1
          obtain ⟨q2a, q2b⟩ := q2
          cases h1 : (nth xs t == (E : Int)) <;> cases h2 : (nth xs t != (-1 : Int))
          all_goals
            have S1 := Lib.hid (cnt_succ (p := (· == (E : Int))) hlt2)
            have S2 := Lib.hid (cnt_succ (p := (· != (-1 : Int))) hlt2)
            have H1 := Lib.hid h1
            have H2 := Lib.hid h2
            go_wp2_with fail
            go_round
            case rel => exact ⟨t + 1, by omega, by go_num, by rw [S1.out, H1.out]; simp, by rw [S2.out, H2.out]; simp⟩
            case measure => simp [intOf]; omega
        · obtain rfl : xs.length = t := by omega
          go_wp2_with fail
          refine (SlicesRun_impl _ xs _ _ _ o1e.rd).mono ?_; rintro e w6 ⟨v6, rfl, o6, c6⟩
          rw [Hrr.out] at o6
          obtain ⟨a6, c6', rfl, hc6, hcm6, hF⟩ := o6.rd.open
          unfold maxLen at hcm6
          have hbr2 := hbr.trans (c6.mono hbr.size)
          go_wp2_with fail
          go_loop [12, 14] (fun mm k => ∃ t : Nat, t ≤ zs.length ∧ k = .int .i64 t ∧ mm = .int .i64 (cnt (· == (E : Int)) zs t)) (fun _ k => zs.length - (intOf k).toNat)
          case atStart => exact ⟨0, Nat.zero_le _, rfl, rfl⟩
          case round =>
            obtain ⟨t, ht, rfl, rfl⟩ := hrel
            by_cases hlt3 : t < zs.length
            · obtain ⟨b, off, rfl, D⟩ := hF.at hlt3
              have q1 := cnt_bd (p := (· == (E : Int))) (xs := zs) (t := t)
              obtain ⟨q1a, q1b⟩ := q1
              cases h1 : (nth zs t == (E : Int))
              all_goals
                have S1 := Lib.hid (cnt_succ (p := (· == (E : Int))) hlt3)
                have H1 := Lib.hid h1
                go_wp2_with fail
                go_round
                case rel => exact ⟨t + 1, by omega, by go_num, by rw [S1.out, H1.out]; simp⟩
                case measure => simp [intOf]; omega
            · obtain rfl : zs.length = t := by omega
              have heq : cnt (· == (E : Int)) zs zs.length = cnt (· == (E : Int)) xs xs.length := by rw [cnt_all, cnt_all, hcE.out]
              rw [heq]
              clear heq
              go_wp2_with fail
              go_roundw
              case rel => exact ⟨E + 1, by omega, by go_num, hbr2⟩
              case measure => simp [intOf]; omega
    · go_wp2_with fail
      go_ret
      exact ⟨rfl, b4.trans (hbr.mono b4.size)⟩
end Go.Proofs.Ytpkbfkolllcjgaa.fnRunRound
