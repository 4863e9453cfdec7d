/-
  Walks of the next slice that is not free: the program's and the reference's.
-/
import Derived.Test.YtpkbfkolllcjgaaSl2
namespace Go.Proofs.Ytpkbfkolllcjgaa
open Go.RowKit

/-- The next place behind a, round and round, whose slice is not free. -/
def nextAt (xs : List Int) (a : Nat) : Option Nat := ((List.range xs.length).map fun i => (a + (i + 1)) % xs.length).find? fun j => nth xs j != -1
def nextI (xs : List Int) (a : Nat) : Int := match nextAt xs a with | some k => k | none => -1

theorem nextAt_none {xs : List Int} {a : Nat} (h : ∀ i, i < xs.length → nth xs ((a + (i + 1)) % xs.length) = -1) : nextAt xs a = none := by
  unfold nextAt
  rw [List.find?_eq_none]
  intro x hx
  obtain ⟨i, hi, rfl⟩ := List.mem_map.1 hx
  simp [h i (List.mem_range.1 hi)]
theorem nextAt_some {xs : List Int} {a k : Nat} (hk : k < xs.length) (h : ∀ i, i < k → nth xs ((a + (i + 1)) % xs.length) = -1) (hne : nth xs ((a + (k + 1)) % xs.length) ≠ -1) :
    nextAt xs a = some ((a + (k + 1)) % xs.length) := by
  unfold nextAt
  rw [List.find?_eq_some_iff_append]
  refine ⟨by simpa using hne, ((List.range k).map fun i => (a + (i + 1)) % xs.length), (((List.range (xs.length - (k + 1))).map fun i => (a + (k + 1 + i + 1)) % xs.length)), ?_, ?_⟩
  · have e : xs.length = k + (1 + (xs.length - (k + 1))) := by omega
    have e2 : List.range xs.length = List.range k ++ k :: (List.range (xs.length - (k + 1))).map (fun i => k + 1 + i) := by
      conv => lhs; rw [e]
      rw [List.range_add, List.range_add]
      simp [Nat.add_assoc]
    rw [e2]
    simp
  · intro x hx
    obtain ⟨i, hi, rfl⟩ := List.mem_map.1 hx
    simp [h i (List.mem_range.1 hi)]

theorem mod_bounds {a k n : Nat} (hn : 0 < n) : (a + (k + 1)) % n < n ∧ 0 ≤ ((a : Int) + (k + 1)) % n ∧ ((a : Int) + (k + 1)) % n < n :=
  ⟨Nat.mod_lt _ hn, Int.emod_nonneg _ (by omega), Int.emod_lt_of_pos _ (by omega)⟩

theorem nextI_some {xs : List Int} {a k : Nat} (hk : k < xs.length) (h : ∀ i, i < k → nth xs ((a + (i + 1)) % xs.length) = -1) (hne : nth xs ((a + (k + 1)) % xs.length) ≠ -1) :
    nextI xs a = ((a : Int) + (k + 1)) % xs.length := by
  simp [nextI, nextAt_some hk h hne]
theorem nextI_none {xs : List Int} {a : Nat} (h : ∀ i, i < xs.length → nth xs ((a + (i + 1)) % xs.length) = -1) : nextI xs a = -1 := by
  simp [nextI, nextAt_none h]

set_option maxHeartbeats 400000 in
theorem l42Next_any (v : Value) (xs : List Int) (a : Nat) (w : World) (h : RdInts w v xs) (ha : a < xs.length) (hn : xs.length ≤ 10) :
    Calls Try.prog 41 #[v, .int .i64 a] w fun e w' => e = .returned (.int .i64 (nextI xs a)) ∧ w = w' := by
  obtain ⟨ad, c, rfl, hc, hcm, H⟩ := h.open
  clear h
  unfold maxLen at hcm
  go_enter Try.func41, Try.ntmps41
  go_wp2
  go_loop [5] (fun i => ∃ k : Nat, k ≤ xs.length ∧ i = .int .i64 (k + 1) ∧ ∀ j, j < k → nth xs ((a + (j + 1)) % xs.length) = -1) (fun i => xs.length + 1 - (intOf i).toNat)
  case atStart => exact ⟨0, Nat.zero_le _, rfl, fun j hj => absurd hj (Nat.not_lt_zero _)⟩
  case round =>
    obtain ⟨k, hk, rfl, hpre⟩ := hrel
    have Hpre := Lib.hid hpre; clear hpre
    by_cases hlt : k < xs.length
    · obtain ⟨hm, hm1, hm2⟩ := mod_bounds (a := a) (k := k) (n := xs.length) (by omega)
      obtain ⟨b, off, rfl, D⟩ := H.at hm
      clear H hm
      by_cases hp : nth xs ((a + (k + 1)) % xs.length) = -1
      · have hp' : (nth xs ((a + (k + 1)) % xs.length) != -1) = false := by simp [hp]
        have Hp := Lib.hid hp; clear hp
        go_wp2
        go_round
        case rel => exact ⟨k + 1, by omega, by go_num, forall_lt_succ Hpre.out Hp.out⟩
        case measure => simp [intOf]; omega
      · have hp' : (nth xs ((a + (k + 1)) % xs.length) != -1) = true := by simp [hp]
        have Hres := Lib.hid (nextI_some hlt Hpre.out hp); clear hp
        go_wp2
        go_ret
        exact ⟨ret_int Hres.out.symm, rfl⟩
    · have Hres := Lib.hid (nextI_none (xs := xs) (a := a) (fun j hj => Hpre.out j (by omega)))
      go_wp2
      go_ret
      exact ⟨ret_int Hres.out.symm, rfl⟩

theorem nextI_lt {xs : List Int} {a : Nat} (h : 0 ≤ nextI xs a) : (nextI xs a).toNat < xs.length ∧ nextI xs a < xs.length := by
  unfold nextI at h ⊢
  cases hn : nextAt xs a with
  | none => simp [hn] at h
  | some k =>
    have := List.mem_of_find?_eq_some hn
    obtain ⟨i, hi, rfl⟩ := List.mem_map.1 this
    have hpos : 0 < xs.length := by have := List.mem_range.1 hi; omega
    have := Nat.mod_lt (a + (i + 1)) hpos
    simp only [Int.toNat_natCast]
    omega

/-- What both programs answer for the next slice. -/
def sNext (xs : List Int) (at_ : Int) : Value :=
  if slicesOk xs = true ∧ inB at_ 0 (xs.length - 1) = true ∧ 0 ≤ nextI xs at_.toNat then .tuple #[.int .i64 (nextI xs at_.toNat), .int .i64 (nth xs (nextI xs at_.toNat).toNat), .bool true]
  else .tuple #[.int .i64 0, .int .i64 0, .bool false]

theorem slicesOk_len {xs : List Int} (h : slicesOk xs = true) : 1 ≤ xs.length ∧ xs.length ≤ 10 := by
  simp [slicesOk, inB] at h
  omega

theorem ret_val {a b : Value} (h : a = b) : Ending.returned a = .returned b := by rw [h]

set_option maxHeartbeats 1000000 in
theorem SlicesNext_spec (v : Value) (xs : List Int) (at_ : Int) (w : World) (h : RdInts w v xs) :
    Calls Try.prog 20 #[v, .int .i64 at_] w fun e w' => e = .returned (sNext xs at_) ∧ ∃ n, w' = w.drewN n := by
  cases h1 : slicesOk xs
  · have Hres := Lib.hid (show sNext xs at_ = .tuple #[.int .i64 0, .int .i64 0, .bool false] by simp [sNext, h1])
    have H1 := Lib.hid h1; clear h1
    go_enter Try.func20, Try.ntmps20
    go_wp2_with (first | (go_at_call 16; refine (SlicesValid_spec _ xs _ h).mono ?_; rintro e w' ⟨rfl, rfl⟩; rw [H1.out]))
    go_ret3
    exact ⟨ret_val Hres.out.symm, 0, rfl⟩
  obtain ⟨hl1, hl2⟩ := slicesOk_len h1
  cases h2 : inB at_ 0 (xs.length - 1)
  · have Hres := Lib.hid (show sNext xs at_ = .tuple #[.int .i64 0, .int .i64 0, .bool false] by simp [sNext, h2])
    have H1 := Lib.hid h1; clear h1
    have H2 := Lib.hid h2; clear h2
    obtain ⟨ad, c, rfl, hc, hcm, H⟩ := h.open
    unfold maxLen at hcm
    go_enter Try.func20, Try.ntmps20
    go_wp2_with (first | (go_at_call 16; refine (SlicesValid_spec _ xs _ h).mono ?_; rintro e w' ⟨rfl, rfl⟩; rw [H1.out]) | (go_at_call 36; refine (l6In_any _ _ _ _).mono ?_; rintro e w' ⟨rfl, rfl⟩; rw [H2.out]))
    go_ret3
    exact ⟨ret_val Hres.out.symm, 0, rfl⟩
  obtain ⟨ha0, ha1⟩ := inB_iff.1 h2
  obtain ⟨a, rfl⟩ := Int.eq_ofNat_of_zero_le ha0
  have ha : a < xs.length := by omega
  by_cases h3 : 0 ≤ nextI xs a
  · have Hres := Lib.hid (show sNext xs a = .tuple #[.int .i64 (nextI xs a), .int .i64 (nth xs (nextI xs a).toNat), .bool true] by simp [sNext, h1, h2, h3])
    have H1 := Lib.hid h1; clear h1
    have H2 := Lib.hid h2; clear h2
    obtain ⟨h4, h5⟩ := nextI_lt h3
    obtain ⟨ad, c, rfl, hc, hcm, H⟩ := h.open
    unfold maxLen at hcm
    obtain ⟨b, off, rfl, D⟩ := H.at h4
    go_enter Try.func20, Try.ntmps20
    go_wp2_with (first | (go_at_call 16; refine (SlicesValid_spec _ xs _ h).mono ?_; rintro e w' ⟨rfl, rfl⟩; rw [H1.out]) | (go_at_call 36; refine (l6In_any _ _ _ _).mono ?_; rintro e w' ⟨rfl, rfl⟩; rw [H2.out]) | (go_at_call 41; refine (l42Next_any _ xs a _ h ha hl2).mono ?_; rintro e w' ⟨rfl, rfl⟩))
    go_quiet (fail)
    go_wp2
    go_ret3
    exact ⟨ret_val Hres.out.symm, _, rfl⟩
  · have Hres := Lib.hid (show sNext xs a = .tuple #[.int .i64 0, .int .i64 0, .bool false] by simp [sNext, h1, h2, h3])
    have H1 := Lib.hid h1; clear h1
    have H2 := Lib.hid h2; clear h2
    have h3' : nextI xs a < 0 := by omega
    obtain ⟨ad, c, rfl, hc, hcm, H⟩ := h.open
    unfold maxLen at hcm
    go_enter Try.func20, Try.ntmps20
    go_wp2_with (first | (go_at_call 16; refine (SlicesValid_spec _ xs _ h).mono ?_; rintro e w' ⟨rfl, rfl⟩; rw [H1.out]) | (go_at_call 36; refine (l6In_any _ _ _ _).mono ?_; rintro e w' ⟨rfl, rfl⟩; rw [H2.out]) | (go_at_call 41; refine (l42Next_any _ xs a _ h ha hl2).mono ?_; rintro e w' ⟨rfl, rfl⟩))
    go_ret3
    exact ⟨ret_val Hres.out.symm, 0, rfl⟩
end Go.Proofs.Ytpkbfkolllcjgaa
