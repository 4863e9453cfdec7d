/-
  Walks of the program's next slice and of runs over slices: the program's and the reference's.
-/
import Derived.Test.YtpkbfkolllcjgaaMark
namespace Go.Proofs.Ytpkbfkolllcjgaa
open Go.RowKit

theorem sNext_some {xs : List Int} {a k : Nat} (h1 : slicesOk xs = true) (h2 : inB a 0 (xs.length - 1) = true) (hk : k < xs.length) (h : ∀ i, i < k → nth xs ((a + (i + 1)) % xs.length) = -1) (hne : nth xs ((a + (k + 1)) % xs.length) ≠ -1) :
    sNext xs a = .tuple #[.int .i64 (((a : Int) + (k + 1)) % xs.length), .int .i64 (nth xs ((a + (k + 1)) % xs.length)), .bool true] := by
  have hI := nextI_some hk h hne
  have h0 : 0 ≤ ((a : Int) + (k + 1)) % xs.length := Int.emod_nonneg _ (by omega)
  have hN : (((a : Int) + (k + 1)) % xs.length).toNat = (a + (k + 1)) % xs.length := by
    have : ((a : Int) + (k + 1)) % xs.length = (((a + (k + 1)) % xs.length : Nat) : Int) := by push_cast; rfl
    rw [this, Int.toNat_natCast]
  simp only [sNext, h1, h2, Int.toNat_natCast, hI, h0, hN, and_self, if_true]
theorem sNext_no {xs : List Int} {at_ : Int} (h : ¬ (slicesOk xs = true ∧ inB at_ 0 (xs.length - 1) = true ∧ 0 ≤ nextI xs at_.toNat)) : sNext xs at_ = .tuple #[.int .i64 0, .int .i64 0, .bool false] := by
  rw [sNext, if_neg h]

set_option maxHeartbeats 1000000 in
theorem SlicesNext_impl (v : Value) (xs : List Int) (at_ : Int) (w : World) (h : RdInts w v xs) :
    Calls Try.prog 21 #[v, .int .i64 at_] w fun e w' => e = .returned (sNext xs at_) ∧ ∃ n, w' = w.drewN n := by
  cases h1 : slicesOk xs
  · have Hres := Lib.hid (sNext_no (xs := xs) (at_ := at_) (by simp [h1]))
    have H1 := Lib.hid h1; clear h1
    go_enter Try.func21, Try.ntmps21
    go_wp2_with (first | (go_at_call 18; refine (SlicesValid_impl _ xs _ h).mono ?_; rintro e w' ⟨rfl, rfl⟩; rw [H1.out]))
    go_ret3
    exact ⟨ret_val Hres.out.symm, 0, rfl⟩
  obtain ⟨hl1, hl2⟩ := slicesOk_len h1
  cases h2 : inB at_ 0 (xs.length - 1)
  · have Hres := Lib.hid (sNext_no (xs := xs) (at_ := at_) (by simp [h2]))
    have H1 := Lib.hid h1; clear h1
    have H2 := Lib.hid h2; clear h2
    obtain ⟨ad, c, rfl, hc, hcm, H⟩ := h.open
    unfold maxLen at hcm
    go_enter Try.func21, Try.ntmps21
    go_wp2_with (first | (go_at_call 18; refine (SlicesValid_impl _ xs _ h).mono ?_; rintro e w' ⟨rfl, rfl⟩; rw [H1.out]) | (go_at_call 37; refine (within_any _ _ _ _).mono ?_; rintro e w' ⟨rfl, rfl⟩; rw [H2.out]))
    go_ret3
    exact ⟨ret_val Hres.out.symm, 0, rfl⟩
  obtain ⟨ha0, ha1⟩ := inB_iff.1 h2
  obtain ⟨a, rfl⟩ := Int.eq_ofNat_of_zero_le ha0
  have ha : a < xs.length := by omega
  have H1 := Lib.hid h1; clear h1
  have H2 := Lib.hid h2; clear h2
  obtain ⟨ad, c, rfl, hc, hcm, H⟩ := h.open
  unfold maxLen at hcm
  go_enter Try.func21, Try.ntmps21
  go_wp2_with (first | (go_at_call 18; refine (SlicesValid_impl _ xs _ h).mono ?_; rintro e w' ⟨rfl, rfl⟩; rw [H1.out]) | (go_at_call 37; refine (within_any _ _ _ _).mono ?_; rintro e w' ⟨rfl, rfl⟩; rw [H2.out]))
  go_loop [7] (fun i => ∃ k : Nat, k ≤ xs.length ∧ i = .int .i64 (k + 1) ∧ ∀ j, j < k → nth xs ((a + (j + 1)) % xs.length) = -1) (fun i => xs.length + 1 - (intOf i).toNat)
  case atStart => exact ⟨0, Nat.zero_le _, rfl, fun j hj => absurd hj (Nat.not_lt_zero _)⟩
  case round =>
    obtain ⟨k, hk, rfl, hpre⟩ := hrel
    have Hpre := Lib.hid hpre; clear hpre
    clear h
    by_cases hlt : k < xs.length
    · obtain ⟨hm, hm1, hm2⟩ := mod_bounds (a := a) (k := k) (n := xs.length) (by omega)
      obtain ⟨b, off, rfl, D⟩ := H.at hm
      clear H hm
      by_cases hp : nth xs ((a + (k + 1)) % xs.length) = -1
      · have hp' : (nth xs ((a + (k + 1)) % xs.length) != -1) = false := by simp [hp]
        have Hp := Lib.hid hp; clear hp
        go_wp2
        go_round
        case rel => exact ⟨k + 1, by omega, by go_num, forall_lt_succ Hpre.out Hp.out⟩
        case measure => simp [intOf]; omega
      · have hp' : (nth xs ((a + (k + 1)) % xs.length) != -1) = true := by simp [hp]
        have Hres := Lib.hid (sNext_some H1.out H2.out hlt Hpre.out hp); clear hp
        go_wp2
        go_quiet (fail)
        go_wp2
        go_ret3
        exact ⟨ret_val Hres.out.symm, _, rfl⟩
    · have Hres := Lib.hid (sNext_no (xs := xs) (at_ := a) (by rw [Int.toNat_natCast, nextI_none (xs := xs) (a := a) (fun j hj => Hpre.out j (by omega))]; simp))
      go_wp2
      go_ret3
      exact ⟨ret_val Hres.out.symm, 0, rfl⟩

/-- A run: the place and the environments after t rounds. -/
def runTo (xs : List Int) (a : Nat) : Nat → Nat × List Int
  | 0 => (a, [])
  | t + 1 => ((nextI xs (runTo xs a t).1).toNat, (runTo xs a t).2 ++ [nth xs (nextI xs (runTo xs a t).1).toNat])
def runOk (xs : List Int) (at_ many : Int) : Bool := slicesOk xs && inB at_ 0 (xs.length - 1) && inB many 0 100 && decide (0 ≤ nextI xs at_.toNat)
def sRun (xs : List Int) (at_ many : Int) : List Int := if runOk xs at_ many = true then (runTo xs at_.toNat many.toNat).2 else []

theorem nextI_any {xs : List Int} {a b : Nat} (hb : b < xs.length) (h : 0 ≤ nextI xs a) : 0 ≤ nextI xs b := by
  have hpos : 0 < xs.length := by omega
  have hsome : ∃ p, p < xs.length ∧ nth xs p ≠ -1 := by
    unfold nextI at h
    cases hn : nextAt xs a with
    | none => simp [hn] at h
    | some k =>
      have h1 := List.find?_some hn
      have h2 := List.mem_of_find?_eq_some hn
      obtain ⟨i, hi, rfl⟩ := List.mem_map.1 h2
      exact ⟨_, Nat.mod_lt _ hpos, by simpa using h1⟩
  obtain ⟨p, hp, hne⟩ := hsome
  unfold nextI
  cases hn : nextAt xs b with
  | some k => simp
  | none =>
    unfold nextAt at hn
    rw [List.find?_eq_none] at hn
    refine absurd ?_ hne
    have hmem : p ∈ (List.range xs.length).map fun i => (b + (i + 1)) % xs.length := by
      rw [List.mem_map]
      refine ⟨(p + xs.length - b - 1) % xs.length, List.mem_range.2 (Nat.mod_lt _ hpos), ?_⟩
      by_cases hc : b < p
      · have e : p + xs.length - b - 1 = (p - b - 1) + xs.length := by omega
        rw [e, Nat.add_mod_right, Nat.mod_eq_of_lt (show p - b - 1 < xs.length by omega), show b + (p - b - 1 + 1) = p by omega, Nat.mod_eq_of_lt hp]
      · rw [Nat.mod_eq_of_lt (show p + xs.length - b - 1 < xs.length by omega), show b + (p + xs.length - b - 1 + 1) = p + xs.length by omega, Nat.add_mod_right, Nat.mod_eq_of_lt hp]
    simpa using hn p hmem
theorem runTo_lt {xs : List Int} {a : Nat} (ha : a < xs.length) (h : 0 ≤ nextI xs a) : ∀ t, (runTo xs a t).1 < xs.length ∧ 0 ≤ nextI xs (runTo xs a t).1 := by
  intro t
  induction t with
  | zero => exact ⟨ha, h⟩
  | succ t ih =>
    have h1 := (nextI_lt ih.2).1
    exact ⟨h1, nextI_any h1 ih.2⟩
theorem runTo_len {xs : List Int} {a : Nat} : ∀ t, (runTo xs a t).2.length = t := by
  intro t
  induction t with
  | zero => rfl
  | succ t ih => simp [runTo, ih]
theorem sRun_no {xs : List Int} {at_ many : Int} (h : runOk xs at_ many = false) : sRun xs at_ many = [] := by simp [sRun, h]
theorem sRun_yes {xs : List Int} {a t : Nat} (h : runOk xs a t = true) : sRun xs a t = (runTo xs a t).2 := by simp [sRun, h]
theorem ownsRow_drewN {lo : Nat} {w : World} {v : Value} {e sz n : Nat} {xs : List Value} (h : w.ownsRow lo e sz v n xs) (k : Nat) : (w.drewN k).ownsRow lo e sz v n xs := ownsRow_below h (below_drewN (Below.refl _ _) k)
theorem sNext_yes {xs : List Int} {a : Nat} (h1 : slicesOk xs = true) (ha : a < xs.length) (h : 0 ≤ nextI xs a) : sNext xs a = .tuple #[.int .i64 (nextI xs a), .int .i64 (nth xs (nextI xs a).toNat), .bool true] := by
  have h2 : inB (a : Int) 0 (xs.length - 1) = true := inB_iff.2 ⟨by omega, by omega⟩
  rw [sNext, Int.toNat_natCast, if_pos ⟨h1, h2, h⟩]

def lenOf : Value → Nat | .slice _ n _ => n | _ => 0

set_option maxHeartbeats 1000000 in
theorem SlicesRun_impl (v : Value) (xs : List Int) (at_ many : Int) (w : World) (h : RdInts w v xs) :
    Calls Try.prog 31 #[v, .int .i64 at_, .int .i64 many] w fun e w' => ∃ v', e = .returned v' ∧ OwnInts w.heap.size w' v' (sRun xs at_ many) ∧ Below w.heap.size w w' := by
  cases h3 : inB many 0 100
  · have Hres := Lib.hid (sRun_no (xs := xs) (at_ := at_) (many := many) (by simp [runOk, h3]))
    have H3 := Lib.hid h3; clear h3
    go_enter Try.func31, Try.ntmps31
    go_wp2_with (first | (go_at_call 37; refine (within_any _ _ _ _).mono ?_; rintro e w' ⟨rfl, rfl⟩; rw [H3.out]))
    go_ret
    exact ⟨_, rfl, by rw [Hres.out]; exact World.ownsRow_nil _ _ _ _, Below.refl _ _⟩
  obtain ⟨hm0, hm1⟩ := inB_iff.1 h3
  obtain ⟨m, rfl⟩ := Int.eq_ofNat_of_zero_le hm0
  have H3 := Lib.hid h3; clear h3
  by_cases hz : m = 0
  · have hz' : ¬ ((0 : Int) < m) := by omega
    have Hres := Lib.hid (show sRun xs at_ m = [] by unfold sRun; rw [Int.toNat_natCast, hz]; split <;> rfl)
    clear hz
    go_enter Try.func31, Try.ntmps31
    go_wp2_with (first | (go_at_call 37; refine (within_any _ _ _ _).mono ?_; rintro e w' ⟨rfl, rfl⟩; rw [H3.out]))
    refine wp_loop_rounds 1 ?_; rw [rounds_succ]
    go_wp2
    go_ret
    exact ⟨_, rfl, by rw [Hres.out]; exact World.ownsRow_nil _ _ _ _, Below.refl _ _⟩
  cases hok : runOk xs at_ m
  · have Hres := Lib.hid (sRun_no hok)
    have Hno := Lib.hid (sNext_no (xs := xs) (at_ := at_) (by
      rintro ⟨q1, q2, q3⟩
      simp [runOk, q1, q2, q3, H3.out] at hok))
    clear hok
    have hz' : (0 : Int) < m := by omega
    clear hz
    go_enter Try.func31, Try.ntmps31
    go_wp2_with (first | (go_at_call 37; refine (within_any _ _ _ _).mono ?_; rintro e w' ⟨rfl, rfl⟩; rw [H3.out]))
    refine wp_loop_rounds 1 ?_; rw [rounds_succ]
    go_wp2_with (first | (go_at_call 21; refine (SlicesNext_impl _ xs _ _ h).mono ?_; rintro e w' ⟨rfl, n, rfl⟩; rw [Hno.out]))
    go_ret
    exact ⟨_, rfl, by rw [Hres.out]; exact World.ownsRow_nil _ _ _ _, below_drewN (Below.refl _ _) _⟩
  · have hok' := hok
    simp only [runOk, Bool.and_eq_true, decide_eq_true_eq] at hok'
    obtain ⟨⟨⟨q1, q2⟩, _⟩, q3⟩ := hok'
    obtain ⟨ha0, ha1⟩ := inB_iff.1 q2
    obtain ⟨a, rfl⟩ := Int.eq_ofNat_of_zero_le ha0
    rw [Int.toNat_natCast] at q3
    have Hres := Lib.hid (sRun_yes hok)
    have Hrun := Lib.hid (runTo_lt (xs := xs) (a := a) (by omega) q3)
    have Q1 := Lib.hid q1
    clear hok q1 q2 q3 hz
    go_enter Try.func31, Try.ntmps31
    go_wp2_with (first | (go_at_call 37; refine (within_any _ _ _ _).mono ?_; rintro e w' ⟨rfl, rfl⟩; rw [H3.out]))
    go_loopw [1, 7, 15] (fun p o i wr => ∃ t : Nat, t ≤ m ∧ i = .int .i64 t ∧ p = .int .i64 (runTo xs a t).1 ∧ wr.ownsRow w.heap.size 3 1 o t ((runTo xs a t).2.map (Value.int .i64)) ∧ Below w.heap.size w wr) (fun _ _ i _ => m - (intOf i).toNat)
    case atStart => exact ⟨0, Nat.zero_le _, rfl, rfl, World.ownsRow_nil _ _ _ _, Below.refl _ _⟩
    case round =>
      obtain ⟨t, ht, rfl, rfl, hown, hbel⟩ := hrel
      by_cases hlt : t < m
      · have hr := Hrun.out t
        have Hy := Lib.hid (sNext_yes Q1.out hr.1 hr.2)
        clear hr
        have hsz := hbel.size
        go_wp2_with (first | (go_at_call 21; refine (SlicesNext_impl _ xs _ _ (h.below hbel)).mono ?_; rintro e w' ⟨rfl, n, rfl⟩; rw [Hy.out]) | (refine wp_append (lo := w.heap.size) (n := t) (xs := (runTo xs a t).2.map (Value.int .i64)) (m := 1) (news := [.int .i64 (nth xs (nextI xs (runTo xs a t).1).toNat)]) rfl rfl 3 (.int .i64 0) 1 8 Try.underlying22 Try.infoInt rfl (by decide) rfl ((ownsRow_drewN hown _).alloc _) rfl (Rd.news _ #[_] _ 1 1 rfl (by simp [maxLen])) (by simp [Value.oneCell']) (by unfold maxLen; omega) (by omega) (by simp; omega) ?_; intro v' w1 hown' _ hbel'))
        go_roundw
        case rel =>
          refine ⟨t + 1, by omega, by go_num, ?_, by simpa [runTo] using hown', ?_⟩
          · have hr := Hrun.out t
            simp only [runTo]
            rw [Int.toNat_of_nonneg hr.2]
          · exact ((below_drewN hbel _).alloc (by simpa using hsz) _).trans hbel'
        case measure => simp [intOf]; omega
      · obtain rfl : t = m := by omega
        go_wp2
        go_ret
        refine ⟨_, rfl, ?_, hbel⟩
        unfold OwnInts
        rw [Hres.out, runTo_len]
        exact hown

set_option maxHeartbeats 1000000 in
theorem SlicesRun_spec (v : Value) (xs : List Int) (at_ many : Int) (w : World) (h : RdInts w v xs) :
    Calls Try.prog 30 #[v, .int .i64 at_, .int .i64 many] w fun e w' => ∃ v', e = .returned v' ∧ OwnInts w.heap.size w' v' (sRun xs at_ many) ∧ Below w.heap.size w w' := by
  have hE := ownsRow_empty w 3 1
  have hB := (Below.refl w.heap.size w).alloc (Nat.le_refl _) (.cells #[] 3)
  have HE := Lib.hid hE; clear hE
  have hA := h.alloc (.cells #[] 3)
  cases h1 : slicesOk xs
  · have Hres := Lib.hid (sRun_no (xs := xs) (at_ := at_) (many := many) (by simp [runOk, h1]))
    have H1 := Lib.hid h1; clear h1
    go_enter Try.func30, Try.ntmps30
    go_wp2_with (first | (go_at_call 16; refine (SlicesValid_spec _ xs _ hA).mono ?_; rintro e w' ⟨rfl, rfl⟩; rw [H1.out]))
    go_ret
    exact ⟨_, rfl, by rw [Hres.out]; exact HE.out, hB⟩
  obtain ⟨hl1, hl2⟩ := slicesOk_len h1
  obtain ⟨ad, c, hv, hc, hcm, HA⟩ := h.open
  subst hv
  unfold maxLen at hcm
  cases h2 : inB at_ 0 (xs.length - 1)
  · have Hres := Lib.hid (sRun_no (xs := xs) (at_ := at_) (many := many) (by simp [runOk, h2]))
    have H1 := Lib.hid h1; clear h1
    have H2 := Lib.hid h2; clear h2
    go_enter Try.func30, Try.ntmps30
    go_wp2_with (first | (go_at_call 16; refine (SlicesValid_spec _ xs _ hA).mono ?_; rintro e w' ⟨rfl, rfl⟩; rw [H1.out]) | (go_at_call 36; refine (l6In_any _ _ _ _).mono ?_; rintro e w' ⟨rfl, rfl⟩; rw [H2.out]))
    go_ret
    exact ⟨_, rfl, by rw [Hres.out]; exact HE.out, hB⟩
  cases h3 : inB many 0 100
  · have Hres := Lib.hid (sRun_no (xs := xs) (at_ := at_) (many := many) (by simp [runOk, h3]))
    have H1 := Lib.hid h1; clear h1
    have H2 := Lib.hid h2; clear h2
    have H3 := Lib.hid h3; clear h3
    go_enter Try.func30, Try.ntmps30
    go_wp2_with (first | (go_at_call 16; refine (SlicesValid_spec _ xs _ hA).mono ?_; rintro e w' ⟨rfl, rfl⟩; rw [H1.out]) | (go_at_call 36; refine (l6In_any _ _ _ _).mono ?_; rintro e w' ⟨rfl, rfl⟩; first | rw [H2.out] | rw [H3.out]))
    go_ret
    exact ⟨_, rfl, by rw [Hres.out]; exact HE.out, hB⟩
  obtain ⟨ha0, ha1⟩ := inB_iff.1 h2
  obtain ⟨a, rfl⟩ := Int.eq_ofNat_of_zero_le ha0
  obtain ⟨hm0, hm1⟩ := inB_iff.1 h3
  obtain ⟨m, rfl⟩ := Int.eq_ofNat_of_zero_le hm0
  have ha : a < xs.length := by omega
  by_cases h4 : 0 ≤ nextI xs a
  · have hok : runOk xs a m = true := by simp [runOk, h1, h2, h3, h4]
    have Hres := Lib.hid (sRun_yes hok)
    have Hrun := Lib.hid (runTo_lt ha h4)
    have h4' : ¬ (nextI xs a < 0) := by omega
    have H1 := Lib.hid h1; clear h1
    have H2 := Lib.hid h2; clear h2
    have H3 := Lib.hid h3; clear h3
    clear hok h4
    go_enter Try.func30, Try.ntmps30
    go_wp2_with (first | (go_at_call 16; refine (SlicesValid_spec _ xs _ hA).mono ?_; rintro e w' ⟨rfl, rfl⟩; rw [H1.out]) | (go_at_call 36; refine (l6In_any _ _ _ _).mono ?_; rintro e w' ⟨rfl, rfl⟩; first | rw [H2.out] | rw [H3.out]) | (go_at_call 41; refine (l42Next_any _ xs a _ hA ha hl2).mono ?_; rintro e w' ⟨rfl, rfl⟩))
    go_loopw [1, 7] (fun p o wr => ∃ t cap : Nat, ∃ ad : Option Addr, t ≤ m ∧ p = .int .i64 (runTo xs a t).1 ∧ o = .slice ad t cap ∧ wr.ownsRow w.heap.size 3 1 o t ((runTo xs a t).2.map (Value.int .i64)) ∧ Below w.heap.size w wr) (fun _ o _ => m - lenOf o)
    case atStart => exact ⟨0, 0, _, Nat.zero_le _, rfl, rfl, HE.out, hB⟩
    case round =>
      obtain ⟨t, cap, ao, ht, rfl, rfl, hown, hbel⟩ := hrel
      have hsz := hbel.size
      by_cases hlt : t < m
      · have hr := Hrun.out t
        obtain ⟨hn1, hn2⟩ := nextI_lt hr.2
        obtain ⟨b, off, rfl, D⟩ := (HA.below hbel).at hn1
        have hr0 := hr.2
        go_wp2_with (first | (go_at_call 41; refine (l42Next_any _ xs _ _ (h.below hbel) hr.1 hl2).mono ?_; rintro e w' ⟨rfl, rfl⟩) | (refine wp_append (lo := w.heap.size) (n := t) (xs := (runTo xs a t).2.map (Value.int .i64)) (m := 1) (news := [.int .i64 (nth xs (nextI xs (runTo xs a t).1).toNat)]) rfl rfl 3 (.int .i64 0) 1 8 Try.underlying22 Try.infoInt rfl (by decide) rfl (hown.alloc _) rfl (Rd.news _ #[_] _ 1 1 rfl (by simp [maxLen])) (by simp [Value.oneCell']) (by unfold maxLen; omega) (by omega) (by simp; omega) ?_; intro v' w1 hown' _ hbel'; obtain ⟨g', cap', rfl, _, _⟩ := own_shape hown' (by omega)))
        go_roundw
        case rel =>
          refine ⟨t + 1, _, _, by omega, ?_, rfl, by simpa [runTo] using hown', ?_⟩
          · simp only [runTo]
            rw [Int.toNat_of_nonneg hr.2]
          · exact (hbel.alloc (by simpa using hsz) _).trans hbel'
        case measure => simp [lenOf]; omega
      · obtain rfl : t = m := by omega
        go_wp2
        go_ret
        refine ⟨_, rfl, ?_, hbel⟩
        unfold OwnInts
        rw [Hres.out, runTo_len]
        exact hown
  · have hok : runOk xs a m = false := by simp [runOk, h1, h2, h3, h4]
    have Hres := Lib.hid (sRun_no hok)
    have h4' : nextI xs a < 0 := by omega
    have H1 := Lib.hid h1; clear h1
    have H2 := Lib.hid h2; clear h2
    have H3 := Lib.hid h3; clear h3
    clear hok h4
    go_enter Try.func30, Try.ntmps30
    go_wp2_with (first | (go_at_call 16; refine (SlicesValid_spec _ xs _ hA).mono ?_; rintro e w' ⟨rfl, rfl⟩; rw [H1.out]) | (go_at_call 36; refine (l6In_any _ _ _ _).mono ?_; rintro e w' ⟨rfl, rfl⟩; first | rw [H2.out] | rw [H3.out]) | (go_at_call 41; refine (l42Next_any _ xs a _ hA ha hl2).mono ?_; rintro e w' ⟨rfl, rfl⟩))
    go_ret
    exact ⟨_, rfl, by rw [Hres.out]; exact HE.out, hB⟩
end Go.Proofs.Ytpkbfkolllcjgaa
