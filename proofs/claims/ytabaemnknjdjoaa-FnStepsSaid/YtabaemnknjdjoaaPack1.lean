/-
  Walks: the words of a page, and equality of two lists of numbers.
-/
import Derived.Test.YtabaemnknjdjoaaPackPlain
namespace Go.Proofs.Ytabaemnknjdjoaa
open Go.RowKit

set_option maxHeartbeats 400000 in
theorem isWord_any (n : Int) (w : World) :
    Calls Try.prog 50 #[.int .i64 n] w fun e w' => e = .returned (.bool (inB n 0 9999)) ∧ w = w' := by
  go_enter Try.func50, Try.ntmps50
  go_wp2_with (go_at_call 38; refine (within_any _ _ _ _).mono ?_; rintro e w' ⟨rfl, rfl⟩)
  go_ret
  exact ⟨rfl, rfl⟩

set_option maxHeartbeats 400000 in
theorem isWords1_any (n : Int) (w : World) :
    Calls Try.prog 55 #[.int .i64 n] w fun e w' => e = .returned (.bool (!inB n 0 9999)) ∧ w = w' := by
  go_enter Try.func55, Try.ntmps55
  go_wp2_with (go_at_call 50; refine (isWord_any _ _).mono ?_; rintro e w' ⟨rfl, rfl⟩)
  go_ret
  exact ⟨rfl, rfl⟩

theorem wordsOk_not (xs : List Int) : (!xs.any fun x => !inB x 0 9999) = xs.all (inB · 0 9999) := by
  simp [List.all_eq_not_any_not]

set_option maxHeartbeats 400000 in
theorem isWords_any (v : Value) (xs : List Int) (w : World) (h : RdInts w v xs) :
    Calls Try.prog 41 #[v] w fun e w' => e = .returned (.bool (wordsOk xs)) ∧ w = w' := by
  obtain ⟨a, c, rfl, hc, hcm, H0⟩ := h.open
  unfold maxLen at hcm
  by_cases h4 : xs.length = 4
  · have e1 : wordsOk xs = xs.all (inB · 0 9999) := by simp [wordsOk, h4]
    have hb : ((xs.length : Int) == 4) = true := by simp [h4]
    have H := Lib.hid e1; clear e1
    clear h4
    go_enter Try.func41, Try.ntmps41
    go_wp2_with (go_at_call 54; refine (ContainsFunc_any 55 #[] (fun x => !inB x 0 9999) _ xs _ h (fun _ _ => by kernel_rfl) (fun x w => isWords1_any x w)).mono ?_; rintro e w' ⟨rfl, rfl⟩)
    go_ret
    exact ⟨ret_bool (by rw [H.out, wordsOk_not]), rfl⟩
  · have e1 : wordsOk xs = false := by simp [wordsOk, h4]
    have hb : ((xs.length : Int) == 4) = false := by simp; omega
    have H := Lib.hid e1; clear e1
    clear h4
    go_enter Try.func41, Try.ntmps41
    go_wp2_with fail
    go_ret
    exact ⟨ret_bool H.out.symm, rfl⟩

theorem wordsOk_bad {xs : List Int} {k : Nat} (hk : k < xs.length) (h : inB (nth xs k) 0 9999 = false) : wordsOk xs = false := by
  simp only [wordsOk, Bool.and_eq_false_iff]
  refine .inr ?_
  rw [List.all_eq_false]
  exact ⟨nth xs k, by rw [nth_eq hk]; exact List.getElem_mem hk, by simp [h]⟩

theorem wordsOk_good {xs : List Int} (h : ∀ j, j < xs.length → inB (nth xs j) 0 9999 = true) : wordsOk xs = decide ((xs.length : Int) = 4) := by
  have : xs.all (inB · 0 9999) = true := by
    rw [List.all_eq_true]
    intro x hx
    obtain ⟨j, hj, rfl⟩ := List.getElem_of_mem hx
    have := h j hj
    rwa [nth_eq hj] at this
  rw [wordsOk, this, Bool.and_true]
  by_cases h4 : xs.length = 4
  · simp [h4]
  · have : ¬ (xs.length : Int) = 4 := by omega
    simp [h4, this]

set_option maxHeartbeats 400000 in
theorem l34Page_any (v : Value) (xs : List Int) (w : World) (h : RdInts w v xs) :
    Calls Try.prog 53 #[v] w fun e w' => e = .returned (.bool (wordsOk xs)) ∧ w = w' := by
  obtain ⟨a, c, rfl, hc, hcm, H0⟩ := h.open
  unfold maxLen at hcm
  go_enter Try.func53, Try.ntmps53
  go_wp2_with fail
  go_loop [3] (fun i => ∃ k : Nat, k ≤ xs.length ∧ i = .int .i64 k ∧ ∀ j, j < k → inB (nth xs j) 0 9999 = true) (fun i => xs.length - (intOf i).toNat)
  case atStart => exact ⟨0, Nat.zero_le _, rfl, fun j hj => absurd hj (Nat.not_lt_zero _)⟩
  case round =>
    obtain ⟨k, hk, rfl, hpre⟩ := hrel
    have Hpre := Lib.hid hpre; clear hpre
    by_cases hlt : k < xs.length
    · obtain ⟨b, off, rfl, D⟩ := H0.at hlt
      clear H0
      cases hin : inB (nth xs k) 0 9999
      · have S := Lib.hid (wordsOk_bad hlt hin)
        have Hin := Lib.hid hin; clear hin
        go_wp2_with (go_at_call 46; refine (l6In_any _ _ _ _).mono ?_; rintro e w' ⟨rfl, rfl⟩; rw [Hin.out])
        go_ret
        exact ⟨ret_bool S.out.symm, rfl⟩
      · have Hin := Lib.hid hin; clear hin
        go_wp2_with (go_at_call 46; refine (l6In_any _ _ _ _).mono ?_; rintro e w' ⟨rfl, rfl⟩; rw [Hin.out])
        go_round
        case rel => exact ⟨k + 1, by omega, by go_num, forall_lt_succ Hpre.out Hin.out⟩
        case measure => simp [intOf]; omega
    · have S := Lib.hid (wordsOk_good (xs := xs) (fun j hj => Hpre.out j (by omega)))
      go_wp2_with fail
      go_ret
      exact ⟨ret_bool S.out.symm, rfl⟩

set_option maxHeartbeats 400000 in
theorem l34Same_any (v1 v2 : Value) (xs ys : List Int) (w : World) (h1 : RdInts w v1 xs) (h2 : RdInts w v2 ys) :
    Calls Try.prog 40 #[v1, v2] w fun e w' => e = .returned (.bool (decide (xs = ys))) ∧ ∃ n, w' = w.drewN n := by
  obtain ⟨a1, c1, rfl, hc1, hcm1, H1⟩ := h1.open
  obtain ⟨a2, c2, rfl, hc2, hcm2, H2⟩ := h2.open
  clear h1 h2
  unfold maxLen at hcm1 hcm2
  by_cases hlen : (xs.length : Int) = ys.length
  · have hb : ((xs.length : Int) != ys.length) = false := by simp [hlen]
    have hlen' : xs.length ≤ ys.length ∧ ys.length ≤ xs.length := by omega
    clear hlen
    go_enter Try.func40, Try.ntmps40
    go_wp2
    go_loopw [5] (fun i wr => ∃ k : Nat, k ≤ xs.length ∧ i = .int .i64 k ∧ (∀ j, j < k → nth xs j = nth ys j) ∧ ∃ n, wr = w.drewN n) (fun i _ => xs.length - (intOf i).toNat)
    case atStart => exact ⟨0, Nat.zero_le _, rfl, fun j hj => absurd hj (Nat.not_lt_zero _), 0, rfl⟩
    case round =>
      obtain ⟨k, hk, rfl, hpre, n, rfl⟩ := hrel
      have Hpre := Lib.hid hpre
      clear hpre
      by_cases hlt : k < xs.length
      · obtain ⟨b1, o1, rfl, D1⟩ := H1.at hlt
        have hlt2 : k < ys.length := by omega
        obtain ⟨b2, o2, rfl, D2⟩ := H2.at hlt2
        clear H1 H2
        by_cases he : nth xs k = nth ys k
        · have he' : (nth xs k != nth ys k) = false := by simp [he]
          have He := Lib.hid he; clear he
          go_wp2
          go_quiet (fail)
          go_wp2
          go_roundw
          case rel => exact ⟨k + 1, by omega, by go_num, forall_lt_succ Hpre.out He.out, _, rfl⟩
          case measure => simp [intOf]; omega
        · have he' : (nth xs k != nth ys k) = true := by simp [he]
          have Hres := Lib.hid (ne_of_nth he); clear he
          go_wp2
          go_quiet (fail)
          go_wp2
          go_ret
          first | exact ⟨ret_bool Hres.out.symm, ex_drew2 _ _ _⟩ | exact ⟨ret_bool Hres.out.symm, ex_drew1 _ _⟩
      · have Hres := Lib.hid (eq_of_nth (xs := xs) (ys := ys) (by omega) (fun j hj => Hpre.out j (by omega)))
        go_wp2
        go_ret
        exact ⟨ret_bool (by simp [Hres.out]), _, rfl⟩
  · have hb : ((xs.length : Int) != ys.length) = true := by simp [hlen]
    have Hres := Lib.hid (ne_of_len (xs := xs) (ys := ys) (by omega))
    clear hlen
    go_enter Try.func40, Try.ntmps40
    go_wp2
    go_ret
    exact ⟨ret_bool Hres.out.symm, 0, rfl⟩

set_option maxHeartbeats 400000 in
theorem EqualInts_any (v1 v2 : Value) (xs ys : List Int) (w : World) (h1 : RdInts w v1 xs) (h2 : RdInts w v2 ys) :
    Calls Try.prog 39 #[v1, v2] w fun e w' => e = .returned (.bool (decide (xs = ys))) ∧ ∃ n, w' = w.drewN n := by
  obtain ⟨a1, c1, rfl, hc1, hcm1, H1⟩ := h1.open
  obtain ⟨a2, c2, rfl, hc2, hcm2, H2⟩ := h2.open
  clear h1 h2
  unfold maxLen at hcm1 hcm2
  by_cases hlen : (xs.length : Int) = ys.length
  · have hb : ((xs.length : Int) != ys.length) = false := by simp [hlen]
    have hlen' : xs.length ≤ ys.length ∧ ys.length ≤ xs.length := by omega
    clear hlen
    go_enter Try.func39, Try.ntmps39
    go_wp2
    go_loopw [13] (fun i wr => ∃ k : Nat, k ≤ xs.length ∧ i = .int .i64 k ∧ (∀ j, j < k → nth xs j = nth ys j) ∧ ∃ n, wr = w.drewN n) (fun i _ => xs.length - (intOf i).toNat)
    case atStart => exact ⟨0, Nat.zero_le _, rfl, fun j hj => absurd hj (Nat.not_lt_zero _), 0, rfl⟩
    case round =>
      obtain ⟨k, hk, rfl, hpre, n, rfl⟩ := hrel
      have Hpre := Lib.hid hpre
      clear hpre
      by_cases hlt : k < xs.length
      · obtain ⟨b1, o1, rfl, D1⟩ := H1.at hlt
        have hlt2 : k < ys.length := by omega
        obtain ⟨b2, o2, rfl, D2⟩ := H2.at hlt2
        clear H1 H2
        by_cases he : nth xs k = nth ys k
        · have he' : (nth xs k != nth ys k) = false := by simp [he]
          have He := Lib.hid he; clear he
          go_wp2
          go_quiet (fail)
          go_wp2
          go_roundw
          case rel => exact ⟨k + 1, by omega, by go_num, forall_lt_succ Hpre.out He.out, _, rfl⟩
          case measure => simp [intOf]; omega
        · have he' : (nth xs k != nth ys k) = true := by simp [he]
          have Hres := Lib.hid (ne_of_nth he); clear he
          go_wp2
          go_quiet (fail)
          go_wp2
          go_ret
          first | exact ⟨ret_bool Hres.out.symm, ex_drew2 _ _ _⟩ | exact ⟨ret_bool Hres.out.symm, ex_drew1 _ _⟩
      · have Hres := Lib.hid (eq_of_nth (xs := xs) (ys := ys) (by omega) (fun j hj => Hpre.out j (by omega)))
        go_wp2
        go_ret
        exact ⟨ret_bool (by simp [Hres.out]), _, rfl⟩
  · have hb : ((xs.length : Int) != ys.length) = true := by simp [hlen]
    have Hres := Lib.hid (ne_of_len (xs := xs) (ys := ys) (by omega))
    clear hlen
    go_enter Try.func39, Try.ntmps39
    go_wp2
    go_ret
    exact ⟨ret_bool Hres.out.symm, 0, rfl⟩
end Go.Proofs.Ytabaemnknjdjoaa
