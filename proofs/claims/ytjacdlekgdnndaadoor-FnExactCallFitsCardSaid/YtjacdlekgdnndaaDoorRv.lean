/-
  Walks: the reference's test of a right.
-/
import Derived.Test.YtjacdlekgdnndaaDoorCore
set_option linter.unusedVariables false
namespace Go.Proofs.YtjacdlekgdnndaaDoor
open Go.RowKit

theorem rightOk_bad {s : ByteArray} {k : Nat} (h : k < s.size) (hc : letterOk s[k] = false) : rightOk s = false := by
  have : s.data.toList.all letterOk = false := by
    rw [List.all_eq_false]
    exact ⟨s[k], by simp [ByteArray.getElem_eq_getElem_data], by simp [hc]⟩
  simp [rightOk, this]
theorem rightOk_good {s : ByteArray} (h : ∀ k (hk : k < s.size), letterOk s[k] = true) : rightOk s = decide ((s.size : Int) ≤ 4) := by
  have : s.data.toList.all letterOk = true := by
    rw [List.all_eq_true]
    intro x hx
    obtain ⟨k, hk, rfl⟩ := List.getElem_of_mem hx
    have := h k (by simpa using hk)
    simpa [ByteArray.getElem_eq_getElem_data] using this
  rw [rightOk, this, Bool.true_and]
  by_cases h4 : s.size ≤ 4
  · have : (s.size : Int) ≤ 4 := by omega
    simp [h4, this]
  · have : ¬ (s.size : Int) ≤ 4 := by omega
    simp [h4, this]

set_option maxHeartbeats 1000000 in
theorem RightValid_spec (s : ByteArray) (w : World) (hs : s.size ≤ maxLen) :
    Calls Tryd.prog 9 #[.string s] w fun e w' => e = .returned (.bool (rightOk s)) ∧ w = w' := by
  unfold maxLen at hs
  go_enter Tryd.func9, Tryd.ntmps9
  go_wp2_with fail
  go_loop [3] (fun i => ∃ k : Nat, k ≤ s.size ∧ i = .int .i64 k ∧ ∀ j (hj : j < s.size), j < k → letterOk s[j] = true) (fun i => s.size - (intOf i).toNat)
  case atStart => exact ⟨0, Nat.zero_le _, rfl, fun j _ hj => absurd hj (Nat.not_lt_zero _)⟩
  case round =>
    obtain ⟨k, hk, rfl, hpre⟩ := hrel
    have Hpre := Lib.hid hpre; clear hpre
    by_cases hlt : k < s.size
    · by_cases h1 : s[k].toNat < 97
      · have S := Lib.hid (rightOk_bad (s := s) hlt (by simp [letterOk]; omega))
        have t1 : (s[k].toNat : Int) < 97 := by omega
        go_wp2_with fail
        go_ret
        exact ⟨ret_bool S.out.symm, rfl⟩
      · by_cases h2 : 99 < s[k].toNat
        · have S := Lib.hid (rightOk_bad (s := s) hlt (by simp [letterOk]; omega))
          have t1 : (99 : Int) < s[k].toNat := by omega
          have t2 : ¬ (s[k].toNat : Int) < 97 := by omega
          go_wp2_with fail
          go_ret
          exact ⟨ret_bool S.out.symm, rfl⟩
        · have Ok := Lib.hid (show letterOk s[k] = true by simp [letterOk]; omega)
          have t1 : ¬ (99 : Int) < s[k].toNat := by omega
          have t2 : ¬ (s[k].toNat : Int) < 97 := by omega
          go_wp2_with fail
          go_round
          case rel => exact ⟨k + 1, by omega, by go_num, fun j hj hjk => by
            rcases Nat.lt_succ_iff_lt_or_eq.1 hjk with h | h
            · exact Hpre.out j hj h
            · subst h; exact Ok.out⟩
          case measure => simp [intOf]; omega
    · have S := Lib.hid (rightOk_good (s := s) (fun j hj => Hpre.out j hj (by omega)))
      go_wp2_with fail
      go_ret
      exact ⟨ret_bool S.out.symm, rfl⟩
end Go.Proofs.YtjacdlekgdnndaaDoor
