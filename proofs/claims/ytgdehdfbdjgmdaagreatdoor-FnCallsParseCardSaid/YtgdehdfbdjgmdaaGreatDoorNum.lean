/-
  Walks: a numeral read by the reference.
-/
import Derived.Test.YtgdehdfbdjgmdaaGreatDoorCut
set_option linter.unusedVariables false
namespace Go.Proofs.YtgdehdfbdjgmdaaGreatDoor
open Go.RowKit

/-- What the numerals of numbers up to 9999 give. -/
def NumOk (s : ByteArray) (n : Int) : Prop := ∀ m : Nat, m ≤ 9999 → s = decB m → n = m
theorem num_len {s : ByteArray} (h : ¬ (1 ≤ s.size ∧ s.size ≤ 4)) : NumOk s (-1) := by
  rintro m hm rfl
  exact absurd ⟨by rw [decB_size]; exact dec_pos m, decB_size4 hm⟩ h
theorem decB_get {m k : Nat} (h : k < (decB m).size) : (decB m)[k] ∈ Lib.decDigits m := by
  have : (decB m)[k] = (decB m).data[k]'(by simpa using h) := ByteArray.getElem_eq_getElem_data
  rw [this]
  simp [decB]
theorem num_zero {s : ByteArray} (h : 1 < s.size) (hc : s[0].toNat = 48) : NumOk s (-1) := by
  rintro m hm rfl
  obtain ⟨b, l, e, hb⟩ := dec_head m (by rw [← decB_size]; exact h)
  have : (decB m)[0] = b := by
    rw [ByteArray.getElem_eq_getElem_data]
    simp [decB, e]
  rw [this] at hc
  omega
theorem num_bad {s : ByteArray} {k : Nat} (hk : k < s.size) (h : s[k].toNat < 48 ∨ 57 < s[k].toNat) : NumOk s (-1) := by
  rintro m hm rfl
  have := dec_digit m _ (decB_get hk)
  omega
/-- The number read so far. -/
def NumAt (s : ByteArray) (k : Nat) (z : Nat) : Prop := z < 10 ^ k ∧ Lib.decFrom 0 (s.data.toList.take k) = some z
theorem num_step {s : ByteArray} {k z : Nat} (hk : k < s.size) (h : NumAt s k z) (h1 : 48 ≤ s[k].toNat) (h2 : s[k].toNat ≤ 57) : NumAt s (k + 1) (10 * z + (s[k].toNat - 48)) := by
  refine ⟨by rw [Nat.pow_succ]; have := h.1; omega, ?_⟩
  have e := Lib.decFrom_take s.data.toList k 0 z s[k] (s[k].toNat - 48) h.2 (by simp [ByteArray.getElem_eq_getElem_data, hk]) (by unfold Lib.digitVal; rw [if_pos ⟨h1, h2⟩])
  rw [e]
  congr 1
  omega
theorem num_done {s : ByteArray} {z : Nat} (h : NumAt s s.size z) : NumOk s z := by
  rintro m hm rfl
  have h2 := h.2
  rw [List.take_of_length_le (by simp)] at h2
  have h3 : Lib.decFrom 0 (Lib.decDigits m) = some z := h2
  rw [decFrom_dec] at h3
  have h4 : m = z := by simpa using h3
  rw [h4]

set_option maxRecDepth 100000 in
set_option maxHeartbeats 2000000 in
theorem l43Number_any (s : ByteArray) (w : World) (hs : s.size ≤ 1048577) :
    Calls Tryz.prog 48 #[.string s] w fun e w' => (∃ n : Int, e = .returned (.int .i64 n) ∧ NumOk s n) ∧ w = w' := by
  have L := Lib.hid (l6In_any s.size 1 4)
  by_cases h1 : 1 ≤ s.size ∧ s.size ≤ 4
  · have e1 : inB s.size 1 4 = true := by rw [inB_iff]; omega
    rw [e1] at L
    clear e1
    obtain ⟨h0, h4⟩ := h1
    have i0 : (0 : Int) < s.size := by omega
    by_cases hz : 1 < s.size
    · have g1 : decide ((1 : Int) < (s.size : Int)) = true := by simp; omega
      by_cases hc : s[0].toNat = 48
      · have N := Lib.hid (num_zero hz hc)
        have t : ((s[0].toNat : Int) == 48) = true := by simp [hc]
        clear hc
        go_enter Tryz.func48, Tryz.ntmps48
        go_wp2_with fail
        refine (L.out _).mono ?_; rintro e' w1 ⟨rfl, rfl⟩
        go_wp2_with fail
        go_ret
        exact ⟨⟨_, rfl, N.out⟩, rfl⟩
      · have t : ((s[0].toNat : Int) == 48) = false := by rw [beq_eq_false_iff_ne]; omega
        clear hc
        go_enter Tryz.func48, Tryz.ntmps48
        go_wp2_with fail
        refine (L.out _).mono ?_; rintro e' w1 ⟨rfl, rfl⟩
        go_wp2_with fail
        go_loop [3, 4] (fun n i => ∃ k z : Nat, k ≤ s.size ∧ i = .int .i64 k ∧ n = .int .i64 z ∧ NumAt s k z) (fun _ i => s.size - (intOf i).toNat)
        case atStart => exact ⟨0, 0, Nat.zero_le _, rfl, rfl, by decide, rfl⟩
        case round =>
          obtain ⟨k, z, hk, rfl, rfl, hn⟩ := hrel
          have hz1 : z < 10000 := Nat.lt_of_lt_of_le hn.1 (Nat.pow_le_pow_right (by decide) (show k ≤ 4 by omega))
          have Hn := Lib.hid hn; clear hn
          by_cases hlt : k < s.size
          · by_cases c1 : s[k].toNat < 48
            · have N := Lib.hid (num_bad hlt (.inl c1))
              have t1 : (s[k].toNat : Int) < 48 := by omega
              go_wp2_with fail
              go_ret
              exact ⟨⟨_, rfl, N.out⟩, rfl⟩
            · by_cases c2 : 57 < s[k].toNat
              · have N := Lib.hid (num_bad hlt (.inr c2))
                have t1 : ¬ (s[k].toNat : Int) < 48 := by omega
                have t2 : (57 : Int) < s[k].toNat := by omega
                go_wp2_with fail
                go_ret
                exact ⟨⟨_, rfl, N.out⟩, rfl⟩
              · have N := Lib.hid (num_step hlt Hn.out (by omega) (by omega))
                have t1 : ¬ (s[k].toNat : Int) < 48 := by omega
                have t2 : ¬ (57 : Int) < s[k].toNat := by omega
                have t3 : (48 : Int) ≤ s[k].toNat := by omega
                have t4 : (s[k].toNat : Int) ≤ 57 := by omega
                have ez := Lib.hid (show ((10 * z + (s[k].toNat - 48) : Nat) : Int) = 10 * (z : Int) + ((s[k].toNat : Int) - 48) by omega)
                go_wp2_with fail
                go_round
                case rel => exact ⟨k + 1, _, by omega, by go_num, by rw [ez.out], N.out⟩
                case measure => simp [intOf]; omega
          · obtain rfl : k = s.size := by omega
            have N := Lib.hid (num_done Hn.out)
            go_wp2_with fail
            go_ret
            exact ⟨⟨_, rfl, N.out⟩, rfl⟩
    · have g1 : decide ((1 : Int) < (s.size : Int)) = false := by simp; omega
      go_enter Tryz.func48, Tryz.ntmps48
      go_wp2_with fail
      refine (L.out _).mono ?_; rintro e' w1 ⟨rfl, rfl⟩
      go_wp2_with fail
      go_loop [3, 4] (fun n i => ∃ k z : Nat, k ≤ s.size ∧ i = .int .i64 k ∧ n = .int .i64 z ∧ NumAt s k z) (fun _ i => s.size - (intOf i).toNat)
      case atStart => exact ⟨0, 0, Nat.zero_le _, rfl, rfl, by decide, rfl⟩
      case round =>
        obtain ⟨k, z, hk, rfl, rfl, hn⟩ := hrel
        have hz1 : z < 10000 := Nat.lt_of_lt_of_le hn.1 (Nat.pow_le_pow_right (by decide) (show k ≤ 4 by omega))
        have Hn := Lib.hid hn; clear hn
        by_cases hlt : k < s.size
        · by_cases c1 : s[k].toNat < 48
          · have N := Lib.hid (num_bad hlt (.inl c1))
            have t1 : (s[k].toNat : Int) < 48 := by omega
            go_wp2_with fail
            go_ret
            exact ⟨⟨_, rfl, N.out⟩, rfl⟩
          · by_cases c2 : 57 < s[k].toNat
            · have N := Lib.hid (num_bad hlt (.inr c2))
              have t1 : ¬ (s[k].toNat : Int) < 48 := by omega
              have t2 : (57 : Int) < s[k].toNat := by omega
              go_wp2_with fail
              go_ret
              exact ⟨⟨_, rfl, N.out⟩, rfl⟩
            · have N := Lib.hid (num_step hlt Hn.out (by omega) (by omega))
              have t1 : ¬ (s[k].toNat : Int) < 48 := by omega
              have t2 : ¬ (57 : Int) < s[k].toNat := by omega
              have t3 : (48 : Int) ≤ s[k].toNat := by omega
              have t4 : (s[k].toNat : Int) ≤ 57 := by omega
              have ez := Lib.hid (show ((10 * z + (s[k].toNat - 48) : Nat) : Int) = 10 * (z : Int) + ((s[k].toNat : Int) - 48) by omega)
              go_wp2_with fail
              go_round
              case rel => exact ⟨k + 1, _, by omega, by go_num, by rw [ez.out], N.out⟩
              case measure => simp [intOf]; omega
        · obtain rfl : k = s.size := by omega
          have N := Lib.hid (num_done Hn.out)
          go_wp2_with fail
          go_ret
          exact ⟨⟨_, rfl, N.out⟩, rfl⟩
  · have N := Lib.hid (num_len h1)
    have e1 : inB s.size 1 4 = false := by rw [inB_no]; omega
    rw [e1] at L
    clear e1 h1
    go_enter Tryz.func48, Tryz.ntmps48
    go_wp2_with fail
    refine (L.out _).mono ?_; rintro e' w1 ⟨rfl, rfl⟩
    go_wp2_with fail
    go_ret
    exact ⟨⟨_, rfl, N.out⟩, rfl⟩
end Go.Proofs.YtgdehdfbdjgmdaaGreatDoor
