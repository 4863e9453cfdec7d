/-
  Walks: the reference's tests of rights.
-/
import Derived.Test.YtabaemnknjdjoaaKern
set_option linter.unusedVariables false
namespace Go.Proofs.Ytabaemnknjdjoaa
open Go.RowKit

theorem quiet_left {P : Program} {f : FuncId} {args : Array Value} {w : World} {n : Nat} {v : Value} (h : Calls P f args (w.drewN n) fun e w' => e = .returned v ∧ w.drewN n = w') : Calls P f args (w.drewN n) fun e w'' => e = .returned v ∧ ∃ m, w'' = w.drewN m :=
  h.mono fun _ _ ⟨he, hm⟩ => ⟨he, n, hm.symm⟩
theorem ex_drew {w wr : World} (h : ∃ n, wr = w.drewN n) (m : Nat) : ∃ n, wr.drewN m = w.drewN n := by
  obtain ⟨n, rfl⟩ := h
  exact ⟨n + m, drewN_drewN w n m⟩

/-- A letter of a right. -/
def letterOk (c : UInt8) : Bool := decide (97 ≤ c.toNat) && decide (c.toNat ≤ 99)
/-- A right. -/
def rightOk (s : ByteArray) : Bool := s.data.toList.all letterOk && decide (s.size ≤ 4)
/-- The text k of a list. -/
def nthS (ss : List ByteArray) (k : Nat) : ByteArray := ss.getD k ⟨#[]⟩
theorem nthS_lt {ss : List ByteArray} {k : Nat} (h : k < ss.length) : ss[k]? = some (nthS ss k) := by simp [nthS, h]
def geB (a b : ByteArray) : Bool := !Op.bytesLess a.toList b.toList
def stepRight (ss : List ByteArray) (i : Nat) : Bool := rightOk (nthS ss i) && (decide (i = 0) || !geB (nthS ss (i - 1)) (nthS ss i))
/-- The rights of an environment. -/
def rightsOk (ss : List ByteArray) : Bool := (List.range ss.length).all (stepRight ss) && decide (ss.length ≤ 6)

theorem rightOk_bad {s : ByteArray} {k : Nat} (h : k < s.size) (hc : letterOk s[k] = false) : rightOk s = false := by
  have : s.data.toList.all letterOk = false := by
    rw [List.all_eq_false]
    exact ⟨s[k], by simp [ByteArray.getElem_eq_getElem_data], by simp [hc]⟩
  simp [rightOk, this]
theorem rightOk_good {s : ByteArray} (h : ∀ k (hk : k < s.size), letterOk s[k] = true) : rightOk s = decide ((s.size : Int) ≤ 4) := by
  have : s.data.toList.all letterOk = true := by
    rw [List.all_eq_true]
    intro x hx
    obtain ⟨k, hk, rfl⟩ := List.getElem_of_mem hx
    have := h k (by simpa using hk)
    simpa [ByteArray.getElem_eq_getElem_data] using this
  rw [rightOk, this, Bool.true_and]
  by_cases h4 : s.size ≤ 4
  · have : (s.size : Int) ≤ 4 := by omega
    simp [h4, this]
  · have : ¬ (s.size : Int) ≤ 4 := by omega
    simp [h4, this]

set_option maxHeartbeats 1000000 in
theorem RightValid_spec (s : ByteArray) (w : World) (hs : s.size ≤ maxLen) :
    Calls Try.prog 64 #[.string s] w fun e w' => e = .returned (.bool (rightOk s)) ∧ w = w' := by
  unfold maxLen at hs
  go_enter Try.func64, Try.ntmps64
  go_wp2_with fail
  go_loop [3] (fun i => ∃ k : Nat, k ≤ s.size ∧ i = .int .i64 k ∧ ∀ j (hj : j < s.size), j < k → letterOk s[j] = true) (fun i => s.size - (intOf i).toNat)
  case atStart => exact ⟨0, Nat.zero_le _, rfl, fun j _ hj => absurd hj (Nat.not_lt_zero _)⟩
  case round =>
    obtain ⟨k, hk, rfl, hpre⟩ := hrel
    have Hpre := Lib.hid hpre; clear hpre
    by_cases hlt : k < s.size
    · by_cases h1 : s[k].toNat < 97
      · have S := Lib.hid (rightOk_bad (s := s) hlt (by simp [letterOk]; omega))
        have t1 : (s[k].toNat : Int) < 97 := by omega
        go_wp2_with fail
        go_ret
        exact ⟨ret_bool S.out.symm, rfl⟩
      · by_cases h2 : 99 < s[k].toNat
        · have S := Lib.hid (rightOk_bad (s := s) hlt (by simp [letterOk]; omega))
          have t1 : (99 : Int) < s[k].toNat := by omega
          have t2 : ¬ (s[k].toNat : Int) < 97 := by omega
          go_wp2_with fail
          go_ret
          exact ⟨ret_bool S.out.symm, rfl⟩
        · have Ok := Lib.hid (show letterOk s[k] = true by simp [letterOk]; omega)
          have t1 : ¬ (99 : Int) < s[k].toNat := by omega
          have t2 : ¬ (s[k].toNat : Int) < 97 := by omega
          go_wp2_with fail
          go_round
          case rel => exact ⟨k + 1, by omega, by go_num, fun j hj hjk => by
            rcases Nat.lt_succ_iff_lt_or_eq.1 hjk with h | h
            · exact Hpre.out j hj h
            · subst h; exact Ok.out⟩
          case measure => simp [intOf]; omega
    · have S := Lib.hid (rightOk_good (s := s) (fun j hj => Hpre.out j hj (by omega)))
      go_wp2_with fail
      go_ret
      exact ⟨ret_bool S.out.symm, rfl⟩

theorem rightsOk_bad {ss : List ByteArray} {k : Nat} (h : k < ss.length) (hc : stepRight ss k = false) : rightsOk ss = false := by
  have : (List.range ss.length).all (stepRight ss) = false := List.all_eq_false.2 ⟨k, List.mem_range.2 h, by simp [hc]⟩
  simp [rightsOk, this]
theorem rightsOk_good {ss : List ByteArray} (h : ∀ k, k < ss.length → stepRight ss k = true) : rightsOk ss = decide ((ss.length : Int) ≤ 6) := by
  have : (List.range ss.length).all (stepRight ss) = true := List.all_eq_true.2 fun k hk => h k (List.mem_range.1 hk)
  rw [rightsOk, this, Bool.true_and]
  by_cases h4 : ss.length ≤ 6
  · have : (ss.length : Int) ≤ 6 := by omega
    simp [h4, this]
  · have : ¬ (ss.length : Int) ≤ 6 := by omega
    simp [h4, this]

/-- What the address a leads to: the texts ss. -/
theorem AtF.str {w : World} {a : Option Addr} {ss : List ByteArray} (h : AtF 1 strCs w a ss) {k : Nat} (hk : k < ss.length) : ∃ b off, a = some ⟨b, off, none⟩ ∧ w.cell? ⟨b, off + k, none⟩ = some (.string (nthS ss k)) := by
  obtain ⟨b, off, rfl, _, hc⟩ := h k _ (nthS_lt hk)
  exact ⟨b, off, rfl, by simpa using hc 0 _ rfl⟩

def SmallS (ss : List ByteArray) : Prop := ∀ s ∈ ss, s.size ≤ maxLen
theorem SmallS.nth {ss : List ByteArray} (h : SmallS ss) {k : Nat} (hk : k < ss.length) : (nthS ss k).size ≤ maxLen := h _ (List.mem_of_getElem? (nthS_lt hk))

set_option maxRecDepth 100000 in
set_option maxHeartbeats 2000000 in
theorem RightsValid_spec (v : Value) (ss : List ByteArray) (w : World) (h : RdStrs w v ss) (hs : SmallS ss) :
    Calls Try.prog 61 #[v] w fun e w' => e = .returned (.bool (rightsOk ss)) ∧ ∃ n, w' = w.drewN n := by
  obtain ⟨a, c, rfl, hc, hcm, H0⟩ := RdF.open strCs_len (by decide) h
  unfold maxLen at hcm
  have Hs := Lib.hid hs; clear hs h
  go_enter Try.func61, Try.ntmps61
  go_wp2_with fail
  go_loopw [3] (fun i wr => ∃ k : Nat, k ≤ ss.length ∧ i = .int .i64 k ∧ (∀ j, j < k → stepRight ss j = true) ∧ ∃ n, wr = w.drewN n) (fun i _ => ss.length - (intOf i).toNat)
  case atStart => exact ⟨0, Nat.zero_le _, rfl, fun j hj => absurd hj (Nat.not_lt_zero _), 0, rfl⟩
  case round =>
    obtain ⟨k, hk, rfl, hpre, hw⟩ := hrel
    have Hpre := Lib.hid hpre; clear hpre
    have Hw := Lib.hid hw; clear hw
    by_cases hlt : k < ss.length
    · obtain ⟨b, off, rfl, D0⟩ := H0.str hlt
      have D : wr.cell? ⟨b, off + k, none⟩ = some (.string (nthS ss k)) := by obtain ⟨n, rfl⟩ := Hw.out; exact D0
      have hk1 : (k : Int) < ss.length := by omega
      have hsz := Hs.out.nth hlt
      cases hok : rightOk (nthS ss k)
      · have S := Lib.hid (rightsOk_bad hlt (by simp [stepRight, hok]))
        have HQ := Lib.hid (show ∀ W, Calls Try.prog 64 #[.string (nthS ss k)] W fun e w' => e = .returned (.bool false) ∧ W = w' from fun W => by have := RightValid_spec (nthS ss k) W hsz; rwa [hok] at this)
        clear hok D0
        go_wp2_with fail
        go_quiet ((go_at_call 64; exact quiet_left (HQ.out _)))
        go_wp2_with fail
        go_ret
        exact ⟨ret_bool S.out.symm, ex_drew Hw.out _⟩
      · have HQ := Lib.hid (show ∀ W, Calls Try.prog 64 #[.string (nthS ss k)] W fun e w' => e = .returned (.bool true) ∧ W = w' from fun W => by have := RightValid_spec (nthS ss k) W hsz; rwa [hok] at this)
        by_cases hk0 : k = 0
        · have Ok := Lib.hid (show stepRight ss k = true by simp [stepRight, hok]; exact .inl hk0)
          have t0 : decide (0 < k) = false := by simp; omega
          clear hok hk0 D0
          go_wp2_with fail
          go_quiet ((go_at_call 64; exact quiet_left (HQ.out _)))
          go_wp2_with fail
          go_roundw
          case rel => exact ⟨k + 1, by omega, by go_num, forall_lt_succ Hpre.out Ok.out, ex_drew Hw.out _⟩
          case measure => simp [intOf]; omega
        · obtain ⟨b', off', hbb, E0⟩ := H0.str (show k - 1 < ss.length by omega)
          obtain ⟨rfl, rfl⟩ : b = b' ∧ off = off' := by simpa using hbb
          have E : wr.cell? ⟨b, off + (k - 1), none⟩ = some (.string (nthS ss (k - 1))) := by obtain ⟨n, rfl⟩ := Hw.out; exact E0
          have t0 : decide (0 < k) = true := by simp; omega
          have t0' : (0 : Int) < k := by omega
          have s0 : IntKind.i64.wrap ((k : Int) - 1) = (k : Int) - 1 := IntWalk.i64_in _ (by omega)
          have s1 : ((k : Int) - 1).toNat = k - 1 := by omega
          have s2 : (k : Int) - 1 < ss.length := by omega
          have s3 : (1 : Int) ≤ k := by omega
          have s4 : (0 : Int) ≤ (k : Int) - 1 := by omega
          clear D0 E0 hbb
          cases hge : geB (nthS ss (k - 1)) (nthS ss k)
          · have Ok := Lib.hid (show stepRight ss k = true by simp [stepRight, hok, hge])
            have hL : Op.bytesLess (nthS ss (k - 1)).toList (nthS ss k).toList = true := by simpa [geB] using hge
            clear hok hge
            go_wp2_with fail
            go_quiet ((go_at_call 64; exact quiet_left (HQ.out _)))
            go_wp2_with fail
            go_roundw
            case rel => exact ⟨k + 1, by omega, by go_num, forall_lt_succ Hpre.out Ok.out, ex_drew Hw.out _⟩
            case measure => simp [intOf]; omega
          · have S := Lib.hid (rightsOk_bad hlt (by simp [stepRight, hok, hge, hk0]))
            have hL : Op.bytesLess (nthS ss (k - 1)).toList (nthS ss k).toList = false := by simpa [geB] using hge
            clear hok hge
            go_wp2_with fail
            go_quiet ((go_at_call 64; exact quiet_left (HQ.out _)))
            go_wp2_with fail
            go_ret
            exact ⟨ret_bool S.out.symm, ex_drew Hw.out _⟩
    · have S := Lib.hid (rightsOk_good (ss := ss) (fun j hj => Hpre.out j (by omega)))
      go_wp2_with fail
      go_ret
      exact ⟨ret_bool S.out.symm, Hw.out⟩
end Go.Proofs.Ytabaemnknjdjoaa
