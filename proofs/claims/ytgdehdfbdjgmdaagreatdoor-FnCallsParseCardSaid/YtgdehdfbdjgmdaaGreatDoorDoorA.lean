/-
  Walks for the door seats: calls as values, rights tested by the reference and by the program (strings.Trim by the shelf's contract).
-/
import Derived.Test.YtgdehdfbdjgmdaaGreatDoorCore
import Derived.Test.YtgdehdfbdjgmdaaGreatDoorShelf
set_option linter.unusedVariables false
namespace Go.Proofs.YtgdehdfbdjgmdaaGreatDoor
open Go.RowKit Go.Shelf

/-- A call: kind, environment, three numbers and a name. -/
structure CallV where
  k : Int
  e : Int
  a : Int
  b : Int
  c : Int
  nm : ByteArray

def CallV.cells (c : CallV) : Array Value := #[.int .i64 c.k, .int .i64 c.e, .int .i64 c.a, .int .i64 c.b, .int .i64 c.c, .string c.nm]
def CallV.val (c : CallV) : Value := .agg c.cells



/-- A letter of a right. -/
def letterOk (c : UInt8) : Bool := decide (97 ≤ c.toNat) && decide (c.toNat ≤ 99)
/-- A right. -/
def rightOk (s : ByteArray) : Bool := s.data.toList.all letterOk && decide (s.size ≤ 4)
theorem rightOk_bad {s : ByteArray} {k : Nat} (h : k < s.size) (hc : letterOk s[k] = false) : rightOk s = false := by
  have : s.data.toList.all letterOk = false := by
    rw [List.all_eq_false]
    exact ⟨s[k], by simp [ByteArray.getElem_eq_getElem_data], by simp [hc]⟩
  simp [rightOk, this]
theorem rightOk_good {s : ByteArray} (h : ∀ k (hk : k < s.size), letterOk s[k] = true) : rightOk s = decide ((s.size : Int) ≤ 4) := by
  have : s.data.toList.all letterOk = true := by
    rw [List.all_eq_true]
    intro x hx
    obtain ⟨k, hk, rfl⟩ := List.getElem_of_mem hx
    have := h k (by simpa using hk)
    simpa [ByteArray.getElem_eq_getElem_data] using this
  rw [rightOk, this, Bool.true_and]
  by_cases h4 : s.size ≤ 4
  · have : (s.size : Int) ≤ 4 := by omega
    simp [h4, this]
  · have : ¬ (s.size : Int) ≤ 4 := by omega
    simp [h4, this]

set_option maxHeartbeats 1000000 in
theorem RightValid_spec (s : ByteArray) (w : World) (hs : s.size ≤ maxLen) :
    Calls Tryz.prog 50 #[.string s] w fun e w' => e = .returned (.bool (rightOk s)) ∧ w = w' := by
  unfold maxLen at hs
  go_enter Tryz.func50, Tryz.ntmps50
  go_wp2_with fail
  go_loop [3] (fun i => ∃ k : Nat, k ≤ s.size ∧ i = .int .i64 k ∧ ∀ j (hj : j < s.size), j < k → letterOk s[j] = true) (fun i => s.size - (intOf i).toNat)
  case atStart => exact ⟨0, Nat.zero_le _, rfl, fun j _ hj => absurd hj (Nat.not_lt_zero _)⟩
  case round =>
    obtain ⟨k, hk, rfl, hpre⟩ := hrel
    have Hpre := Lib.hid hpre; clear hpre
    by_cases hlt : k < s.size
    · by_cases h1 : s[k].toNat < 97
      · have S := Lib.hid (rightOk_bad (s := s) hlt (by simp [letterOk]; omega))
        have t1 : (s[k].toNat : Int) < 97 := by omega
        go_wp2_with fail
        go_ret
        exact ⟨ret_bool S.out.symm, rfl⟩
      · by_cases h2 : 99 < s[k].toNat
        · have S := Lib.hid (rightOk_bad (s := s) hlt (by simp [letterOk]; omega))
          have t1 : (99 : Int) < s[k].toNat := by omega
          have t2 : ¬ (s[k].toNat : Int) < 97 := by omega
          go_wp2_with fail
          go_ret
          exact ⟨ret_bool S.out.symm, rfl⟩
        · have Ok := Lib.hid (show letterOk s[k] = true by simp [letterOk]; omega)
          have t1 : ¬ (99 : Int) < s[k].toNat := by omega
          have t2 : ¬ (s[k].toNat : Int) < 97 := by omega
          go_wp2_with fail
          go_round
          case rel => exact ⟨k + 1, by omega, by go_num, fun j hj hjk => by
            rcases Nat.lt_succ_iff_lt_or_eq.1 hjk with h | h
            · exact Hpre.out j hj h
            · subst h; exact Ok.out⟩
          case measure => simp [intOf]; omega
    · have S := Lib.hid (rightOk_good (s := s) (fun j hj => Hpre.out j hj (by omega)))
      go_wp2_with fail
      go_ret
      exact ⟨ret_bool S.out.symm, rfl⟩

theorem trim_left_nil (l cs : List UInt8) : Lib.trimLeftS l cs = [] ↔ ∀ b ∈ l, cs.contains b = true := by
  unfold Lib.trimLeftS
  induction l with
  | nil => simp
  | cons x l ih =>
    rw [List.dropWhile_cons]
    by_cases hx : cs.contains x = true
    · rw [if_pos hx, ih]
      constructor
      · intro h b hb
        rcases List.mem_cons.1 hb with e | e
        · subst e; exact hx
        · exact h b e
      · intro h b hb
        exact h b (List.mem_cons_of_mem _ hb)
    · rw [if_neg hx]
      constructor
      · intro h; cases h
      · intro h; exact absurd (h x List.mem_cons_self) hx
theorem trim_nil (l cs : List UInt8) : Lib.trimS l cs = [] ↔ ∀ b ∈ l, cs.contains b = true := by
  unfold Lib.trimS
  rw [trim_left_nil]
  unfold Lib.trimRightS
  constructor
  · intro h b hb
    by_cases hc : cs.contains b = true
    · exact hc
    · refine h b ?_
      have h2 : b ∈ l.reverse := List.mem_reverse.2 hb
      have : ∀ l' : List UInt8, b ∈ l' → b ∈ l'.dropWhile (cs.contains ·) := by
        intro l'
        induction l' with
        | nil => intro h; exact h
        | cons x l' ih =>
          intro h
          rw [List.dropWhile_cons]
          split
          · next hx =>
            rcases List.mem_cons.1 h with e | e
            · subst e; exact absurd hx hc
            · exact ih e
          · exact h
      exact List.mem_reverse.2 (this _ h2)
  · intro h b hb
    exact h b (List.mem_reverse.1 ((List.dropWhile_sublist _).subset (List.mem_reverse.1 hb)))
theorem letter_abc (c : UInt8) : ([97, 98, 99] : List UInt8).contains c = letterOk c := by
  have h : ∀ n : Fin 256, ([97, 98, 99] : List UInt8).contains ⟨⟨n⟩⟩ = letterOk ⟨⟨n⟩⟩ := by decide +kernel
  exact h c.toBitVec.toFin

theorem rightOk_trim (s : ByteArray) (h : s.size ≤ 4) : (Value.string ⟨(Lib.trimS s.data.toList [97, 98, 99]).toArray⟩ = .string ⟨#[]⟩) ↔ rightOk s = true := by
  have e : rightOk s = s.data.toList.all letterOk := by simp [rightOk, h]
  rw [e, List.all_eq_true]
  have t := trim_nil s.data.toList [97, 98, 99]
  constructor
  · intro hv b hb
    have : Lib.trimS s.data.toList [97, 98, 99] = [] := by
      simp only [Value.string.injEq, ByteArray.mk.injEq] at hv
      have := congrArg Array.toList hv
      simpa using this
    rw [← letter_abc]
    exact t.1 this b hb
  · intro ha
    rw [t.2 (fun b hb => by rw [letter_abc]; exact ha b hb)]

theorem isEmpty_iff (r : ByteArray) : r.toList.isEmpty = true ↔ r = ⟨#[]⟩ := by
  rw [Lib.toList_data, List.isEmpty_iff]
  obtain ⟨⟨l⟩⟩ := r
  simp

set_option maxHeartbeats 1000000 in
theorem RightValid_impl (s : ByteArray) (w : World) (hs : s.size ≤ maxLen) :
    Calls Tryz.prog 35 #[.string s] w fun e w' => e = .returned (.bool (rightOk s)) ∧ Below w.heap.size w w' := by
  unfold maxLen at hs
  by_cases h4 : s.size ≤ 4
  · have hcon := Any.strings_Trim_laid Tryz.lays160 (by kernel_rfl) s ⟨#[97, 98, 99]⟩ w (by omega) (by decide) (ascii_of_all (by decide))
    change Calls Tryz.prog 51 _ _ (fun e w' => e = .returned (.string ⟨(Lib.trimS s.data.toList [97, 98, 99]).toArray⟩) ∧ Below w.heap.size w w') at hcon
    have R := Lib.hid (rightOk_trim s h4)
    have i4 : (s.size : Int) ≤ 4 := by omega
    generalize (⟨(Lib.trimS s.data.toList [97, 98, 99]).toArray⟩ : ByteArray) = r at hcon R
    go_enter Tryz.func35, Tryz.ntmps35
    go_wp2_with fail
    refine hcon.mono ?_; rintro e w1 ⟨rfl, hb⟩
    have S : Hid (r.toList.isEmpty = rightOk s) := Lib.hid (by
      rw [Bool.eq_iff_iff, ← R.out, isEmpty_iff]
      simp)
    go_wp2_with fail
    go_ret
    exact ⟨ret_bool S.out, hb⟩
  · have S := Lib.hid (show rightOk s = false by simp [rightOk, h4])
    have i4 : ¬ (s.size : Int) ≤ 4 := by omega
    go_enter Tryz.func35, Tryz.ntmps35
    go_wp2_with fail
    go_ret
    exact ⟨ret_bool S.out.symm, Below.refl _ _⟩

end Go.Proofs.YtgdehdfbdjgmdaaGreatDoor
