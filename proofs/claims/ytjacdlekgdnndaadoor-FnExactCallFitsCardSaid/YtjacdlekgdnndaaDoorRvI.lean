/-
  Walks: the program's test of a right.
-/
import Derived.Test.YtjacdlekgdnndaaDoorRv
import Derived.Test.YtjacdlekgdnndaaDoorShelf
set_option linter.unusedVariables false
namespace Go.Proofs.YtjacdlekgdnndaaDoor
open Go.RowKit Go.Shelf

theorem trim_left_nil (l cs : List UInt8) : Lib.trimLeftS l cs = [] ↔ ∀ b ∈ l, cs.contains b = true := by
  unfold Lib.trimLeftS
  induction l with
  | nil => simp
  | cons x l ih =>
    rw [List.dropWhile_cons]
    by_cases hx : cs.contains x = true
    · rw [if_pos hx, ih]
      constructor
      · intro h b hb
        rcases List.mem_cons.1 hb with e | e
        · subst e; exact hx
        · exact h b e
      · intro h b hb
        exact h b (List.mem_cons_of_mem _ hb)
    · rw [if_neg hx]
      constructor
      · intro h; cases h
      · intro h; exact absurd (h x List.mem_cons_self) hx
theorem trim_nil (l cs : List UInt8) : Lib.trimS l cs = [] ↔ ∀ b ∈ l, cs.contains b = true := by
  unfold Lib.trimS
  rw [trim_left_nil]
  unfold Lib.trimRightS
  constructor
  · intro h b hb
    by_cases hc : cs.contains b = true
    · exact hc
    · refine h b ?_
      have h2 : b ∈ l.reverse := List.mem_reverse.2 hb
      have : ∀ l' : List UInt8, b ∈ l' → b ∈ l'.dropWhile (cs.contains ·) := by
        intro l'
        induction l' with
        | nil => intro h; exact h
        | cons x l' ih =>
          intro h
          rw [List.dropWhile_cons]
          split
          · next hx =>
            rcases List.mem_cons.1 h with e | e
            · subst e; exact absurd hx hc
            · exact ih e
          · exact h
      exact List.mem_reverse.2 (this _ h2)
  · intro h b hb
    exact h b (List.mem_reverse.1 ((List.dropWhile_sublist _).subset (List.mem_reverse.1 hb)))
theorem letter_abc (c : UInt8) : ([97, 98, 99] : List UInt8).contains c = letterOk c := by
  have h : ∀ n : Fin 256, ([97, 98, 99] : List UInt8).contains ⟨⟨n⟩⟩ = letterOk ⟨⟨n⟩⟩ := by decide +kernel
  exact h c.toBitVec.toFin

theorem rightOk_trim (s : ByteArray) (h : s.size ≤ 4) : (Value.string ⟨(Lib.trimS s.data.toList [97, 98, 99]).toArray⟩ = .string ⟨#[]⟩) ↔ rightOk s = true := by
  have e : rightOk s = s.data.toList.all letterOk := by simp [rightOk, h]
  rw [e, List.all_eq_true]
  have t := trim_nil s.data.toList [97, 98, 99]
  constructor
  · intro hv b hb
    have : Lib.trimS s.data.toList [97, 98, 99] = [] := by
      simp only [Value.string.injEq, ByteArray.mk.injEq] at hv
      have := congrArg Array.toList hv
      simpa using this
    rw [← letter_abc]
    exact t.1 this b hb
  · intro ha
    rw [t.2 (fun b hb => by rw [letter_abc]; exact ha b hb)]

theorem isEmpty_iff (r : ByteArray) : r.toList.isEmpty = true ↔ r = ⟨#[]⟩ := by
  rw [Lib.toList_data, List.isEmpty_iff]
  obtain ⟨⟨l⟩⟩ := r
  simp

set_option maxHeartbeats 1000000 in
theorem RightValid_impl (s : ByteArray) (w : World) (hs : s.size ≤ maxLen) :
    Calls Tryd.prog 13 #[.string s] w fun e w' => e = .returned (.bool (rightOk s)) ∧ Below w.heap.size w w' := by
  unfold maxLen at hs
  by_cases h4 : s.size ≤ 4
  · have hcon := Any.strings_Trim_laid Tryd.lays160 (by kernel_rfl) s ⟨#[97, 98, 99]⟩ w (by omega) (by decide) (ascii_of_all (by decide))
    change Calls Tryd.prog 14 _ _ (fun e w' => e = .returned (.string ⟨(Lib.trimS s.data.toList [97, 98, 99]).toArray⟩) ∧ Below w.heap.size w w') at hcon
    have R := Lib.hid (rightOk_trim s h4)
    have i4 : (s.size : Int) ≤ 4 := by omega
    generalize (⟨(Lib.trimS s.data.toList [97, 98, 99]).toArray⟩ : ByteArray) = r at hcon R
    go_enter Tryd.func13, Tryd.ntmps13
    go_wp2_with fail
    refine hcon.mono ?_; rintro e w1 ⟨rfl, hb⟩
    have S : Hid (r.toList.isEmpty = rightOk s) := Lib.hid (by
      rw [Bool.eq_iff_iff, ← R.out, isEmpty_iff]
      simp)
    go_wp2_with fail
    go_ret
    exact ⟨ret_bool S.out, hb⟩
  · have S := Lib.hid (show rightOk s = false by simp [rightOk, h4])
    have i4 : ¬ (s.size : Int) ≤ 4 := by omega
    go_enter Tryd.func13, Tryd.ntmps13
    go_wp2_with fail
    go_ret
    exact ⟨ret_bool S.out.symm, Below.refl _ _⟩
end Go.Proofs.YtjacdlekgdnndaaDoor
