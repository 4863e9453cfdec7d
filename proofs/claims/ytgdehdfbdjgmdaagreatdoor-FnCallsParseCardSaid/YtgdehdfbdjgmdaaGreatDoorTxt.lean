/-
  Plain: a text cut at a byte, numerals, the text of a call. No program in sight.
-/
import Derived.Lib.ItoaNum
import Derived.Lib.SplitLaws
import Derived.Lib.Join
import Derived.Lib.AtoiTie
set_option linter.unusedVariables false
namespace Go.Proofs.YtgdehdfbdjgmdaaGreatDoor

/-- A text cut at every byte a. -/
def cutL (a : UInt8) : List UInt8 → List (List UInt8)
  | [] => [[]]
  | b :: l => if b = a then [] :: cutL a l else match cutL a l with
    | [] => [[b]]
    | x :: xs => (b :: x) :: xs

theorem cutL_ne (a : UInt8) (l : List UInt8) : cutL a l ≠ [] := by
  cases l with
  | nil => simp [cutL]
  | cons b l =>
    unfold cutL
    split
    · simp
    · split <;> simp

theorem cutL_hit (a : UInt8) (l : List UInt8) : cutL a (a :: l) = [] :: cutL a l := by rw [cutL, if_pos rfl]
theorem cutL_miss {a b : UInt8} (h : b ≠ a) {l x : List UInt8} {xs : List (List UInt8)} (hc : cutL a l = x :: xs) : cutL a (b :: l) = (b :: x) :: xs := by rw [cutL, if_neg h, hc]

theorem cutL_free {a : UInt8} {x : List UInt8} (h : ∀ b ∈ x, b ≠ a) : cutL a x = [x] := by
  induction x with
  | nil => rfl
  | cons b x ih => rw [cutL_miss (h b (by simp)) (ih fun c hc => h c (List.mem_cons_of_mem _ hc))]

theorem cutL_app {a : UInt8} {x : List UInt8} (h : ∀ b ∈ x, b ≠ a) (y : List UInt8) : cutL a (x ++ a :: y) = x :: cutL a y := by
  induction x with
  | nil => exact cutL_hit a y
  | cons b x ih => rw [List.cons_append, cutL_miss (h b (by simp)) (ih fun c hc => h c (List.mem_cons_of_mem _ hc))]

theorem join_two (x y : List UInt8) (r : List (List UInt8)) (a : UInt8) : Lib.join (x :: y :: r) [a] = x ++ a :: Lib.join (y :: r) [a] := by
  rw [Lib.join_cons, Lib.join_cons]
  simp [Lib.joinTail]

theorem cutL_join {a : UInt8} : ∀ {ws : List (List UInt8)}, ws ≠ [] → (∀ w ∈ ws, ∀ b ∈ w, b ≠ a) → cutL a (Lib.join ws [a]) = ws
  | [], h, _ => absurd rfl h
  | [x], _, h => by rw [Lib.join_one]; exact cutL_free (h x (by simp))
  | x :: y :: r, _, h => by rw [join_two, cutL_app (h x (by simp)), cutL_join (by simp) fun w hw => h w (List.mem_cons_of_mem _ hw)]

theorem join_cutL (a : UInt8) (l : List UInt8) : Lib.join (cutL a l) [a] = l := by
  induction l with
  | nil => simp [cutL, Lib.join_one]
  | cons b l ih =>
    by_cases h : b = a
    · subst h
      rw [cutL_hit]
      cases hc : cutL b l with
      | nil => exact absurd hc (cutL_ne b l)
      | cons x xs => rw [join_two, ← hc, ih]; rfl
    · cases hc : cutL a l with
      | nil => exact absurd hc (cutL_ne a l)
      | cons x xs =>
        rw [cutL_miss h hc]
        rw [hc] at ih
        rw [Lib.join_cons] at ih ⊢
        rw [← ih]
        rfl

theorem cutL_len_le (a : UInt8) (l : List UInt8) : (cutL a l).length ≤ l.length + 1 := by
  induction l with
  | nil => simp [cutL]
  | cons b l ih =>
    by_cases h : b = a
    · subst h; rw [cutL_hit]; simp; exact ih
    · cases hc : cutL a l with
      | nil => exact absurd hc (cutL_ne a l)
      | cons x xs => rw [cutL_miss h hc]; rw [hc] at ih; simp at ih ⊢; omega

theorem cutL_len (a : UInt8) (l : List UInt8) : (cutL a l).length = l.count a + 1 := by
  induction l with
  | nil => simp [cutL]
  | cons b l ih =>
    by_cases h : b = a
    · subst h; rw [cutL_hit]; simp [ih]
    · cases hc : cutL a l with
      | nil => exact absurd hc (cutL_ne a l)
      | cons x xs => rw [cutL_miss h hc, List.count_cons_of_ne (by simpa using h), ← ih, hc]; simp

theorem cutL_mem (a : UInt8) (l : List UInt8) : ∀ x ∈ cutL a l, x.length ≤ l.length ∧ ∀ b ∈ x, b ∈ l := by
  induction l with
  | nil => intro x hx; simp [cutL] at hx; subst hx; simp
  | cons b l ih =>
    intro x hx
    by_cases h : b = a
    · subst h
      rw [cutL_hit] at hx
      rcases List.mem_cons.1 hx with rfl | hx
      · simp
      · have := ih x hx
        exact ⟨by simp; omega, fun c hc => List.mem_cons_of_mem _ (this.2 c hc)⟩
    · cases hc : cutL a l with
      | nil => exact absurd hc (cutL_ne a l)
      | cons y ys =>
        rw [cutL_miss h hc] at hx
        rw [hc] at ih
        rcases List.mem_cons.1 hx with rfl | hx
        · have := ih y (by simp)
          refine ⟨by simp; omega, fun c hc' => ?_⟩
          rcases List.mem_cons.1 hc' with rfl | hc'
          · simp
          · exact List.mem_cons_of_mem _ (this.2 c hc')
        · have := ih x (List.mem_cons_of_mem _ hx)
          exact ⟨by simp; omega, fun c hc' => List.mem_cons_of_mem _ (this.2 c hc')⟩

/-- strings.Split at one byte is the same cut. -/
theorem splitK_cutL (a : UInt8) : ∀ (s : List UInt8) (k : Nat), s.count a = k → Lib.splitK [a] 0 k s = cutL a s := by
  intro s
  induction s with
  | nil => intro k h; simp at h; subst h; rfl
  | cons b l ih =>
    intro k h
    by_cases hb : b = a
    · subst hb
      rw [List.count_cons_self] at h
      subst h
      have hi : Lib.index (b :: l) [b] = 0 := by rw [Lib.index]; simp [List.isPrefixOf]
      rw [Lib.splitK, hi, cutL_hit, ← ih _ rfl]
      simp
    · rw [List.count_cons_of_ne (by simpa using hb)] at h
      have hp : ([a] : List UInt8).isPrefixOf (b :: l) = false := by simp [List.isPrefixOf, Ne.symm hb]
      have hix : Lib.index (b :: l) [a] = if Lib.index l [a] == -1 then -1 else Lib.index l [a] + 1 := by rw [Lib.index, hp]; simp
      have hl := ih k h
      cases k with
      | zero =>
        rw [Lib.splitK] at hl ⊢
        rw [cutL_miss hb hl.symm]
      | succ k =>
        rw [Lib.splitK] at hl ⊢
        by_cases hm : Lib.index l [a] = -1
        · rw [hix, if_pos (beq_iff_eq.2 hm)]
          rw [if_pos (beq_iff_eq.2 hm)] at hl
          rw [if_pos (by rfl), cutL_miss hb hl.symm]
        · have hge := Lib.index_ge l [a]
          obtain ⟨j, hj⟩ : ∃ j : Nat, Lib.index l [a] = j := ⟨(Lib.index l [a]).toNat, by omega⟩
          rw [if_neg (fun e => hm (beq_iff_eq.1 e))] at hl
          rw [hix, if_neg (fun e => hm (beq_iff_eq.1 e)), if_neg (by rw [beq_iff_eq]; omega), hj]
          rw [hj] at hl
          have e1 : ((j : Int) + 1).toNat = j + 1 := by omega
          rw [cutL_miss hb hl.symm, e1]
          simp

theorem split_cutL (a : UInt8) (s : List UInt8) : Lib.split s [a] = cutL a s := by
  rw [Lib.split, Lib.count_one]
  exact splitK_cutL a s _ rfl

/-- Digits. -/
theorem dec_big {n : Nat} (h : ¬ n < 10) : Lib.decDigits n = Lib.decDigits (n / 10) ++ [UInt8.ofNat (48 + n % 10)] := by rw [Lib.decDigits, dif_neg h]
theorem dec_small {n : Nat} (h : n < 10) : Lib.decDigits n = [UInt8.ofNat (48 + n)] := Lib.decDigits_one h
theorem dig_nat {d : Nat} (h : d < 10) : (UInt8.ofNat (48 + d)).toNat = 48 + d := by simp; omega
theorem decFrom_snoc : ∀ (l : List UInt8) (acc : Nat) (d : Nat), d < 10 → Lib.decFrom acc (l ++ [UInt8.ofNat (48 + d)]) = (Lib.decFrom acc l).map fun m => m * 10 + d := by
  intro l
  induction l with
  | nil =>
    intro acc d h
    have e : Lib.digitVal (UInt8.ofNat (48 + d)) = some d := by
      unfold Lib.digitVal
      rw [dig_nat h, if_pos (by omega)]
      congr 1
      omega
    simp only [List.nil_append, Lib.decFrom]
    rw [e]
    rfl
  | cons b l ih =>
    intro acc d h
    rw [List.cons_append, Lib.decFrom, Lib.decFrom]
    cases Lib.digitVal b with
    | none => rfl
    | some k => exact ih _ d h

theorem decFrom_dec (n : Nat) : Lib.decFrom 0 (Lib.decDigits n) = some n := by
  induction n using Nat.strongRecOn with
  | _ n ih =>
    by_cases h : n < 10
    · rw [dec_small h]
      have := decFrom_snoc [] 0 n h
      simpa [Lib.decFrom] using this
    · rw [dec_big h, decFrom_snoc _ _ _ (Nat.mod_lt _ (by decide)), ih _ (by omega)]
      simp
      omega

theorem dec_inj {m n : Nat} (h : Lib.decDigits m = Lib.decDigits n) : m = n := by
  have h1 := decFrom_dec m
  rw [h, decFrom_dec n] at h1
  simpa using h1.symm

theorem dec_digit (n : Nat) : ∀ c ∈ Lib.decDigits n, 48 ≤ c.toNat ∧ c.toNat ≤ 57 := by
  induction n using Nat.strongRecOn with
  | _ n ih =>
    intro c hc
    by_cases h : n < 10
    · rw [dec_small h] at hc
      simp only [List.mem_singleton] at hc
      subst hc
      rw [dig_nat h]
      omega
    · rw [dec_big h] at hc
      rcases List.mem_append.1 hc with hc | hc
      · exact ih _ (by omega) c hc
      · simp only [List.mem_singleton] at hc
        subst hc
        have := Nat.mod_lt n (show 10 > 0 by decide)
        rw [dig_nat this]
        omega

theorem dec_pos (n : Nat) : 0 < (Lib.decDigits n).length := by
  rw [Lib.decDigits_length]
  exact Lib.nDigits_pos n

theorem dec_len4 {n : Nat} (h : n ≤ 9999) : (Lib.decDigits n).length ≤ 4 := by
  by_cases h1 : n < 10
  · rw [dec_small h1]; simp
  rw [dec_big h1]
  by_cases h2 : n / 10 < 10
  · rw [dec_small h2]; simp
  rw [dec_big h2]
  by_cases h3 : n / 10 / 10 < 10
  · rw [dec_small h3]; simp
  rw [dec_big h3, dec_small (by omega)]
  simp

/-- A numeral of two digits or more does not begin with 0. -/
theorem dec_head (n : Nat) : 1 < (Lib.decDigits n).length → ∃ b l, Lib.decDigits n = b :: l ∧ 49 ≤ b.toNat := by
  induction n using Nat.strongRecOn with
  | _ n ih =>
    intro hl
    by_cases h : n < 10
    · rw [dec_small h] at hl; simp at hl
    · rw [dec_big h]
      by_cases h1 : n / 10 < 10
      · rw [dec_small h1]
        exact ⟨_, _, rfl, by rw [dig_nat h1]; omega⟩
      · have h2 : 1 < (Lib.decDigits (n / 10)).length := by
          rw [dec_big h1]
          have := dec_pos (n / 10 / 10)
          simp
          exact this
        obtain ⟨b, l, e, hb⟩ := ih (n / 10) (by omega) h2
        rw [e]
        exact ⟨b, _, rfl, hb⟩

theorem atoi_dec (n : Nat) : Lib.atoi (Lib.decDigits n) = some (n : Int) := by
  have hd := dec_digit n
  have hf := decFrom_dec n
  have hp := dec_pos n
  generalize Lib.decDigits n = l at hd hf hp
  cases l with
  | nil => simp at hp
  | cons b r =>
    have hb := hd b (by simp)
    have h1 : (b == 45) = false := by
      rw [beq_eq_false_iff_ne]
      rintro rfl
      simp at hb
    have h2 : (b == 43) = false := by
      rw [beq_eq_false_iff_ne]
      rintro rfl
      simp at hb
    simp [Lib.atoi, h1, h2, Lib.decNat, hf]

theorem atoiAll_dec {n : Nat} (h : n ≤ 9999) : Lib.atoiAll (Lib.decDigits n) = .ok (n : Int) := by
  rw [Lib.atoiAll_short _ (by have := dec_len4 h; omega), atoi_dec]
  rfl

theorem dec_no (n : Nat) (a : UInt8) (h : a.toNat < 48) : ∀ b ∈ Lib.decDigits n, b ≠ a := by
  rintro b hb rfl
  have := dec_digit n b hb
  omega

/-- The words of the kinds. -/
def kindWs : List (List UInt8) := [[116, 97, 107, 101], [103, 105, 118, 101], [112, 111, 107, 101], [112, 105, 110], [117, 110, 112, 105, 110], [115, 101, 116], [114, 111, 111, 116], [103, 114, 97, 110, 116], [114, 101, 118, 111, 107, 101], [108, 111, 97, 100], [115, 116, 111, 114, 101]]
/-- The word of kind k, from 1 to 11. -/
def kindL (k : Nat) : List UInt8 := kindWs.getD (k - 1) []
theorem kind_letters : ∀ k : Fin 12, ∀ b ∈ kindL k.val, 97 ≤ b.toNat := by decide +kernel
theorem kind_inj : ∀ k j : Fin 12, 1 ≤ k.val → 1 ≤ j.val → kindL k.val = kindL j.val → k = j := by decide +kernel
theorem kind_len : ∀ k : Fin 12, (kindL k.val).length ≤ 6 := by decide +kernel

/-- The text of a call. -/
def callWs (k e a b c : Nat) (nm : List UInt8) : List (List UInt8) := [kindL k, Lib.decDigits e, Lib.decDigits a, Lib.decDigits b, Lib.decDigits c, 47 :: nm]
def txtL (k e a b c : Nat) (nm : List UInt8) : List UInt8 := Lib.join (callWs k e a b c nm) [32]

theorem callWs_free {k e a b c : Nat} {nm : List UInt8} (hk : k ≤ 11) (hn : ∀ x ∈ nm, 97 ≤ x.toNat) (d : UInt8) (hd : d.toNat ≤ 46 ∨ 58 ≤ d.toNat ∧ d.toNat ≤ 96) : ∀ w ∈ callWs k e a b c nm, ∀ x ∈ w, x ≠ d := by
  intro w hw x hx
  have hdec : ∀ n, x ∈ Lib.decDigits n → x ≠ d := by
    rintro n h rfl
    have := dec_digit n x h
    omega
  simp only [callWs, List.mem_cons, List.not_mem_nil, or_false] at hw
  rcases hw with rfl | rfl | rfl | rfl | rfl | rfl
  · rintro rfl
    have := kind_letters ⟨k, by omega⟩ x hx
    omega
  · exact hdec _ hx
  · exact hdec _ hx
  · exact hdec _ hx
  · exact hdec _ hx
  · rintro rfl
    rcases List.mem_cons.1 hx with rfl | hx
    · simp at hd
    · have := hn x hx
      omega

theorem txt_cut {k e a b c : Nat} {nm : List UInt8} (hk : k ≤ 11) (hn : ∀ x ∈ nm, 97 ≤ x.toNat) : cutL 32 (txtL k e a b c nm) = callWs k e a b c nm :=
  cutL_join (by simp [callWs]) (callWs_free hk hn 32 (by decide))

theorem txt_inj {k e a b c k' e' a' b' c' : Nat} {nm nm' : List UInt8} (hk : k ≤ 11) (hn : ∀ x ∈ nm, 97 ≤ x.toNat) (hk' : k' ≤ 11) (hn' : ∀ x ∈ nm', 97 ≤ x.toNat) (h1 : 1 ≤ k) (h1' : 1 ≤ k')
    (h : txtL k e a b c nm = txtL k' e' a' b' c' nm') : k = k' ∧ e = e' ∧ a = a' ∧ b = b' ∧ c = c' ∧ nm = nm' := by
  have := (txt_cut (e := e) (a := a) (b := b) (c := c) hk hn).symm.trans ((congrArg (cutL 32) h).trans (txt_cut hk' hn'))
  simp only [callWs, List.cons.injEq, and_true, true_and] at this
  obtain ⟨e0, e1, e2, e3, e4, e5⟩ := this
  have := kind_inj ⟨k, by omega⟩ ⟨k', by omega⟩ h1 h1' e0
  exact ⟨by simpa using this, dec_inj e1, dec_inj e2, dec_inj e3, dec_inj e4, e5⟩

theorem free_join {d a : UInt8} (hda : d ≠ a) : ∀ {ws : List (List UInt8)}, (∀ w ∈ ws, ∀ x ∈ w, x ≠ d) → ∀ x ∈ Lib.join ws [a], x ≠ d
  | [], _ => by simp [Lib.join_nil]
  | [x], h => by rw [Lib.join_one]; exact h x (by simp)
  | x :: y :: r, h => by
    rw [join_two]
    intro z hz
    rcases List.mem_append.1 hz with hz | hz
    · exact h x (by simp) z hz
    · rcases List.mem_cons.1 hz with rfl | hz
      · exact Ne.symm hda
      · exact free_join hda (fun w hw => h w (List.mem_cons_of_mem _ hw)) z hz

theorem txt_free {k e a b c : Nat} {nm : List UInt8} (hk : k ≤ 11) (hn : ∀ x ∈ nm, 97 ≤ x.toNat) : ∀ x ∈ txtL k e a b c nm, x ≠ 59 :=
  free_join (by decide) (callWs_free hk hn 59 (by decide))

theorem txt_ne {k e a b c : Nat} {nm : List UInt8} : txtL k e a b c nm ≠ [] := by
  unfold txtL callWs
  rw [join_two]
  simp

theorem txt_long {k e a b c : Nat} {nm : List UInt8} (hk : k ≤ 11) (he : e ≤ 9999) (ha : a ≤ 9999) (hb : b ≤ 9999) (hc : c ≤ 9999) (hn : nm.length ≤ 4) : (txtL k e a b c nm).length ≤ 40 := by
  have := kind_len ⟨k, by omega⟩
  have := dec_len4 he
  have := dec_len4 ha
  have := dec_len4 hb
  have := dec_len4 hc
  unfold txtL callWs
  rw [join_two, join_two, join_two, join_two, join_two, Lib.join_one]
  simp only [List.length_append, List.length_cons] at *
  omega

/-- The text, as the walks put it together. -/
theorem txt_eq (k e a b c : Nat) (nm : List UInt8) : txtL k e a b c nm = kindL k ++ 32 :: (Lib.decDigits e ++ 32 :: (Lib.decDigits a ++ 32 :: (Lib.decDigits b ++ 32 :: (Lib.decDigits c ++ 32 :: 47 :: nm)))) := by
  unfold txtL callWs
  rw [join_two, join_two, join_two, join_two, join_two, Lib.join_one]
end Go.Proofs.YtgdehdfbdjgmdaaGreatDoor
