/-
  Plain facts about pages that are packed as pairs of a number and a word: no program in sight.
-/
import Derived.Test.YtabaemnknjdjoaaPick
namespace Go.Proofs.Ytabaemnknjdjoaa
open Go.RowKit

def wordsOk (xs : List Int) : Bool := xs.length == 4 && xs.all (inB · 0 9999)
def bump (l : List Int) : List Int := l.set (l.length - 2) (nth l (l.length - 2) + 1)
def packTo (xs : List Int) : Nat → List Int
  | 0 => []
  | k + 1 => if 0 < k ∧ nth xs (k - 1) = nth xs k then bump (packTo xs k) else packTo xs k ++ [1, nth xs k]
def packL (xs : List Int) : List Int := if wordsOk xs = true then packTo xs 4 else []

theorem bump_append (l : List Int) (n v : Int) : bump (l ++ [n, v]) = l ++ [n + 1, v] := by
  have e : (l ++ [n, v]).length - 2 = l.length := by simp
  unfold bump
  rw [e]
  have h : nth (l ++ [n, v]) l.length = n := by simp [nth]
  rw [h, List.set_append_right _ _ (Nat.le_refl _), Nat.sub_self]
  rfl
theorem pack_shape {xs : List Int} : ∀ k, 0 < k → ∃ l n, packTo xs k = l ++ [n, nth xs (k - 1)] ∧ 1 ≤ n ∧ n ≤ k ∧ l.length % 2 = 0 ∧ l.length + 2 ≤ 2 * k := by
  intro k
  induction k with
  | zero => intro h; omega
  | succ k ih =>
    intro _
    rw [packTo]
    split
    · rename_i h
      obtain ⟨l, n, h1, h2, h3, h4, h5⟩ := ih h.1
      rw [h1, bump_append]
      exact ⟨l, n + 1, by rw [h.2]; rfl, by omega, by omega, h4, by omega⟩
    · by_cases hk : 0 < k
      · obtain ⟨l, n, h1, h2, h3, h4, h5⟩ := ih hk
        refine ⟨packTo xs k, 1, rfl, by omega, by omega, ?_, ?_⟩
        · rw [h1]; simp; omega
        · rw [h1]; simp; omega
      · have : k = 0 := by omega
        subst this
        exact ⟨[], 1, rfl, by omega, by omega, rfl, by simp⟩
theorem pack_facts {xs : List Int} {k : Nat} (hk : 0 < k) : 2 ≤ (packTo xs k).length ∧ (packTo xs k).length ≤ 2 * k ∧ 1 ≤ nth (packTo xs k) ((packTo xs k).length - 2) ∧ nth (packTo xs k) ((packTo xs k).length - 2) ≤ k := by
  obtain ⟨l, n, h1, h2, h3, h4, h5⟩ := pack_shape (xs := xs) k hk
  have e : (packTo xs k).length - 2 = l.length := by rw [h1]; simp
  rw [e, h1]
  have h : nth (l ++ [n, nth xs (k - 1)]) l.length = n := by simp [nth]
  rw [h]
  simp
  omega
theorem pack_len {xs : List Int} (k : Nat) : (packTo xs k).length ≤ 2 * k ∧ (packTo xs k).length % 2 = 0 := by
  by_cases hk : 0 < k
  · obtain ⟨l, n, h1, h2, h3, h4, h5⟩ := pack_shape (xs := xs) k hk
    rw [h1]; simp; omega
  · have : k = 0 := by omega
    subst this; simp [packTo]
theorem pack_same {xs : List Int} {k : Nat} (hk : 0 < k) (h : nth xs (k - 1) = nth xs k) : packTo xs (k + 1) = (packTo xs k).set ((packTo xs k).length - 2) (nth (packTo xs k) ((packTo xs k).length - 2) + 1) := by
  rw [packTo, if_pos ⟨hk, h⟩]; rfl
theorem pack_other {xs : List Int} {k : Nat} (h : ¬ (0 < k ∧ nth xs (k - 1) = nth xs k)) : packTo xs (k + 1) = packTo xs k ++ [1, nth xs k] := by
  rw [packTo, if_neg h]

/-- What pairs stand for. -/
def expN (ps : List Int) (j : Nat) : List Int := (List.range j).flatMap fun q => List.replicate (nth ps (2 * q)).toNat (nth ps (2 * q + 1))
theorem expN_succ (ps : List Int) (j : Nat) : expN ps (j + 1) = expN ps j ++ List.replicate (nth ps (2 * j)).toNat (nth ps (2 * j + 1)) := by
  simp [expN, List.range_succ]
theorem expN_prefix {ps qs : List Int} : ∀ {j : Nat}, (∀ i, i < 2 * j → nth ps i = nth qs i) → expN ps j = expN qs j := by
  intro j
  induction j with
  | zero => intro _; rfl
  | succ j ih =>
    intro h
    rw [expN_succ, expN_succ, ih fun i hi => h i (by omega), h (2 * j) (by omega), h (2 * j + 1) (by omega)]
theorem expN_snoc {l : List Int} {n v : Int} (h : l.length % 2 = 0) : expN (l ++ [n, v]) ((l ++ [n, v]).length / 2) = expN l (l.length / 2) ++ List.replicate n.toNat v := by
  have e : (l ++ [n, v]).length / 2 = l.length / 2 + 1 := by simp
  have e2 : 2 * (l.length / 2) = l.length := by omega
  rw [e, expN_succ, e2]
  have h1 : nth (l ++ [n, v]) l.length = n := by simp [nth]
  have h2 : nth (l ++ [n, v]) (l.length + 1) = v := by simp [nth]
  rw [h1, h2]
  congr 1
  refine expN_prefix fun i hi => ?_
  simp only [nth, List.getD_eq_getElem?_getD]
  rw [List.getElem?_append_left (by omega)]
theorem exp_pack {xs : List Int} : ∀ k, k ≤ xs.length → expN (packTo xs k) ((packTo xs k).length / 2) = xs.take k := by
  intro k
  induction k with
  | zero => intro _; simp [packTo, expN]
  | succ k ih =>
    intro hk
    have ih := ih (by omega)
    rw [packTo]
    split
    · rename_i h
      obtain ⟨l, n, h1, h2, h3, h4, h5⟩ := pack_shape (xs := xs) k h.1
      rw [h1, expN_snoc h4] at ih
      rw [h1, bump_append, expN_snoc h4, take_nth (by omega), ← ih]
      have e : (n + 1).toNat = n.toNat + 1 := by omega
      rw [e, List.replicate_succ', h.2]
      simp
    · rw [expN_snoc (pack_len k).2, ih, take_nth (by omega)]
      rfl

def unpackI (ps : List Int) : List Int × Bool :=
  if ps.length % 2 = 0 ∧ ps.length ≤ 8 ∧ (∀ j, j < ps.length / 2 → inB (nth ps (2 * j)) 1 4 = true) ∧ wordsOk (expN ps (ps.length / 2)) = true ∧ packTo (expN ps (ps.length / 2)) 4 = ps
  then (expN ps (ps.length / 2), true) else ([], false)
/-- The same, no more than five words are laid. -/
def capN (ps : List Int) : Nat → List Int
  | 0 => []
  | j + 1 => capN ps j ++ List.replicate (min (nth ps (2 * j)).toNat (5 - (capN ps j).length)) (nth ps (2 * j + 1))
def unpackS (ps : List Int) : List Int × Bool :=
  if wordsOk (capN ps (ps.length / 2)) = true ∧ packTo (capN ps (ps.length / 2)) 4 = ps then (capN ps (ps.length / 2), true) else ([], false)

theorem wordsOk_len {xs : List Int} (h : wordsOk xs = true) : xs.length = 4 := by
  simp only [wordsOk, Bool.and_eq_true, beq_iff_eq] at h
  exact h.1
theorem expN_mono (ps : List Int) (j d : Nat) : (expN ps j).length ≤ (expN ps (j + d)).length := by
  induction d with
  | zero => exact Nat.le_refl _
  | succ d ih => rw [← Nat.add_assoc, expN_succ, List.length_append]; omega
theorem cap_exp {ps : List Int} {m : Nat} (h : (expN ps m).length ≤ 4) : ∀ j, j ≤ m → capN ps j = expN ps j := by
  intro j
  induction j with
  | zero => intro _; rfl
  | succ j ih =>
    intro hj
    rw [capN, ih (by omega), expN_succ]
    have h1 := expN_mono ps (j + 1) (m - (j + 1))
    rw [show j + 1 + (m - (j + 1)) = m by omega, expN_succ, List.length_append, List.length_replicate] at h1
    rw [Nat.min_eq_left (by omega)]
/-- A packed page has counts from 1 to 4. -/
theorem pack_counts {xs : List Int} : ∀ k, k ≤ 4 → ∀ j, j < (packTo xs k).length / 2 → 1 ≤ nth (packTo xs k) (2 * j) ∧ nth (packTo xs k) (2 * j) ≤ k := by
  intro k
  induction k with
  | zero => intro _ j hj; simp [packTo] at hj
  | succ k ih =>
    intro hk j hj
    have ih := ih (by omega)
    have hl := pack_len (xs := xs) k
    by_cases h : 0 < k ∧ nth xs (k - 1) = nth xs k
    · obtain ⟨f1, f2, f3, f4⟩ := pack_facts (xs := xs) h.1
      rw [pack_same h.1 h.2] at hj ⊢
      rw [List.length_set] at hj
      rw [nth_set (by omega)]
      split
      · omega
      · have := ih j hj; omega
    · rw [pack_other h] at hj ⊢
      simp only [List.length_append, List.length_cons, List.length_nil] at hj
      by_cases hc : 2 * j < (packTo xs k).length
      · have e : nth (packTo xs k ++ [1, nth xs k]) (2 * j) = nth (packTo xs k) (2 * j) := by
          simp only [nth, List.getD_eq_getElem?_getD]
          rw [List.getElem?_append_left hc]
        rw [e]
        have := ih j (by omega); omega
      · have e : 2 * j = (packTo xs k).length := by omega
        rw [e]
        have : nth (packTo xs k ++ [1, nth xs k]) (packTo xs k).length = 1 := by simp [nth]
        rw [this]; omega
theorem unpack_eq (ps : List Int) : unpackI ps = unpackS ps := by
  unfold unpackI unpackS
  by_cases hS : wordsOk (capN ps (ps.length / 2)) = true ∧ packTo (capN ps (ps.length / 2)) 4 = ps
  · rw [if_pos hS]
    obtain ⟨h1, h2⟩ := hS
    have hl := wordsOk_len h1
    have hp := pack_len (xs := capN ps (ps.length / 2)) 4
    have he := exp_pack (xs := capN ps (ps.length / 2)) 4 (by omega)
    have hc := pack_counts (xs := capN ps (ps.length / 2)) 4 (by omega)
    rw [List.take_of_length_le (by omega)] at he
    rw [h2] at hp he hc
    have hE : expN ps (ps.length / 2) = capN ps (ps.length / 2) := he
    rw [hE, if_pos ⟨hp.2, by omega, fun j hj => inB_iff.2 (hc j hj), h1, h2⟩]
  · rw [if_neg hS]
    by_cases hI : ps.length % 2 = 0 ∧ ps.length ≤ 8 ∧ (∀ j, j < ps.length / 2 → inB (nth ps (2 * j)) 1 4 = true) ∧ wordsOk (expN ps (ps.length / 2)) = true ∧ packTo (expN ps (ps.length / 2)) 4 = ps
    · exfalso
      obtain ⟨_, _, _, h4, h5⟩ := hI
      have hl := wordsOk_len h4
      have hce := cap_exp (ps := ps) (m := ps.length / 2) (by omega) _ (Nat.le_refl _)
      rw [hce] at hS
      exact hS ⟨h4, h5⟩
    · rw [if_neg hI]
end Go.Proofs.Ytabaemnknjdjoaa
