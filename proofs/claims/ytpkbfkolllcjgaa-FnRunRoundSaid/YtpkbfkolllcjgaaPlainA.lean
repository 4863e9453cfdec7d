/-
  Plain facts about next slices, waits and runs: no program in sight.
-/
import Derived.Test.YtpkbfkolllcjgaaEx1
namespace Go.Proofs.Ytpkbfkolllcjgaa
open Go.RowKit

theorem next_spec {xs : List Int} {a : Nat} (h : 0 ≤ nextI xs a) : ∃ q, q < xs.length ∧ nextI xs a = (((a + (q + 1)) % xs.length : Nat) : Int) ∧ (∀ j, j < q → nth xs ((a + (j + 1)) % xs.length) = -1) ∧ nth xs ((a + (q + 1)) % xs.length) ≠ -1 := by
  unfold nextI at h ⊢
  cases hn : nextAt xs a with
  | none => simp [hn] at h
  | some k =>
    unfold nextAt at hn
    rw [List.find?_eq_some_iff_getElem] at hn
    obtain ⟨h1, i, hi, he, hb⟩ := hn
    simp only [List.length_map, List.length_range] at hi
    simp only [List.getElem_map, List.getElem_range] at he
    subst he
    refine ⟨i, hi, rfl, fun j hj => ?_, by simpa using h1⟩
    have := hb j hj
    simpa using this

theorem next_iff {xs : List Int} {a : Nat} (ha : a < xs.length) : decide (0 ≤ nextI xs a) = xs.any (· != -1) := by
  rw [Bool.eq_iff_iff, decide_eq_true_eq, List.any_eq_true]
  constructor
  · intro h
    obtain ⟨q, hq, _, _, hne⟩ := next_spec h
    have hm : (a + (q + 1)) % xs.length < xs.length := Nat.mod_lt _ (by omega)
    exact ⟨xs[(a + (q + 1)) % xs.length], List.getElem_mem hm, by rw [nth_eq hm] at hne; simpa using hne⟩
  · rintro ⟨x, hx, hne⟩
    obtain ⟨p, hp, rfl⟩ := List.getElem_of_mem hx
    have hnp : nth xs p ≠ -1 := by rw [nth_eq hp]; simpa using hne
    -- from p's predecessor the next one is p itself
    have h0 : 0 ≤ nextI xs ((p + (xs.length - 1)) % xs.length) := by
      have e : ((p + (xs.length - 1)) % xs.length + (0 + 1)) % xs.length = p := by
        rw [Nat.add_mod, Nat.mod_mod, ← Nat.add_mod, show p + (xs.length - 1) + (0 + 1) = p + xs.length by omega, Nat.add_mod_right, Nat.mod_eq_of_lt hp]
      rw [nextI_some (k := 0) (by omega) (fun i hi => absurd hi (Nat.not_lt_zero _)) (by rw [e]; exact hnp)]
      exact Int.emod_nonneg _ (by omega)
    exact nextI_any ha h0

theorem least {Q : Nat → Prop} {d : Nat} (h : Q d) : ∃ e, e ≤ d ∧ Q e ∧ ∀ j, j < e → ¬ Q j := by
  induction d using Nat.strongRecOn with
  | _ d ih =>
    by_cases hc : ∃ j, j < d ∧ Q j
    · obtain ⟨j, hj, hq⟩ := hc
      obtain ⟨e, he, h1, h2⟩ := ih j hj hq
      exact ⟨e, by omega, h1, h2⟩
    · exact ⟨d, Nat.le_refl _, h, fun j hj hq => hc ⟨j, hj, hq⟩⟩

theorem waitAt_spec {xs : List Int} {env : Int} {i : Nat} (hi : i < xs.length) (he : nth xs i = env) :
    waitAt xs env i < xs.length ∧ nth xs ((i + (waitAt xs env i + 1)) % xs.length) = env ∧ ∀ j, j < waitAt xs env i → nth xs ((i + (j + 1)) % xs.length) ≠ env := by
  have h0 : nth xs ((i + ((xs.length - 1) + 1)) % xs.length) = env := by
    rw [show i + (xs.length - 1 + 1) = i + xs.length by omega, Nat.add_mod_right, Nat.mod_eq_of_lt hi]; exact he
  obtain ⟨e, he1, he2, he3⟩ := least (Q := fun k => nth xs ((i + (k + 1)) % xs.length) = env) h0
  rw [waitAt_eq (k := e) (by omega) he3 he2]
  exact ⟨by omega, he2, he3⟩
theorem waitsTo_ge {xs : List Int} {env : Int} {i : Nat} (he : nth xs i = env) : ∀ t, i < t → (waitAt xs env i : Int) ≤ waitsTo xs env t := by
  intro t
  induction t with
  | zero => intro h; omega
  | succ t ih =>
    intro h
    by_cases hit : i = t
    · subst hit; rw [waitsTo_hit he]; omega
    · have := ih (by omega)
      simp only [waitsTo]
      split <;> omega
theorem waitsTo_none {xs : List Int} {env : Int} : ∀ t, (∀ j, j < t → nth xs j ≠ env) → waitsTo xs env t = -1 := by
  intro t
  induction t with
  | zero => intro _; rfl
  | succ t ih =>
    intro h
    rw [waitsTo_miss (h t (by omega))]
    exact ih fun j hj => h j (by omega)
theorem waits_none {xs : List Int} {env : Int} : decide (waitsTo xs env xs.length = -1) = !decide (env ∈ xs) := by
  by_cases h : env ∈ xs
  · obtain ⟨j, hj, he⟩ := List.getElem_of_mem h
    have := waitsTo_ge (xs := xs) (env := env) (by rw [nth_eq hj]; exact he) xs.length hj
    have hne : waitsTo xs env xs.length ≠ -1 := by omega
    simp [h, hne]
  · have := waitsTo_none (xs := xs) (env := env) xs.length (fun j hj hc => h (by rw [← hc, nth_eq hj]; exact List.getElem_mem hj))
    simp [h, this]
/-- Whoever has a slice waits less than the greatest wait from any place. -/
theorem wait_law {xs : List Int} {env : Int} {p : Nat} (hp : p < xs.length) (h : 0 ≤ waitsTo xs env xs.length) : ∃ k : Nat, (k : Int) ≤ waitsTo xs env xs.length ∧ nth xs ((p + k) % xs.length) = env := by
  have hocc : ∃ j, j < xs.length ∧ nth xs j = env := by
    rcases Classical.em (∃ j, j < xs.length ∧ nth xs j = env) with h1 | h1
    · exact h1
    · have := waitsTo_none (xs := xs) (env := env) xs.length (fun j hj hc => h1 ⟨j, hj, hc⟩)
      omega
  obtain ⟨j, hj, hje⟩ := hocc
  have hn : 0 < xs.length := by omega
  -- the least step back from p to an occurrence
  have hQ : nth xs ((p + xs.length - (if j ≤ p then p - j else p + xs.length - j)) % xs.length) = env := by
    split
    · rw [show p + xs.length - (p - j) = j + xs.length by omega, Nat.add_mod_right, Nat.mod_eq_of_lt hj]; exact hje
    · rw [show p + xs.length - (p + xs.length - j) = j by omega, Nat.mod_eq_of_lt hj]; exact hje
  obtain ⟨d, hd, hd1, hd2⟩ := least (Q := fun d => nth xs ((p + xs.length - d) % xs.length) = env) hQ
  have hdn : d < xs.length := by split at hd <;> omega
  by_cases hd0 : d = 0
  · subst hd0
    refine ⟨0, h, ?_⟩
    rw [Nat.sub_zero, Nat.add_mod_right] at hd1
    exact hd1
  · have hi : (p + xs.length - d) % xs.length < xs.length := Nat.mod_lt _ hn
    obtain ⟨w1, w2, w3⟩ := waitAt_spec hi hd1
    have hge := waitsTo_ge hd1 xs.length hi
    generalize waitAt xs env ((p + xs.length - d) % xs.length) = W at w1 w2 w3 hge
    have e : ∀ x, ((p + xs.length - d) % xs.length + x) % xs.length = (p + xs.length - d + x) % xs.length := fun x => by
      rw [Nat.add_mod, Nat.mod_mod, ← Nat.add_mod]
    have hWd : d ≤ W := by
      rcases Nat.lt_or_ge W d with hc | hc
      · exfalso
        rw [e] at w2
        by_cases hWe : W + 1 = d
        · have := hd2 0 (by omega)
          rw [hWe, show p + xs.length - d + d = p + xs.length - 0 by omega] at w2
          exact this w2
        · have := hd2 (d - (W + 1)) (by omega)
          rw [show p + xs.length - d + (W + 1) = p + xs.length - (d - (W + 1)) by omega] at w2
          exact this w2
      · exact hc
    refine ⟨W + 1 - d, by omega, ?_⟩
    rw [e] at w2
    rw [show p + xs.length - d + (W + 1) = p + (W + 1 - d) + xs.length by omega, Nat.add_mod_right] at w2
    exact w2

theorem runTo_cons {xs : List Int} {a : Nat} : ∀ t, runTo xs a (t + 1) = ((runTo xs (nextI xs a).toNat t).1, nth xs (nextI xs a).toNat :: (runTo xs (nextI xs a).toNat t).2) := by
  intro t
  induction t with
  | zero => rfl
  | succ t ih => rw [runTo, ih]; rfl
end Go.Proofs.Ytpkbfkolllcjgaa
