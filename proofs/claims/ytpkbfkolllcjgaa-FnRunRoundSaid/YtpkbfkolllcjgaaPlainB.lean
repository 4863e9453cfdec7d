/-
  Plain facts about a whole round of slices: no program in sight.
-/
import Derived.Test.YtpkbfkolllcjgaaPlainA
namespace Go.Proofs.Ytpkbfkolllcjgaa
open Go.RowKit

/-- The slices behind place a, once round. -/
def rot (xs : List Int) (a : Nat) : List Int := (List.range xs.length).map fun j => nth xs ((a + (j + 1)) % xs.length)

theorem rot_len (xs : List Int) (a : Nat) : (rot xs a).length = xs.length := by simp [rot]
theorem rot_get {xs : List Int} {a j : Nat} (hj : j < xs.length) : nth (rot xs a) j = nth xs ((a + (j + 1)) % xs.length) := by
  rw [nth_eq (by rw [rot_len]; exact hj)]
  simp [rot]
theorem rot_eq {xs : List Int} {a : Nat} (ha : a < xs.length) : rot xs a = xs.drop (a + 1) ++ xs.take (a + 1) := by
  refine eq_of_nth (by simp [rot]; omega) fun j hj => ?_
  rw [rot_len] at hj
  rw [rot_get hj]
  have hm : (a + (j + 1)) % xs.length < xs.length := Nat.mod_lt _ (by omega)
  rw [nth_eq hm, nth_eq (by simp; omega)]
  by_cases hc : j < xs.length - (a + 1)
  · rw [List.getElem_append_left (by simp; omega)]
    simp only [List.getElem_drop]
    congr 1
    rw [Nat.mod_eq_of_lt (by omega)]; omega
  · rw [List.getElem_append_right (by simp; omega)]
    simp only [List.getElem_take, List.length_drop]
    congr 1
    rw [show a + (j + 1) = (j - (xs.length - (a + 1))) + xs.length by omega, Nat.add_mod_right, Nat.mod_eq_of_lt (by omega)]
theorem rot_count {xs : List Int} {a : Nat} (ha : a < xs.length) (p : Int → Bool) : (rot xs a).countP p = xs.countP p := by
  rw [rot_eq ha, List.countP_append, Nat.add_comm, ← List.countP_append, List.take_append_drop]

theorem take_nth' {xs : List Int} {k : Nat} (h : k < xs.length) : xs.take (k + 1) = xs.take k ++ [nth xs k] := take_nth h

/-- A run has taken the slices that are not free, in order. -/
theorem run_filter {xs : List Int} {a : Nat} (ha : a < xs.length) : ∀ t, t ≤ xs.countP (· != -1) →
    ∃ s, s ≤ xs.length ∧ (runTo xs a t).1 = (a + s) % xs.length ∧ (runTo xs a t).2 = ((rot xs a).take s).filter (· != -1) := by
  have hn : 0 < xs.length := by omega
  intro t
  induction t with
  | zero => intro _; exact ⟨0, Nat.zero_le _, by simp [runTo, Nat.mod_eq_of_lt ha], by simp [runTo]⟩
  | succ t ih =>
    intro ht
    obtain ⟨s, hs, h1, h2⟩ := ih (by omega)
    -- some slice behind s is not free
    have hlen : (((rot xs a).take s).filter (· != -1)).length = t := by rw [← h2, runTo_len]
    have htot : (rot xs a).countP (· != -1) = xs.countP (· != -1) := rot_count ha _
    have hex : ∃ d, s + d < xs.length ∧ nth (rot xs a) (s + d) ≠ -1 := by
      rcases Classical.em (∃ d, s + d < xs.length ∧ nth (rot xs a) (s + d) ≠ -1) with h | h
      · exact h
      · exfalso
        have hz : ((rot xs a).drop s).countP (· != -1) = 0 := by
          rw [List.countP_eq_zero]
          intro x hx
          obtain ⟨d, hd, rfl⟩ := List.getElem_of_mem hx
          simp only [List.length_drop, rot_len] at hd
          have hd' : s + d < xs.length := by omega
          have : ¬ nth (rot xs a) (s + d) ≠ -1 := fun hc => h ⟨d, hd', hc⟩
          rw [nth_eq (by rw [rot_len]; exact hd')] at this
          simp only [List.getElem_drop]
          simpa using this
        have hsum : (rot xs a).countP (· != -1) = ((rot xs a).take s).countP (· != -1) + ((rot xs a).drop s).countP (· != -1) := by
          conv => lhs; rw [← List.take_append_drop s (rot xs a)]
          rw [List.countP_append]
        rw [hz, List.countP_eq_length_filter (l := (rot xs a).take s), hlen] at hsum
        omega
    obtain ⟨d0, hd0, hne0⟩ := hex
    obtain ⟨d, hd, ⟨hd1, hd2⟩, hd3⟩ := least (Q := fun d => s + d < xs.length ∧ nth (rot xs a) (s + d) ≠ -1) ⟨hd0, hne0⟩
    have hfree : ∀ j, j < d → nth (rot xs a) (s + j) = -1 := fun j hj => by
      have := hd3 j hj
      simp only [not_and, Classical.not_not] at this
      exact this (by omega)
    have hmod : ∀ j, ((a + s) % xs.length + (j + 1)) % xs.length = (a + (s + j + 1)) % xs.length := fun j => by
      rw [Nat.add_mod, Nat.mod_mod, ← Nat.add_mod, show a + s + (j + 1) = a + (s + j + 1) by omega]
    have hnext : nextI xs ((a + s) % xs.length) = (((a + (s + d + 1)) % xs.length : Nat) : Int) := by
      rw [nextI_some (k := d) (by omega) (fun j hj => by rw [hmod, ← rot_get (by omega)]; exact hfree j hj) (by rw [hmod, ← rot_get hd1]; exact hd2)]
      rw [← hmod d]; push_cast; rfl
    refine ⟨s + d + 1, by omega, ?_, ?_⟩
    · rw [runTo, h1, hnext, Int.toNat_natCast]
    · rw [runTo]
      simp only [h1, hnext, Int.toNat_natCast]
      rw [h2, ← rot_get hd1, take_nth (by rw [rot_len]; exact hd1), List.filter_append]
      have hskip : ((rot xs a).take (s + d)).filter (· != -1) = ((rot xs a).take s).filter (· != -1) := by
        have key : ∀ j, j ≤ d → ((rot xs a).take (s + j)).filter (· != -1) = ((rot xs a).take s).filter (· != -1) := by
          intro j
          induction j with
          | zero => intro _; rfl
          | succ j ihj =>
            intro hj
            rw [← Nat.add_assoc, take_nth (by rw [rot_len]; omega), List.filter_append, ihj (by omega), hfree j (by omega)]
            simp
        exact key d (Nat.le_refl _)
      rw [hskip]
      simp [hd2]

/-- A run over as many slices as are not free has each environment as often as the slices have it. -/
theorem round_count {xs : List Int} {a : Nat} (ha : a < xs.length) {env : Int} (he : env ≠ -1) : (runTo xs a (xs.countP (· != -1))).2.countP (· == env) = xs.countP (· == env) := by
  obtain ⟨s, hs, _, h2⟩ := run_filter ha _ (Nat.le_refl _)
  have hlen : (((rot xs a).take s).filter (· != -1)).length = xs.countP (· != -1) := by rw [← h2, runTo_len]
  have htot : (rot xs a).countP (· != -1) = xs.countP (· != -1) := rot_count ha _
  have hsum : ∀ p : Int → Bool, (rot xs a).countP p = ((rot xs a).take s).countP p + ((rot xs a).drop s).countP p := fun p => by
    conv => lhs; rw [← List.take_append_drop s (rot xs a)]
    rw [List.countP_append]
  have hz : ((rot xs a).drop s).countP (· != -1) = 0 := by
    have := hsum (· != -1)
    rw [List.countP_eq_length_filter (l := (rot xs a).take s), hlen] at this
    omega
  have hz2 : ((rot xs a).drop s).countP (· == env) = 0 := by
    rw [List.countP_eq_zero] at hz ⊢
    intro x hx hxe
    have := hz x hx
    simp at this hxe
    omega
  rw [h2, List.countP_filter, ← rot_count ha (· == env), hsum (· == env), hz2, Nat.add_zero]
  refine List.countP_congr fun x _ => ?_
  simp
  intro h; omega
end Go.Proofs.Ytpkbfkolllcjgaa
