/-
  Walks of the smallest functions, and of slices.IndexFunc and ContainsFunc at []int.
-/
import Derived.Test.YtabaemnknjdjoaaBase
import Derived.Handy
namespace Go.Proofs.Ytabaemnknjdjoaa
open Go.RowKit

set_option maxHeartbeats 400000 in
theorem l6In_any (n lo hi : Int) (w : World) :
    Calls Try.prog 46 #[.int .i64 n, .int .i64 lo, .int .i64 hi] w fun e w' => e = .returned (.bool (inB n lo hi)) ∧ w = w' := by
  by_cases h1 : lo ≤ n
  · have e1 : inB n lo hi = decide (n ≤ hi) := by simp [inB, h1]
    have H := Lib.hid e1; clear e1
    go_enter Try.func46, Try.ntmps46
    go_wp2
    go_ret
    exact ⟨ret_bool H.out.symm, rfl⟩
  · have e1 : inB n lo hi = false := by simp [inB, h1]
    have H := Lib.hid e1; clear e1
    go_enter Try.func46, Try.ntmps46
    go_wp2
    go_ret
    exact ⟨ret_bool H.out.symm, rfl⟩

set_option maxHeartbeats 400000 in
theorem within_any (n lo hi : Int) (w : World) :
    Calls Try.prog 38 #[.int .i64 n, .int .i64 lo, .int .i64 hi] w fun e w' => e = .returned (.bool (inB n lo hi)) ∧ w = w' := by
  by_cases h1 : lo ≤ n
  · have e1 : inB n lo hi = decide (n ≤ hi) := by simp [inB, h1]
    have H := Lib.hid e1; clear e1
    go_enter Try.func38, Try.ntmps38
    go_wp2
    go_ret
    exact ⟨ret_bool H.out.symm, rfl⟩
  · have e1 : inB n lo hi = false := by simp [inB, h1]
    have H := Lib.hid e1; clear e1
    go_enter Try.func38, Try.ntmps38
    go_wp2
    go_ret
    exact ⟨ret_bool H.out.symm, rfl⟩


/-- The first place from k on at which p answers yes. -/
def findIdx (p : Int → Bool) (xs : List Int) : Int := if xs.any p then (xs.findIdx p : Int) else -1

theorem findIdx_none {p : Int → Bool} {xs : List Int} (h : ∀ j, j < xs.length → p (nth xs j) = false) : findIdx p xs = -1 := by
  unfold findIdx
  have : xs.any p = false := by
    rw [List.any_eq_false]
    intro x hx
    obtain ⟨j, hj, rfl⟩ := List.getElem_of_mem hx
    have := h j hj
    rw [nth_eq hj] at this
    simp [this]
  simp [this]

theorem findIdx_at {p : Int → Bool} {xs : List Int} {k : Nat} (hk : k < xs.length) (h : ∀ j, j < k → p (nth xs j) = false) (hp : p (nth xs k) = true) : findIdx p xs = k := by
  unfold findIdx
  rw [nth_eq hk] at hp
  have h1 : xs.any p = true := List.any_eq_true.2 ⟨xs[k], List.getElem_mem hk, hp⟩
  have h2 : xs.findIdx p = k := by
    rw [List.findIdx_eq hk]
    refine ⟨hp, fun j hj => ?_⟩
    have := h j hj
    rwa [nth_eq (by omega)] at this
  simp [h1, h2]

theorem findIdx_ge {p : Int → Bool} {xs : List Int} : decide (0 ≤ findIdx p xs) = xs.any p := by
  unfold findIdx
  cases xs.any p <;> simp

set_option maxHeartbeats 400000 in
theorem IndexFunc_any (F : Nat) (caps : Array Value) (p : Int → Bool) (v : Value) (xs : List Int) (w : World) (h : RdInts w v xs)
    (hF : ∀ args w, (callFunc F args).run Try.prog w = .ok (.enter F args) w) (hf : ∀ x w, Calls Try.prog F (#[.int .i64 x] ++ caps) w fun e w' => e = .returned (.bool (p x)) ∧ w = w') :
    Calls Try.prog 59 #[v, .func (.func F) #[] caps] w fun e w' => e = .returned (.int .i64 (findIdx p xs)) ∧ w = w' := by
  obtain ⟨a, c, rfl, hc, hcm, H⟩ := h.open
  clear h
  unfold maxLen at hcm
  have Hf := Lib.hid hf; clear hf
  go_enter Try.func59, Try.ntmps59
  go_wp2
  go_loop [8] (fun i => ∃ k : Nat, k ≤ xs.length ∧ i = .int .i64 k ∧ ∀ j, j < k → p (nth xs j) = false) (fun i => xs.length - (intOf i).toNat)
  case atStart => exact ⟨0, Nat.zero_le _, rfl, fun j hj => absurd hj (Nat.not_lt_zero _)⟩
  case round =>
    obtain ⟨k, hk, rfl, hpre⟩ := hrel
    have Hpre := Lib.hid hpre; clear hpre
    by_cases hlt : k < xs.length
    · obtain ⟨b, off, rfl, D⟩ := H.at hlt
      clear H
      cases hp : p (nth xs k)
      · have Hp := Lib.hid hp; clear hp
        go_wp2_with (refine (Hf.out _ _).mono ?_; rintro e w' ⟨rfl, rfl⟩; rw [Hp.out])
        go_round
        case rel => exact ⟨k + 1, by omega, by go_num, fun j hj => by
            rcases Nat.lt_succ_iff_lt_or_eq.1 hj with h | h
            · exact Hpre.out j h
            · subst h; exact Hp.out⟩
        case measure => simp [intOf]; omega
      · have Hp := Lib.hid hp; clear hp
        have hres := Lib.hid (findIdx_at (p := p) hlt Hpre.out Hp.out)
        go_wp2_with (refine (Hf.out _ _).mono ?_; rintro e w' ⟨rfl, rfl⟩; rw [Hp.out])
        go_ret
        exact ⟨ret_int hres.out.symm, rfl⟩
    · have hres := Lib.hid (findIdx_none (p := p) (xs := xs) (fun j hj => Hpre.out j (by omega)))
      go_wp2
      go_ret
      exact ⟨ret_int hres.out.symm, rfl⟩

set_option maxHeartbeats 400000 in
theorem ContainsFunc_any (F : Nat) (caps : Array Value) (p : Int → Bool) (v : Value) (xs : List Int) (w : World) (h : RdInts w v xs)
    (hF : ∀ args w, (callFunc F args).run Try.prog w = .ok (.enter F args) w) (hf : ∀ x w, Calls Try.prog F (#[.int .i64 x] ++ caps) w fun e w' => e = .returned (.bool (p x)) ∧ w = w') :
    Calls Try.prog 54 #[v, .func (.func F) #[] caps] w fun e w' => e = .returned (.bool (xs.any p)) ∧ w = w' := by
  have Hf := Lib.hid hf; clear hf
  go_enter Try.func54, Try.ntmps54
  go_wp2_with (go_at_call 59; refine (IndexFunc_any F caps p v xs _ h hF Hf.out).mono ?_; rintro e w' ⟨rfl, rfl⟩)
  go_ret
  exact ⟨ret_bool findIdx_ge, rfl⟩

theorem forall_lt_succ {p : Nat → Prop} {k : Nat} (h : ∀ j, j < k → p j) (hk : p k) : ∀ j, j < k + 1 → p j := fun j hj => by
  rcases Nat.lt_succ_iff_lt_or_eq.1 hj with h' | h'
  · exact h j h'
  · subst h'; exact hk

theorem ret_val {a b : Value} (h : a = b) : Ending.returned a = .returned b := by rw [h]
end Go.Proofs.Ytabaemnknjdjoaa
