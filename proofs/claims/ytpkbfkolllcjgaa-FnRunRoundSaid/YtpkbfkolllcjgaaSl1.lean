/-
  Walks of the small functions over slices of ints: each returns what the plain Lean function says, and writes nothing that was there.
-/
import Derived.Test.YtpkbfkolllcjgaaBase
import Derived.Handy
namespace Go.Proofs.Ytpkbfkolllcjgaa
open Go.RowKit

set_option maxHeartbeats 400000 in
theorem l6In_any (n lo hi : Int) (w : World) :
    Calls Try.prog 36 #[.int .i64 n, .int .i64 lo, .int .i64 hi] w fun e w' => e = .returned (.bool (inB n lo hi)) ∧ w = w' := by
  by_cases h1 : lo ≤ n
  · have e1 : inB n lo hi = decide (n ≤ hi) := by simp [inB, h1]
    have H := Lib.hid e1; clear e1
    go_enter Try.func36, Try.ntmps36
    go_wp2
    go_ret
    exact ⟨ret_bool H.out.symm, rfl⟩
  · have e1 : inB n lo hi = false := by simp [inB, h1]
    have H := Lib.hid e1; clear e1
    go_enter Try.func36, Try.ntmps36
    go_wp2
    go_ret
    exact ⟨ret_bool H.out.symm, rfl⟩

set_option maxHeartbeats 400000 in
theorem within_any (n lo hi : Int) (w : World) :
    Calls Try.prog 37 #[.int .i64 n, .int .i64 lo, .int .i64 hi] w fun e w' => e = .returned (.bool (inB n lo hi)) ∧ w = w' := by
  by_cases h1 : lo ≤ n
  · have e1 : inB n lo hi = decide (n ≤ hi) := by simp [inB, h1]
    have H := Lib.hid e1; clear e1
    go_enter Try.func37, Try.ntmps37
    go_wp2
    go_ret
    exact ⟨ret_bool H.out.symm, rfl⟩
  · have e1 : inB n lo hi = false := by simp [inB, h1]
    have H := Lib.hid e1; clear e1
    go_enter Try.func37, Try.ntmps37
    go_wp2
    go_ret
    exact ⟨ret_bool H.out.symm, rfl⟩

set_option maxHeartbeats 400000 in
theorem isEnv_any (n : Int) (w : World) :
    Calls Try.prog 42 #[.int .i64 n] w fun e w' => e = .returned (.bool (inB n 0 2)) ∧ w = w' := by
  go_enter Try.func42, Try.ntmps42
  go_wp2_with (go_at_call 37; refine (within_any _ _ _ _).mono ?_; rintro e w' ⟨rfl, rfl⟩)
  go_ret
  exact ⟨rfl, rfl⟩

set_option maxHeartbeats 400000 in
theorem isSlice_any (n : Int) (w : World) :
    Calls Try.prog 40 #[.int .i64 n] w fun e w' => e = .returned (.bool (inB n (-1) 2)) ∧ w = w' := by
  by_cases h1 : n = -1
  · subst h1
    go_enter Try.func40, Try.ntmps40
    go_wp2_with (go_at_call 42; refine (isEnv_any _ _).mono ?_; rintro e w' ⟨rfl, rfl⟩)
    go_ret
    exact ⟨rfl, rfl⟩
  · have e1 : inB n (-1) 2 = inB n 0 2 := by rw [Bool.eq_iff_iff, inB_iff, inB_iff]; omega
    have e2 : (n == -1) = false := by simp [h1]
    have H := Lib.hid e1; clear e1 h1
    go_enter Try.func40, Try.ntmps40
    go_wp2_with (go_at_call 42; refine (isEnv_any _ _).mono ?_; rintro e w' ⟨rfl, rfl⟩)
    go_ret
    exact ⟨ret_bool H.out.symm, rfl⟩

set_option maxHeartbeats 400000 in
theorem badSlice_any (n : Int) (w : World) :
    Calls Try.prog 39 #[.int .i64 n] w fun e w' => e = .returned (.bool (!inB n (-1) 2)) ∧ w = w' := by
  go_enter Try.func39, Try.ntmps39
  go_wp2_with (go_at_call 40; refine (isSlice_any _ _).mono ?_; rintro e w' ⟨rfl, rfl⟩)
  go_ret
  exact ⟨rfl, rfl⟩

/-- The first place from k on at which p answers yes. -/
def findIdx (p : Int → Bool) (xs : List Int) : Int := if xs.any p then (xs.findIdx p : Int) else -1

theorem findIdx_none {p : Int → Bool} {xs : List Int} (h : ∀ j, j < xs.length → p (nth xs j) = false) : findIdx p xs = -1 := by
  unfold findIdx
  have : xs.any p = false := by
    rw [List.any_eq_false]
    intro x hx
    obtain ⟨j, hj, rfl⟩ := List.getElem_of_mem hx
    have := h j hj
    rw [nth_eq hj] at this
    simp [this]
  simp [this]
theorem findIdx_at {p : Int → Bool} {xs : List Int} {k : Nat} (hk : k < xs.length) (h : ∀ j, j < k → p (nth xs j) = false) (hp : p (nth xs k) = true) : findIdx p xs = k := by
  unfold findIdx
  rw [nth_eq hk] at hp
  have h1 : xs.any p = true := List.any_eq_true.2 ⟨xs[k], List.getElem_mem hk, hp⟩
  have h2 : xs.findIdx p = k := by
    rw [List.findIdx_eq hk]
    refine ⟨hp, fun j hj => ?_⟩
    have := h j hj
    rwa [nth_eq (by omega)] at this
  simp [h1, h2]

set_option maxHeartbeats 400000 in
theorem IndexFunc_any (F : Nat) (caps : Array Value) (p : Int → Bool) (v : Value) (xs : List Int) (w : World) (h : RdInts w v xs)
    (hF : ∀ args w, (callFunc F args).run Try.prog w = .ok (.enter F args) w) (hf : ∀ x w, Calls Try.prog F (#[.int .i64 x] ++ caps) w fun e w' => e = .returned (.bool (p x)) ∧ w = w') :
    Calls Try.prog 47 #[v, .func (.func F) #[] caps] w fun e w' => e = .returned (.int .i64 (findIdx p xs)) ∧ w = w' := by
  obtain ⟨a, c, rfl, hc, hcm, H⟩ := h.open
  clear h
  unfold maxLen at hcm
  have Hf := Lib.hid hf; clear hf
  go_enter Try.func47, Try.ntmps47
  go_wp2
  go_loop [8] (fun i => ∃ k : Nat, k ≤ xs.length ∧ i = .int .i64 k ∧ ∀ j, j < k → p (nth xs j) = false) (fun i => xs.length - (intOf i).toNat)
  case atStart => exact ⟨0, Nat.zero_le _, rfl, fun j hj => absurd hj (Nat.not_lt_zero _)⟩
  case round =>
    obtain ⟨k, hk, rfl, hpre⟩ := hrel
    have Hpre := Lib.hid hpre; clear hpre
    by_cases hlt : k < xs.length
    · obtain ⟨b, off, rfl, D⟩ := H.at hlt
      clear H
      cases hp : p (nth xs k)
      · have Hp := Lib.hid hp; clear hp
        go_wp2_with (refine (Hf.out _ _).mono ?_; rintro e w' ⟨rfl, rfl⟩; rw [Hp.out])
        go_round
        case rel => exact ⟨k + 1, by omega, by go_num, fun j hj => by
            rcases Nat.lt_succ_iff_lt_or_eq.1 hj with h | h
            · exact Hpre.out j h
            · subst h; exact Hp.out⟩
        case measure => simp [intOf]; omega
      · have Hp := Lib.hid hp; clear hp
        have hres := Lib.hid (findIdx_at (p := p) hlt Hpre.out Hp.out)
        go_wp2_with (refine (Hf.out _ _).mono ?_; rintro e w' ⟨rfl, rfl⟩; rw [Hp.out])
        go_ret
        exact ⟨ret_int hres.out.symm, rfl⟩
    · have hres := Lib.hid (findIdx_none (p := p) (xs := xs) (fun j hj => Hpre.out j (by omega)))
      go_wp2
      go_ret
      exact ⟨ret_int hres.out.symm, rfl⟩

theorem findIdx_ge {p : Int → Bool} {xs : List Int} : decide (0 ≤ findIdx p xs) = xs.any p := by
  unfold findIdx
  cases xs.any p <;> simp
  
set_option maxHeartbeats 400000 in
theorem ContainsFunc_any (F : Nat) (caps : Array Value) (p : Int → Bool) (v : Value) (xs : List Int) (w : World) (h : RdInts w v xs)
    (hF : ∀ args w, (callFunc F args).run Try.prog w = .ok (.enter F args) w) (hf : ∀ x w, Calls Try.prog F (#[.int .i64 x] ++ caps) w fun e w' => e = .returned (.bool (p x)) ∧ w = w') :
    Calls Try.prog 38 #[v, .func (.func F) #[] caps] w fun e w' => e = .returned (.bool (xs.any p)) ∧ w = w' := by
  have Hf := Lib.hid hf; clear hf
  go_enter Try.func38, Try.ntmps38
  go_wp2_with (go_at_call 47; refine (IndexFunc_any F caps p v xs _ h hF Hf.out).mono ?_; rintro e w' ⟨rfl, rfl⟩)
  go_ret
  exact ⟨ret_bool findIdx_ge, rfl⟩

theorem callFunc_slice : ∀ args w, (callFunc 39 args).run Try.prog w = .ok (.enter 39 args) w := fun _ _ => by kernel_rfl

/-- Slices of a round are valid. -/
def slicesOk (xs : List Int) : Bool := inB xs.length 1 10 && xs.all (inB · (-1) 2)

theorem slicesOk_eq {xs : List Int} (h : inB xs.length 1 10 = true) : slicesOk xs = !(xs.any fun x => !inB x (-1) 2) := by
  rw [slicesOk, h, Bool.true_and, List.all_eq_not_any_not]
theorem slicesOk_no {xs : List Int} (h : inB xs.length 1 10 = false) : slicesOk xs = false := by
  simp [slicesOk, h]

theorem ContainsFunc_bad (v : Value) (xs : List Int) (w : World) (h : RdInts w v xs) :
    Calls Try.prog 38 #[v, .func (.func 39) #[] #[]] w fun e w' => e = .returned (.bool (xs.any fun x => !inB x (-1) 2)) ∧ w = w' :=
  ContainsFunc_any 39 #[] (fun x => !inB x (-1) 2) v xs w h callFunc_slice (fun x w => by simpa using badSlice_any x w)

set_option maxHeartbeats 400000 in
theorem SlicesValid_impl (v : Value) (xs : List Int) (w : World) (h : RdInts w v xs) :
    Calls Try.prog 18 #[v] w fun e w' => e = .returned (.bool (slicesOk xs)) ∧ w = w' := by
  obtain ⟨a, c, rfl, hc, hcm, _⟩ := h.open
  unfold maxLen at hcm
  cases hb : inB xs.length 1 10
  · have H := Lib.hid (slicesOk_no hb)
    have Hb := Lib.hid hb; clear hb
    go_enter Try.func18, Try.ntmps18
    go_wp2_with (first | (go_at_call 37; refine (within_any _ _ _ _).mono ?_; rintro e w' ⟨rfl, rfl⟩; rw [Hb.out]))
    go_ret
    exact ⟨ret_bool H.out.symm, rfl⟩
  · have H := Lib.hid (slicesOk_eq hb)
    have Hb := Lib.hid hb; clear hb
    go_enter Try.func18, Try.ntmps18
    go_wp2_with (first | (go_at_call 37; refine (within_any _ _ _ _).mono ?_; rintro e w' ⟨rfl, rfl⟩; rw [Hb.out]) | (go_at_call 38; refine (ContainsFunc_bad _ xs _ h).mono ?_; rintro e w' ⟨rfl, rfl⟩))
    go_ret
    exact ⟨ret_bool H.out.symm, rfl⟩

theorem slicesOk_bad {xs : List Int} {k : Nat} (hk : k < xs.length) (h : inB (nth xs k) (-1) 2 = false) : slicesOk xs = false := by
  rw [nth_eq hk] at h
  have : xs.all (inB · (-1) 2) = false := by
    rw [List.all_eq_false]
    exact ⟨xs[k], List.getElem_mem hk, by simp [h]⟩
  simp [slicesOk, this]
theorem slicesOk_good {xs : List Int} (h : ∀ j, j < xs.length → inB (nth xs j) (-1) 2 = true) : slicesOk xs = inB xs.length 1 10 := by
  have : xs.all (inB · (-1) 2) = true := by
    rw [List.all_eq_true]
    intro x hx
    obtain ⟨j, hj, rfl⟩ := List.getElem_of_mem hx
    have := h j hj
    rwa [nth_eq hj] at this
  simp [slicesOk, this]
  
theorem forall_lt_succ {p : Nat → Prop} {k : Nat} (h : ∀ j, j < k → p j) (hk : p k) : ∀ j, j < k + 1 → p j := fun j hj => by
  rcases Nat.lt_succ_iff_lt_or_eq.1 hj with h' | h'
  · exact h j h'
  · subst h'; exact hk

set_option maxHeartbeats 400000 in
theorem SlicesValid_spec (v : Value) (xs : List Int) (w : World) (h : RdInts w v xs) :
    Calls Try.prog 16 #[v] w fun e w' => e = .returned (.bool (slicesOk xs)) ∧ w = w' := by
  obtain ⟨a, c, rfl, hc, hcm, H⟩ := h.open
  clear h
  unfold maxLen at hcm
  go_enter Try.func16, Try.ntmps16
  go_wp2
  go_loop [3] (fun i => ∃ k : Nat, k ≤ xs.length ∧ i = .int .i64 k ∧ ∀ j, j < k → inB (nth xs j) (-1) 2 = true) (fun i => xs.length - (intOf i).toNat)
  case atStart => exact ⟨0, Nat.zero_le _, rfl, fun j hj => absurd hj (Nat.not_lt_zero _)⟩
  case round =>
    obtain ⟨k, hk, rfl, hpre⟩ := hrel
    have Hpre := Lib.hid hpre; clear hpre
    by_cases hlt : k < xs.length
    · obtain ⟨b, off, rfl, D⟩ := H.at hlt
      clear H
      cases hp : inB (nth xs k) (-1) 2
      · have Hres := Lib.hid (slicesOk_bad hlt hp)
        have Hp := Lib.hid hp; clear hp
        go_wp2_with (go_at_call 36; refine (l6In_any _ _ _ _).mono ?_; rintro e w' ⟨rfl, rfl⟩; rw [Hp.out])
        go_ret
        exact ⟨ret_bool Hres.out.symm, rfl⟩
      · have Hp := Lib.hid hp; clear hp
        go_wp2_with (go_at_call 36; refine (l6In_any _ _ _ _).mono ?_; rintro e w' ⟨rfl, rfl⟩; rw [Hp.out])
        go_round
        case rel => exact ⟨k + 1, by omega, by go_num, forall_lt_succ Hpre.out Hp.out⟩
        case measure => simp [intOf]; omega
    · have Hres := Lib.hid (slicesOk_good (xs := xs) (fun j hj => Hpre.out j (by omega)))
      go_wp2_with (go_at_call 36; refine (l6In_any _ _ _ _).mono ?_; rintro e w' ⟨rfl, rfl⟩)
      go_ret
      exact ⟨ret_bool Hres.out.symm, rfl⟩
end Go.Proofs.Ytpkbfkolllcjgaa
