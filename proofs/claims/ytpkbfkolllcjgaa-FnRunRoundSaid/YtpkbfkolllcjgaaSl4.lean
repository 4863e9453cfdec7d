/-
  Walks of the greatest wait of an environment: the program's and the reference's.
-/
import Derived.Test.YtpkbfkolllcjgaaSl3
namespace Go.Proofs.Ytpkbfkolllcjgaa
open Go.RowKit

/-- How many slices stand between place i and the next place of env. -/
def waitAt (xs : List Int) (env : Int) (i : Nat) : Nat := ((List.range xs.length).find? fun k => nth xs ((i + (k + 1)) % xs.length) == env).getD 0
def waitsTo (xs : List Int) (env : Int) : Nat → Int
  | 0 => -1
  | t + 1 => if nth xs t = env then max (waitsTo xs env t) (waitAt xs env t) else waitsTo xs env t
def sWait (xs : List Int) (env : Int) : Int := if slicesOk xs = true ∧ inB env 0 2 = true then waitsTo xs env xs.length else -1

theorem find_range {n k : Nat} {p : Nat → Bool} (hk : k < n) (h : ∀ j, j < k → p j = false) (hp : p k = true) : (List.range n).find? p = some k := by
  rw [List.find?_eq_some_iff_append]
  refine ⟨hp, List.range k, (List.range (n - (k + 1))).map (fun i => k + 1 + i), ?_, ?_⟩
  · have e : n = k + (1 + (n - (k + 1))) := by omega
    conv => lhs; rw [e]
    rw [List.range_add, List.range_add]
    simp [Nat.add_assoc]
  · intro x hx
    simp [h x (List.mem_range.1 hx)]
theorem waitAt_eq {xs : List Int} {env : Int} {i k : Nat} (hk : k < xs.length) (h : ∀ j, j < k → nth xs ((i + (j + 1)) % xs.length) ≠ env) (he : nth xs ((i + (k + 1)) % xs.length) = env) : waitAt xs env i = k := by
  unfold waitAt
  rw [find_range hk (fun j hj => by simpa using h j hj) (by simpa using he)]
  rfl
theorem waitsTo_hit {xs : List Int} {env : Int} {t : Nat} (h : nth xs t = env) : waitsTo xs env (t + 1) = max (waitsTo xs env t) (waitAt xs env t) := by simp [waitsTo, h]
theorem waitsTo_miss {xs : List Int} {env : Int} {t : Nat} (h : nth xs t ≠ env) : waitsTo xs env (t + 1) = waitsTo xs env t := by simp [waitsTo, h]
theorem waitAt_lt {xs : List Int} {env : Int} {i : Nat} (h : 0 < xs.length) : waitAt xs env i < xs.length := by
  unfold waitAt
  cases hf : (List.range xs.length).find? fun k => nth xs ((i + (k + 1)) % xs.length) == env with
  | none => simpa using h
  | some k => simpa using List.mem_range.1 (List.mem_of_find?_eq_some hf)
theorem waitsTo_bd {xs : List Int} {env : Int} {t : Nat} (h : 0 < xs.length) : -1 ≤ waitsTo xs env t ∧ waitsTo xs env t < xs.length := by
  induction t with
  | zero => simp [waitsTo]; omega
  | succ t ih =>
    have := waitAt_lt (xs := xs) (env := env) (i := t) h
    simp only [waitsTo]
    split <;> omega
theorem wait_stop {xs : List Int} {env : Int} {i k : Nat} (hi : i < xs.length) (hk : k ≤ xs.length) (he : nth xs i = env) (h : ∀ j, j < k → nth xs ((i + (j + 1)) % xs.length) ≠ env) : k < xs.length := by
  rcases Nat.lt_or_ge k xs.length with h' | h'
  · exact h'
  · have := h (xs.length - 1) (by omega)
    rw [show i + (xs.length - 1 + 1) = i + xs.length by omega, Nat.add_mod_right, Nat.mod_eq_of_lt hi] at this
    exact absurd he this
theorem sWait_yes {xs : List Int} {env : Int} (h1 : slicesOk xs = true) (h2 : inB env 0 2 = true) : sWait xs env = waitsTo xs env xs.length := by simp [sWait, h1, h2]
theorem sWait_no1 {xs : List Int} {env : Int} (h1 : slicesOk xs = false) : sWait xs env = -1 := by simp [sWait, h1]
theorem sWait_no2 {xs : List Int} {env : Int} (h2 : inB env 0 2 = false) : sWait xs env = -1 := by simp [sWait, h2]

theorem max_if (a b : Int) : (if a < b then b else a) = max a b := by split <;> omega

set_option maxHeartbeats 1000000 in
theorem SlicesWait_impl (v : Value) (xs : List Int) (env : Int) (w : World) (h : RdInts w v xs) :
    Calls Try.prog 23 #[v, .int .i64 env] w fun e w' => e = .returned (.int .i64 (sWait xs env)) ∧ w = w' := by
  cases h1 : slicesOk xs
  · have Hres := Lib.hid (sWait_no1 (env := env) h1)
    have H1 := Lib.hid h1; clear h1
    go_enter Try.func23, Try.ntmps23
    go_wp2_with (first | (go_at_call 18; refine (SlicesValid_impl _ xs _ h).mono ?_; rintro e w' ⟨rfl, rfl⟩; rw [H1.out]))
    go_ret
    exact ⟨ret_int Hres.out.symm, rfl⟩
  obtain ⟨hl1, hl2⟩ := slicesOk_len h1
  cases h2 : inB env 0 2
  · have Hres := Lib.hid (sWait_no2 (xs := xs) h2)
    have H1 := Lib.hid h1; clear h1
    have H2 := Lib.hid h2; clear h2
    go_enter Try.func23, Try.ntmps23
    go_wp2_with (first | (go_at_call 18; refine (SlicesValid_impl _ xs _ h).mono ?_; rintro e w' ⟨rfl, rfl⟩; rw [H1.out]) | (go_at_call 42; refine (isEnv_any _ _).mono ?_; rintro e w' ⟨rfl, rfl⟩; rw [H2.out]))
    go_ret
    exact ⟨ret_int Hres.out.symm, rfl⟩
  have Hres := Lib.hid (sWait_yes h1 h2)
  have H1 := Lib.hid h1; clear h1
  have H2 := Lib.hid h2; clear h2
  obtain ⟨ad, c, rfl, hc, hcm, H⟩ := h.open
  unfold maxLen at hcm
  go_enter Try.func23, Try.ntmps23
  go_wp2_with (first | (go_at_call 18; refine (SlicesValid_impl _ xs _ h).mono ?_; rintro e w' ⟨rfl, rfl⟩; rw [H1.out]) | (go_at_call 42; refine (isEnv_any _ _).mono ?_; rintro e w' ⟨rfl, rfl⟩; rw [H2.out]))
  go_loop [5, 19] (fun m i => ∃ k : Nat, k ≤ xs.length ∧ i = .int .i64 k ∧ m = .int .i64 (waitsTo xs env k)) (fun _ i => xs.length - (intOf i).toNat)
  case atStart => exact ⟨0, Nat.zero_le _, rfl, rfl⟩
  case round =>
    obtain ⟨k, hk, rfl, rfl⟩ := hrel
    by_cases hlt : k < xs.length
    · obtain ⟨b, off, rfl, D⟩ := H.at hlt
      by_cases he : nth xs k = env
      · have he' : (nth xs k != env) = false := by simp [he]
        have Hs := Lib.hid (waitsTo_hit he)
        have He := Lib.hid he; clear he
        go_wp2
        go_loop [8] (fun i => ∃ q : Nat, q ≤ xs.length ∧ i = .int .i64 q ∧ ∀ j, j < q → nth xs ((k + (j + 1)) % xs.length) ≠ env) (fun i => xs.length - (intOf i).toNat)
        case atStart => exact ⟨0, Nat.zero_le _, rfl, fun j hj => absurd hj (Nat.not_lt_zero _)⟩
        case round =>
          obtain ⟨q, hq, rfl, hpre⟩ := hrel
          have hq' := wait_stop hlt hq He.out hpre
          have Hpre := Lib.hid hpre; clear hpre
          obtain ⟨hm, hm1, hm2⟩ := mod_bounds (a := k) (k := q) (n := xs.length) (by omega)
          obtain ⟨b', off', hb, D'⟩ := H.at hm
          obtain ⟨rfl, rfl⟩ : b = b' ∧ off = off' := by simpa using hb
          clear hb hm
          rw [← Int.add_assoc] at hm1 hm2
          rw [← Nat.add_assoc] at D'
          by_cases hp : nth xs ((k + q + 1) % xs.length) = env
          · have hp' : (nth xs ((k + q + 1) % xs.length) != env) = false := by simp [hp]
            have Hw := Lib.hid (waitAt_eq hq' Hpre.out hp)
            clear hp
            go_wp2
            go_round
            case rel => exact ⟨k + 1, by omega, by go_num, by rw [Hs.out, Hw.out, max_if]⟩
            case measure => simp [intOf]; omega
          · have hp' : (nth xs ((k + q + 1) % xs.length) != env) = true := by simp [hp]
            have Hp := Lib.hid hp; clear hp
            go_wp2
            go_round
            case rel => exact ⟨q + 1, by omega, by go_num, forall_lt_succ Hpre.out Hp.out⟩
            case measure => simp [intOf]; omega
      · have he' : (nth xs k != env) = true := by simp [he]
        have Hs := Lib.hid (waitsTo_miss he)
        clear he
        go_wp2
        go_round
        case rel => exact ⟨k + 1, by omega, by go_num, by rw [Hs.out]⟩
        case measure => simp [intOf]; omega
    · obtain rfl : k = xs.length := by omega
      go_wp2
      go_ret
      exact ⟨ret_int Hres.out.symm, rfl⟩

set_option maxHeartbeats 1000000 in
theorem SlicesWait_spec (v : Value) (xs : List Int) (env : Int) (w : World) (h : RdInts w v xs) :
    Calls Try.prog 22 #[v, .int .i64 env] w fun e w' => e = .returned (.int .i64 (sWait xs env)) ∧ w = w' := by
  by_cases hz : xs.length = 0
  · obtain ⟨ad, c, rfl, hc, hcm, H⟩ := h.open
    unfold maxLen at hcm
    have hz' : ¬ ((0 : Int) < xs.length) := by omega
    have Hres := Lib.hid (show sWait xs env = -1 by
      cases h1 : slicesOk xs
      · exact sWait_no1 h1
      · have := slicesOk_len h1; omega)
    clear hz
    go_enter Try.func22, Try.ntmps22
    go_wp2
    refine wp_loop_rounds 1 ?_; rw [rounds_succ]
    go_wp2
    go_ret
    exact ⟨ret_int Hres.out.symm, rfl⟩
  cases h1 : slicesOk xs
  · have Hres := Lib.hid (sWait_no1 (env := env) h1)
    have H1 := Lib.hid h1; clear h1
    obtain ⟨ad, c, rfl, hc, hcm, H⟩ := h.open
    unfold maxLen at hcm
    have hz' : ((0 : Int) < xs.length) := by omega
    clear hz
    go_enter Try.func22, Try.ntmps22
    go_wp2
    refine wp_loop_rounds 1 ?_; rw [rounds_succ]
    go_wp2_with (first | (go_at_call 16; refine (SlicesValid_spec _ xs _ h).mono ?_; rintro e w' ⟨rfl, rfl⟩; rw [H1.out]))
    go_ret
    exact ⟨ret_int Hres.out.symm, rfl⟩
  obtain ⟨hl1, hl2⟩ := slicesOk_len h1
  cases h2 : inB env 0 2
  · have Hres := Lib.hid (sWait_no2 (xs := xs) h2)
    have H1 := Lib.hid h1; clear h1
    have H2 := Lib.hid h2; clear h2
    obtain ⟨ad, c, rfl, hc, hcm, H⟩ := h.open
    unfold maxLen at hcm
    have hz' : ((0 : Int) < xs.length) := by omega
    clear hz
    go_enter Try.func22, Try.ntmps22
    go_wp2
    refine wp_loop_rounds 1 ?_; rw [rounds_succ]
    go_wp2_with (first | (go_at_call 16; refine (SlicesValid_spec _ xs _ h).mono ?_; rintro e w' ⟨rfl, rfl⟩; rw [H1.out]) | (go_at_call 36; refine (l6In_any _ _ _ _).mono ?_; rintro e w' ⟨rfl, rfl⟩; rw [H2.out]))
    go_ret
    exact ⟨ret_int Hres.out.symm, rfl⟩
  have Hres := Lib.hid (sWait_yes h1 h2)
  have H1 := Lib.hid h1; clear h1
  have H2 := Lib.hid h2; clear h2
  obtain ⟨ad, c, rfl, hc, hcm, H⟩ := h.open
  unfold maxLen at hcm
  clear hz
  go_enter Try.func22, Try.ntmps22
  go_wp2
  go_loop [5, 6] (fun m i => ∃ k : Nat, k ≤ xs.length ∧ i = .int .i64 k ∧ m = .int .i64 (waitsTo xs env k)) (fun _ i => xs.length - (intOf i).toNat)
  case atStart => exact ⟨0, Nat.zero_le _, rfl, rfl⟩
  case round =>
    obtain ⟨k, hk, rfl, rfl⟩ := hrel
    by_cases hlt : k < xs.length
    · obtain ⟨b, off, rfl, D⟩ := H.at hlt
      by_cases he : nth xs k = env
      · have he' : (nth xs k == env) = true := by simp [he]
        have Hs := Lib.hid (waitsTo_hit he)
        have He := Lib.hid he; clear he
        go_wp2_with (first | (go_at_call 16; refine (SlicesValid_spec _ xs _ h).mono ?_; rintro e w' ⟨rfl, rfl⟩; rw [H1.out]) | (go_at_call 36; refine (l6In_any _ _ _ _).mono ?_; rintro e w' ⟨rfl, rfl⟩; rw [H2.out]))
        go_loop [7] (fun i => ∃ q : Nat, q ≤ xs.length ∧ i = .int .i64 (q + 1) ∧ ∀ j, j < q → nth xs ((k + (j + 1)) % xs.length) ≠ env) (fun i => xs.length + 1 - (intOf i).toNat)
        case atStart => exact ⟨0, Nat.zero_le _, rfl, fun j hj => absurd hj (Nat.not_lt_zero _)⟩
        case round =>
          obtain ⟨q, hq, rfl, hpre⟩ := hrel
          have hq' := wait_stop hlt hq He.out hpre
          have Hpre := Lib.hid hpre; clear hpre
          obtain ⟨hm, hm1, hm2⟩ := mod_bounds (a := k) (k := q) (n := xs.length) (by omega)
          obtain ⟨b', off', hb, D'⟩ := H.at hm
          obtain ⟨rfl, rfl⟩ : b = b' ∧ off = off' := by simpa using hb
          clear hb hm
          by_cases hp : nth xs ((k + (q + 1)) % xs.length) = env
          · have hp' : (nth xs ((k + (q + 1)) % xs.length) != env) = false := by simp [hp]
            have Hw := Lib.hid (waitAt_eq hq' Hpre.out hp)
            clear hp
            go_wp2
            go_round
            case rel => exact ⟨k + 1, by omega, by go_num, by rw [Hs.out, Hw.out, max_if]⟩
            case measure => simp [intOf]; omega
          · have hp' : (nth xs ((k + (q + 1)) % xs.length) != env) = true := by simp [hp]
            have Hp := Lib.hid hp; clear hp
            go_wp2
            go_round
            case rel => exact ⟨q + 1, by omega, by go_num, forall_lt_succ Hpre.out Hp.out⟩
            case measure => simp [intOf]; omega
      · have he' : (nth xs k == env) = false := by simp [he]
        have Hs := Lib.hid (waitsTo_miss he)
        clear he
        go_wp2_with (first | (go_at_call 16; refine (SlicesValid_spec _ xs _ h).mono ?_; rintro e w' ⟨rfl, rfl⟩; rw [H1.out]) | (go_at_call 36; refine (l6In_any _ _ _ _).mono ?_; rintro e w' ⟨rfl, rfl⟩; rw [H2.out]))
        go_round
        case rel => exact ⟨k + 1, by omega, by go_num, by rw [Hs.out]⟩
        case measure => simp [intOf]; omega
    · obtain rfl : k = xs.length := by omega
      go_wp2
      go_ret
      exact ⟨ret_int Hres.out.symm, rfl⟩
end Go.Proofs.Ytpkbfkolllcjgaa
