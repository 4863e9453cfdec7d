/-
  The law laws.FnWait returns true for every code. No conditions.
-/
import Derived.Test.YtpkbfkolllcjgaaFn1
namespace Go.Proofs.Ytpkbfkolllcjgaa.fnWait
open Go.RowKit
open Go.Proofs.Ytpkbfkolllcjgaa

def seen (xs : List Int) (env : Int) (p k : Nat) : Bool := (List.range k).any fun j => nth xs ((p + j) % xs.length) == env
theorem seen_succ {xs : List Int} {env : Int} {p k : Nat} : seen xs env p (k + 1) = (seen xs env p k || nth xs ((p + k) % xs.length) == env) := by
  simp [seen, List.range_succ]
theorem seen_all {xs : List Int} {env : Int} {p k : Nat} {W : Nat} (hk : k ≤ W) (h : nth xs ((p + k) % xs.length) = env) : seen xs env p (W + 1) = true := by
  rw [seen, List.any_eq_true]
  exact ⟨k, List.mem_range.2 (by omega), by simp [h]⟩
theorem mod_bounds0 {a k n : Nat} (hn : 0 < n) : (a + k) % n < n ∧ 0 ≤ ((a : Int) + k) % n ∧ ((a : Int) + k) % n < n :=
  ⟨Nat.mod_lt _ hn, Int.emod_nonneg _ (by omega), Int.emod_lt_of_pos _ (by omega)⟩

set_option maxHeartbeats 4000000 in
theorem walkR (v : Value) (bs : List Int) (w : World) (h : RdBytes w v bs) :
    Calls Try.prog 9 #[v] w fun e w' => e = .returned (.bool true) ∧ Below w.heap.size w w' := by
  obtain ⟨a0, c0, hv, hc, hcm, _⟩ := h.open
  subst hv
  unfold maxLen at hcm
  by_cases hs : 1048576 < bs.length
  · go_enter Try.func9, Try.ntmps9
    go_wp2_with fail
    go_ret
    exact ⟨rfl, Below.refl _ _⟩
  go_enter Try.func9, Try.ntmps9
  go_wp2_with fail
  refine (DrawSlicesWait_any _ bs _ h).mono ?_; rintro e w1 ⟨v1, xs, env, rfl, o1, hl, b1⟩
  obtain ⟨a1, c1, rfl, hc1, hcm1, hA⟩ := o1.rd.open
  unfold maxLen at hcm1
  go_wp2_with fail
  refine (SlicesWait_impl _ xs _ _ o1.rd).mono ?_; rintro e w2 ⟨rfl, rfl⟩
  go_wp2_with fail
  refine (SlicesWait_spec _ xs _ _ o1.rd).mono ?_; rintro e w2 ⟨rfl, rfl⟩
  by_cases hw : 0 ≤ sWait xs env
  · have hv : slicesOk xs = true ∧ inB env 0 2 = true := by
      rcases Classical.em (slicesOk xs = true ∧ inB env 0 2 = true) with h1 | h1
      · exact h1
      · rw [sWait, if_neg h1] at hw; omega
    obtain ⟨hl1, hl2⟩ := slicesOk_len hv.1
    rw [sWait_yes hv.1 hv.2] at hw ⊢
    have hbd := (waitsTo_bd (xs := xs) (env := env) (t := xs.length) (by omega)).2
    have Hlaw := Lib.hid (fun p (hp : p < xs.length) => wait_law hp hw)
    obtain ⟨W, hW⟩ := Int.eq_ofNat_of_zero_le hw
    rw [hW] at hbd ⊢
    have HW := Lib.hid hW
    clear hw hW hv
    go_wp2_with fail
    go_loop [7] (fun a => ∃ p : Nat, p ≤ xs.length ∧ a = .int .i64 p) (fun a => xs.length - (intOf a).toNat)
    case atStart => exact ⟨0, Nat.zero_le _, rfl⟩
    case round =>
      obtain ⟨p, hp, rfl⟩ := hrel
      by_cases hlt : p < xs.length
      · have Hp := Lib.hid (Hlaw.out p hlt)
        go_wp2_with fail
        go_loop [8, 9] (fun s k => ∃ t : Nat, t ≤ W + 1 ∧ k = .int .i64 t ∧ s = .bool (seen xs env p t)) (fun _ k => W + 1 - (intOf k).toNat)
        case atStart => exact ⟨0, Nat.zero_le _, rfl, rfl⟩
        case round =>
          obtain ⟨t, ht, rfl, rfl⟩ := hrel
          by_cases hlt2 : t ≤ W
          · obtain ⟨hm, hm1, hm2⟩ := mod_bounds0 (a := p) (k := t) (n := xs.length) (by omega)
            obtain ⟨b, off, rfl, D⟩ := hA.at hm
            have Hst := Lib.hid (seen_succ (xs := xs) (env := env) (p := p) (k := t))
            clear hm
            cases hb : seen xs env p t
            · have hb' := Lib.hid hb
              go_wp2_with fail
              go_round
              case rel => exact ⟨t + 1, by omega, by go_num, by rw [Hst.out, hb'.out]; rfl⟩
              case measure => simp [intOf]; omega
            · have hb' := Lib.hid hb
              go_wp2_with fail
              go_round
              case rel => exact ⟨t + 1, by omega, by go_num, by rw [Hst.out, hb'.out]; rfl⟩
              case measure => simp [intOf]; omega
          · obtain rfl : t = W + 1 := by omega
            have hseen : seen xs env p (W + 1) = true := by
              obtain ⟨k, hk1, hk2⟩ := Hp.out
              rw [HW.out] at hk1
              exact seen_all (by omega) hk2
            rw [hseen]
            have Hseen := Lib.hid hseen; clear hseen
            go_wp2_with fail
            go_round
            case rel => exact ⟨p + 1, by omega, by go_num⟩
            case measure => simp [intOf]; omega
      · obtain rfl : xs.length = p := by omega
        go_wp2_with fail
        go_ret
        exact ⟨ret_bool (by simp), b1⟩
  · have hw' : sWait xs env < 0 := by omega
    clear hw
    go_wp2_with fail
    go_ret
    exact ⟨rfl, b1⟩
end Go.Proofs.Ytpkbfkolllcjgaa.fnWait
