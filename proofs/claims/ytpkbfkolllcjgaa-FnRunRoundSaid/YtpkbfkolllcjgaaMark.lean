/-
  Walks of the marks that the exact laws lay into slices of ints.
-/
import Derived.Test.YtpkbfkolllcjgaaSl5
namespace Go.Proofs.Ytpkbfkolllcjgaa
open Go.RowKit

theorem nth_set {xs : List Int} {a j : Nat} {x : Int} (ha : a < xs.length) : nth (xs.set a x) j = if j = a then x else nth xs j := by
  unfold nth
  rw [List.getD_eq_getElem?_getD, List.getD_eq_getElem?_getD, List.getElem?_set]
  by_cases h : a = j
  · subst h; simp [ha]
  · have h' : j ≠ a := fun e => h e.symm
    simp [h, h']

set_option maxHeartbeats 400000 in
theorem markIntS_any (lo : Nat) (v : Value) (xs : List Int) (k : Int) (w : World) (h : OwnInts lo w v xs) (hs : xs.length ≤ 1048576) (hk0 : 0 ≤ k) (hk1 : k ≤ 1099511627776) :
    Calls Try.prog 26 #[v, .int .i64 k] w fun e w' =>
      ∃ ys : List Int, e = .returned (.int .i64 (k + xs.length)) ∧ ys.length = xs.length ∧ (∀ j, j < xs.length → nth ys j = k + j) ∧ OwnInts lo w' v ys ∧ w.grownBy w' v.ownBlock := by
  by_cases hz : xs.length = 0
  · obtain rfl : xs = [] := List.eq_nil_of_length_eq_zero hz
    obtain ⟨a, c, rfl, _, _, _⟩ := h.rd.open
    go_enter Try.func26, Try.ntmps26
    go_wp2
    refine wp_loop_rounds 1 ?_; rw [rounds_succ]
    go_wp2
    go_ret
    exact ⟨[], by simp, rfl, by simp, h, ⟨rfl, rfl, rfl, Nat.le_refl _, fun _ _ _ => rfl⟩⟩
  · obtain ⟨g, cap, rfl, hg1, hg2⟩ := own_shape h (by omega)
    have Hk := Lib.hid hz; clear hz
    go_enter Try.func26, Try.ntmps26
    go_wp2
    go_loopw [1, 5] (fun m i wr => ∃ q : Nat, ∃ ys : List Int, q ≤ xs.length ∧ i = .int .i64 q ∧ m = .int .i64 (k + q) ∧ ys.length = xs.length ∧ (∀ j, j < q → nth ys j = k + j) ∧ OwnInts lo wr (.slice (some ⟨g, 0, none⟩) xs.length cap) ys ∧ w.grownBy wr (some g)) (fun _ i _ => xs.length - (intOf i).toNat)
    case atStart => exact ⟨0, xs, Nat.zero_le _, rfl, by simp, rfl, fun j hj => absurd hj (Nat.not_lt_zero _), h, ⟨rfl, rfl, rfl, Nat.le_refl _, fun _ _ _ => rfl⟩⟩
    case round =>
      obtain ⟨q, ys, hq, rfl, rfl, hl, hpre, hown, hgr⟩ := hrel
      have Hl := Lib.hid hl; clear hl
      have Hpre := Lib.hid hpre; clear hpre
      clear h
      have hl1 := Hl.out
      by_cases hlt : q < xs.length
      · have own1 : wr.ownsRow lo 3 1 (.slice (some ⟨g, 0, none⟩) xs.length cap) xs.length (ys.map (Value.int .i64)) := by have := hown; unfold OwnInts at this; rwa [Hl.out] at this
        have C := (own1.cellAt q (by omega)).trans (getElem_ints (xs := ys) (by have := Hl.out; omega))
        have Fr := own1.frozenAt q
        have S := Lib.hid (own1.stored q (.int .i64 (k + q)))
        clear hown own1 hl1
        go_wp2
        go_roundw
        case rel =>
          refine ⟨q + 1, ys.set q (k + q), by omega, by go_num, by go_num, by rw [List.length_set]; exact Hl.out, ?_, ?_, ?_⟩
          · refine forall_lt_succ (fun j hj => ?_) ?_
            · rw [nth_set (by have := Hl.out; omega), if_neg (by omega)]; exact Hpre.out j hj
            · rw [nth_set (by have := Hl.out; omega), if_pos rfl]
          · have := S.out.1
            unfold OwnInts
            rw [List.length_set, List.map_set, Hl.out]
            exact this
          · have h2 := S.out.2
            exact ⟨h2.os.trans hgr.os, h2.tape.trans hgr.tape, h2.output.trans hgr.output, Nat.le_trans hgr.size h2.size, fun b hb hne => (h2.block b (Nat.lt_of_lt_of_le hb hgr.size) hne).trans (hgr.block b hb hne)⟩
        case measure => simp [intOf]; omega
      · obtain rfl : q = xs.length := by omega
        clear hl1
        go_wp2
        go_ret
        exact ⟨ys, rfl, Hl.out, Hpre.out, hown, hgr⟩

set_option maxHeartbeats 400000 in
theorem heldIntS_any (v : Value) (ys : List Int) (k : Int) (w : World) (h : RdInts w v ys) (hs : ys.length ≤ 1048576) (hk0 : 0 ≤ k) (hk1 : k ≤ 1099511627776) (hm : ∀ j, j < ys.length → nth ys j = k + j) :
    Calls Try.prog 27 #[v, .int .i64 k] w fun e w' => e = .returned (.int .i64 (k + ys.length)) ∧ w = w' := by
  obtain ⟨a, c, rfl, hc, hcm, H⟩ := h.open
  clear h
  unfold maxLen at hcm
  have Hm := Lib.hid hm; clear hm
  go_enter Try.func27, Try.ntmps27
  go_wp2
  go_loop [1, 5] (fun m i => ∃ q : Nat, q ≤ ys.length ∧ i = .int .i64 q ∧ m = .int .i64 (k + q)) (fun _ i => ys.length - (intOf i).toNat)
  case atStart => exact ⟨0, Nat.zero_le _, rfl, by simp⟩
  case round =>
    obtain ⟨q, hq, rfl, rfl⟩ := hrel
    by_cases hlt : q < ys.length
    · obtain ⟨b, off, rfl, D⟩ := H.at hlt
      rw [Hm.out q hlt] at D
      clear H
      go_wp2
      go_round
      case rel => exact ⟨q + 1, by omega, by go_num, by go_num⟩
      case measure => simp [intOf]; omega
    · obtain rfl : q = ys.length := by omega
      go_wp2
      go_ret
      exact ⟨rfl, rfl⟩
end Go.Proofs.Ytpkbfkolllcjgaa
