/-
  Walks: lists of calls marked, and the marks found again.
-/
import Derived.Test.YtgdehdfbdjgmdaaDoorCallS
import Derived.Test.YtgdehdfbdjgmdaaDoorMText
import Derived.Lib.QuietBelow
set_option linter.unusedVariables false
set_option linter.unusedSimpArgs false
namespace Go.Proofs.YtgdehdfbdjgmdaaDoor
open Go.RowKit

/-- The call that marks from k on. -/
def markC (k : Int) : CallV := ⟨k, k + 1, k + 1 + 1, k + 1 + 1 + 1, k + 1 + 1 + 1 + 1, mText (k + 1 + 1 + 1 + 1 + 1)⟩
/-- The marks of n calls, from k on. -/
def marksC (k : Int) (n : Nat) : List CallV := (List.range n).map fun (j : Nat) => markC (k + 6 * (j : Int))
theorem marksC_len (k : Int) (n : Nat) : (marksC k n).length = n := by simp [marksC]
theorem marksC_at (k : Int) {n j : Nat} (h : j < n) : (marksC k n)[j]? = some (markC (k + 6 * (j : Int))) := by simp [marksC, h]
theorem marksC_snoc (k : Int) (n : Nat) : marksC k (n + 1) = marksC k n ++ [markC (k + 6 * (n : Int))] := by simp [marksC, List.range_succ]

theorem callCells_snoc (k : Int) (q : Nat) : callCells (marksC k (q + 1)) = callCells (marksC k q) ++ callCs (markC (k + 6 * (q : Int))) := by
  rw [marksC_snoc]
  simp only [callCells, flat_append, flat_one]

set_option maxRecDepth 100000 in
set_option maxHeartbeats 4000000 in
theorem markCallS_any (lo : Nat) (v : Value) (xs : List CallV) (k : Int) (w : World) (h : OwnCalls lo w v xs) (hs : xs.length ≤ 1048576) (hk0 : 0 ≤ k) (hk1 : k ≤ 1000000000) :
    Calls Tryd.prog 31 #[v, .int .i64 k] w fun e w' => e = .returned (.int .i64 (k + 6 * xs.length)) ∧ OwnCalls lo w' v (marksC k xs.length) ∧ w.grownBy w' v.ownBlock := by
  by_cases hz : xs.length = 0
  · obtain ⟨a, c, rfl, _, _, _⟩ := h.rd.open
    have hx := List.eq_nil_of_length_eq_zero hz
    subst hx
    have Ho := Lib.hid h
    go_enter Tryd.func31, Tryd.ntmps31
    go_wp2_with fail
    refine wp_loop_rounds 1 ?_; rw [rounds_succ]
    go_wp2_with fail
    go_ret
    exact ⟨ret_int (by simp), Ho.out, ⟨rfl, rfl, rfl, Nat.le_refl _, fun _ _ _ => rfl⟩⟩
  · obtain ⟨g, cap, rfl, hg1, hg2⟩ := own_shape h (by omega)
    have Hz := Lib.hid hz; clear hz
    have HO := Lib.hid h
    clear h
    go_enter Tryd.func31, Tryd.ntmps31
    go_wp2_with fail
    go_loopw [1, 5] (fun m i wr => ∃ q : Nat, q ≤ xs.length ∧ i = .int .i64 q ∧ m = .int .i64 (k + 6 * q) ∧ (∃ zs : List Value, wr.ownsRow lo 26 6 (.slice (some ⟨g, 0, none⟩) xs.length cap) xs.length (callCells (marksC k q) ++ zs)) ∧ w.grownBy wr (some g)) (fun _ i _ => xs.length - (intOf i).toNat)
    case atStart => exact ⟨0, Nat.zero_le _, rfl, by simp, ⟨_, HO.out⟩, ⟨rfl, rfl, rfl, Nat.le_refl _, fun _ _ _ => rfl⟩⟩
    case round =>
      obtain ⟨q, hq, rfl, rfl, ⟨zs, hown⟩, hgr⟩ := hrel
      have Hgr := Lib.hid hgr
      by_cases hlt : q < xs.length
      · have hl := hown.1
        have hlk : (callCells (marksC k q)).length = q * 6 := by rw [callCells_len, marksC_len]
        obtain ⟨B, C, rfl, hB⟩ := split_at zs 6 (by rw [List.length_append, hlk] at hl; omega)
        rw [← List.append_assoc] at hown
        have S0 := setMany_own hown (q * 6) 0 [.int .i64 (k + 6 * q), .int .i64 (k + 6 * q + 1), .int .i64 (k + 6 * q + 1 + 1), .int .i64 (k + 6 * q + 1 + 1 + 1), .int .i64 (k + 6 * q + 1 + 1 + 1 + 1)]
        have F := hown.frozenAt
        have Ca : ∀ (j : Nat) u, B[j]? = some u → wr.cell? ⟨g, q * 6 + j, none⟩ = some u := fun j u hu => by
          have hj : j < 6 := by rw [← hB]; exact (List.getElem?_eq_some_iff.1 hu).1
          rw [hown.cellAt _ (by omega), ← hlk]
          exact mid_at _ _ _ _ _ hu
        obtain ⟨b0, b1, b2, b3, b4, b5, rfl⟩ := six_of B hB
        have e1 : setList (callCells (marksC k q) ++ [b0, b1, b2, b3, b4, b5] ++ C) (q * 6) 0 [.int .i64 (k + 6 * q), .int .i64 (k + 6 * q + 1), .int .i64 (k + 6 * q + 1 + 1), .int .i64 (k + 6 * q + 1 + 1 + 1), .int .i64 (k + 6 * q + 1 + 1 + 1 + 1)] = callCells (marksC k q) ++ [.int .i64 (k + 6 * q), .int .i64 (k + 6 * q + 1), .int .i64 (k + 6 * q + 1 + 1), .int .i64 (k + 6 * q + 1 + 1 + 1), .int .i64 (k + 6 * q + 1 + 1 + 1 + 1)] ++ (b5 :: C) := by
          have := setList_mid (callCells (marksC k q)) [b0, b1, b2, b3, b4] (b5 :: C) [.int .i64 (k + 6 * q), .int .i64 (k + 6 * q + 1), .int .i64 (k + 6 * q + 1 + 1), .int .i64 (k + 6 * q + 1 + 1 + 1), .int .i64 (k + 6 * q + 1 + 1 + 1 + 1)] 0 rfl (q * 6) hlk
          simpa using this
        rw [e1] at S0
        have S := Lib.hid S0
        have E0 : wr.cell? ⟨g, q * 6, none⟩ = some b0 := Ca 0 _ rfl
        have E1 := Ca 1 _ rfl
        have E2 := Ca 2 _ rfl
        have E3 := Ca 3 _ rfl
        have E4 := Ca 4 _ rfl
        clear Ca hl hB hown e1 S0 hgr
        go_wp2_with fail
        refine (markText_any _ _ (by omega) (by omega)).mono ?_; rintro e w1 ⟨rfl, hbel1⟩
        have T := ownsRow_below S.out.1 hbel1
        have Hg1 := Lib.hid (grown_trans (grown_trans Hgr.out S.out.2) (grown_below hbel1 _))
        have F := T.frozenAt
        have E5 : w1.cell? ⟨g, q * 6 + 5, none⟩ = some b5 := by
          rw [T.cellAt _ (by omega), ← hlk, List.append_assoc, List.getElem?_append_right (by omega), Nat.add_sub_cancel_left]
          rfl
        have S2 := World.ownsRow.stored T (q * 6 + 5) (.string (mText (k + 6 * q + 1 + 1 + 1 + 1 + 1)))
        have e2 : (callCells (marksC k q) ++ [Value.int .i64 (k + 6 * q), Value.int .i64 (k + 6 * q + 1), Value.int .i64 (k + 6 * q + 1 + 1), Value.int .i64 (k + 6 * q + 1 + 1 + 1), Value.int .i64 (k + 6 * q + 1 + 1 + 1 + 1)] ++ (b5 :: C)).set (q * 6 + 5) (.string (mText (k + 6 * q + 1 + 1 + 1 + 1 + 1))) = callCells (marksC k (q + 1)) ++ C := by
          rw [callCells_snoc, ← hlk, List.append_assoc, List.append_assoc, List.set_append_right _ _ (by omega), Nat.add_sub_cancel_left]
          rfl
        rw [e2] at S2
        have S2 := Lib.hid S2
        clear T e2 hlk S hbel1
        generalize mText (k + 6 * q + 1 + 1 + 1 + 1 + 1) = s5 at S2 ⊢
        go_wp2_with fail
        go_roundw
        case rel => exact ⟨q + 1, by omega, by go_num, by go_num, ⟨C, S2.out.1⟩, grown_trans Hg1.out S2.out.2⟩
        case measure => simp [intOf]; omega
      · obtain rfl : q = xs.length := by omega
        have hl := hown.1
        rw [List.length_append, callCells_len, marksC_len] at hl
        obtain rfl : zs = [] := List.eq_nil_of_length_eq_zero (by omega)
        rw [List.append_nil] at hown
        have HO2 := Lib.hid (show OwnCalls lo wr (.slice (some ⟨g, 0, none⟩) xs.length cap) (marksC k xs.length) by unfold OwnCalls; rw [marksC_len]; exact hown)
        clear hown hl hgr
        go_wp2_with fail
        go_ret
        exact ⟨rfl, HO2.out, Hgr.out⟩

set_option maxRecDepth 100000 in
set_option maxHeartbeats 4000000 in
theorem heldCallS_any (v : Value) (n : Nat) (k : Int) (w : World) (h : RdCalls w v (marksC k n)) (hs : n ≤ 1048576) (hk0 : 0 ≤ k) (hk1 : k ≤ 1000000000) :
    Calls Tryd.prog 32 #[v, .int .i64 k] w fun e w' => e = .returned (.int .i64 (k + 6 * n)) ∧ Below w.heap.size w w' := by
  obtain ⟨a, c, hv, hc, hcm, H0⟩ := h.open
  subst hv
  rw [marksC_len] at hc ⊢
  unfold maxLen at hcm
  clear h
  have H0 := Lib.hid H0
  go_enter Tryd.func32, Tryd.ntmps32
  go_wp2_with fail
  go_loopw [1, 5] (fun m i wr => ∃ q : Nat, q ≤ n ∧ i = .int .i64 q ∧ m = .int .i64 (k + 6 * q) ∧ Below w.heap.size w wr) (fun _ i _ => n - (intOf i).toNat)
  case atStart => exact ⟨0, Nat.zero_le _, rfl, by simp, Below.refl _ _⟩
  case round =>
    obtain ⟨q, hq, rfl, rfl, hbel⟩ := hrel
    by_cases hlt : q < n
    · obtain ⟨b, off, rfl, D0, D1, D2, D3, D4, D5⟩ := H0.out.six hbel (marksC_at k hlt)
      simp only [markC] at D0 D1 D2 D3 D4 D5
      have Hb := Lib.hid hbel
      have hq1 : (q : Int) < n := by omega
      have D5 := cell_regrown D5
      have cT := Regrown.of (w1 := wr) (fun w => markText_any (k + 6 * q + 1 + 1 + 1 + 1 + 1) w (by omega) (by omega))
      have hq5 : ((mText (k + 6 * q + 1 + 1 + 1 + 1 + 1)).toList == (mText (k + 6 * q + 1 + 1 + 1 + 1 + 1)).toList) = true := by simp
      generalize mText (k + 6 * q + 1 + 1 + 1 + 1 + 1) = s5 at D5 cT hq5
      clear hbel
      go_wp2_with fail
      refine wp_region_quiet_below Tryd.mixed (by kernel_rfl) ?_
      repeat (quiet_step (exact cT _ _))
      refine wpQuiet_nil ?_
      intro _ hw'
      obtain ⟨⟨dq, osq⟩, hw''⟩ := hw'
      subst hw''
      have bq := below_regrown wr dq osq
      generalize Sort.grow (redrawn wr dq) osq = wq at bq
      have Hb1 := Lib.hid (Hb.out.trans (bq.mono Hb.out.size))
      clear D0 D1 D2 D3 D4 D5 cT bq
      go_wp2_with fail
      go_roundw
      case rel => exact ⟨q + 1, by omega, by go_num, by go_num, Hb1.out⟩
      case measure => simp [intOf]; omega
    · obtain rfl : q = n := by omega
      go_wp2_with fail
      go_ret
      exact ⟨rfl, hbel⟩
end Go.Proofs.YtgdehdfbdjgmdaaDoor
