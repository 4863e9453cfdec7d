/-
  The law laws.FnCallsParseOne returns true for every drawn text. Conditions: some variables of the library lie as laid.
-/
import Derived.Test.YtgdehdfbdjgmdaaGreatDoorCsParsI
import Derived.Test.YtgdehdfbdjgmdaaGreatDoorFCallParse
set_option linter.unusedVariables false
set_option linter.unusedSimpArgs false
namespace Go.Proofs.YtgdehdfbdjgmdaaGreatDoor
open Go.RowKit

set_option maxRecDepth 100000 in
set_option maxHeartbeats 1000000 in
theorem sameCallList_same (v1 v2 : Value) (xs : List CallV) (w : World) (h1 : RdCalls w v1 xs) (h2 : RdCalls w v2 xs) :
    Calls Tryz.prog 7 #[v1, v2] w fun e w' => e = .returned (.bool true) ∧ Below w.heap.size w w' := by
  obtain ⟨a1, c1, hv1, hc1, hcm1, H1⟩ := h1.open
  obtain ⟨a2, c2, hv2, hc2, hcm2, H2⟩ := h2.open
  subst hv1 hv2
  unfold maxLen at hcm1 hcm2
  clear h1 h2
  go_enter Tryz.func7, Tryz.ntmps7
  go_wp2_with fail
  go_loopw [5] (fun i wr => ∃ k : Nat, k ≤ xs.length ∧ i = .int .i64 k ∧ Below w.heap.size w wr) (fun i _ => xs.length - (intOf i).toNat)
  case atStart => exact ⟨0, Nat.zero_le _, rfl, Below.refl _ _⟩
  case round =>
    obtain ⟨k, hk, rfl, hbel⟩ := hrel
    by_cases hlt : k < xs.length
    · obtain ⟨x, hx⟩ : ∃ x, xs[k]? = some x := ⟨_, List.getElem?_eq_getElem hlt⟩
      obtain ⟨b1, o1, rfl, D0, D1, D2, D3, D4, D5⟩ := H1.six hbel hx
      obtain ⟨b2, o2, rfl, E0, E1, E2, E3, E4, E5⟩ := H2.six hbel hx
      have Hx := Lib.hid hx; clear hx
      have hk1 : (k : Int) < xs.length := by omega
      obtain ⟨xk, xe, xa, xb, xc, xn⟩ := x
      have E := fun w => neqCall_same xk xe xa xb xc xn w
      have G := fun op x y xs ys w => guardCall op x y xs ys w
      simp only at D0 D1 D2 D3 D4 D5 E0 E1 E2 E3 E4 E5
      go_wp2_with fail
      go_quiet (fail)
      have hbd : Below w.heap.size w (wr.drewN nq) := below_drewN hbel nq
      generalize wr.drewN nq = w2 at hbd
      clear D0 D1 D2 D3 D4 D5 E0 E1 E2 E3 E4 E5 hbel
      go_wp2_with fail
      go_roundw
      case rel => exact ⟨k + 1, by omega, by go_num, hbd⟩
      case measure => simp [intOf]; omega
    · go_wp2_with fail
      go_ret
      exact ⟨rfl, hbel⟩

theorem one_text {x : CallV} (hx : fitsC x = true) : ParsedS (callB x) [x] true := by
  have hf : listFit [x] = true := listFit_iff.2 ⟨fun y hy => by rw [List.mem_singleton.1 hy]; exact hx, by simp⟩
  exact .inl ⟨rfl, hf, by rw [callsB_fit hf, pre_one]⟩
theorem two_texts {x : CallV} (hx : fitsC x = true) : ParsedS (callB x ++ ⟨#[59]⟩ ++ callB x) [x, x] true := by
  have hf : listFit [x, x] = true := listFit_iff.2 ⟨fun y hy => by simp at hy; rw [hy]; exact hx, by simp⟩
  refine .inl ⟨rfl, hf, ?_⟩
  rw [callsB_fit hf]
  have h2 := pre_snoc (xs := [x]) (by simp) x
  rw [pre_one] at h2
  exact h2
theorem lit_calls (w : World) (xs : List CallV) (hl : xs.length ≤ 1000) : RdCalls (w.alloc (.cells (callCells xs).toArray 30)) (.slice (some ⟨w.heap.size, 0, none⟩) xs.length xs.length) xs :=
  Rd.of_owns (ownsRow_lit w 30 6 xs.length (callCells xs) (callCells_len xs) (Nat.le_trans hl (by decide)))

end Go.Proofs.YtgdehdfbdjgmdaaGreatDoor
