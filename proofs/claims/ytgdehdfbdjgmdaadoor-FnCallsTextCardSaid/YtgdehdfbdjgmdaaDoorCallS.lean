/-
  Walks: lists of calls measured, copied, compared, tested.
-/
import Derived.Test.YtgdehdfbdjgmdaaDoorCut
set_option linter.unusedVariables false
namespace Go.Proofs.YtgdehdfbdjgmdaaDoor
open Go.RowKit

def callCs (x : CallV) : List Value := x.cells.toList
theorem callCs_len (x : CallV) : (callCs x).length = 6 := rfl
abbrev callCells (xs : List CallV) : List Value := flat callCs xs
theorem callCells_len (xs : List CallV) : (callCells xs).length = xs.length * 6 := flat_len callCs_len xs
/-- v reads as the calls xs. -/
def RdCalls (w : World) (v : Value) (xs : List CallV) : Prop := Rd w v 6 xs.length (callCells xs)
def OwnCalls (lo : Nat) (w : World) (v : Value) (xs : List CallV) : Prop := w.ownsRow lo 26 6 v xs.length (callCells xs)
def SmallC (xs : List CallV) : Prop := ∀ x ∈ xs, x.nm.size ≤ maxLen
theorem OwnCalls.rd {lo : Nat} {w : World} {v : Value} {xs : List CallV} (h : OwnCalls lo w v xs) : RdCalls w v xs := Rd.of_owns h
theorem RdCalls.below {w w' : World} {v : Value} {xs : List CallV} (h : RdCalls w v xs) (hb : Below w.heap.size w w') : RdCalls w' v xs := Rd.below h hb
theorem OwnCalls.below {lo : Nat} {w w' : World} {v : Value} {xs : List CallV} (h : OwnCalls lo w v xs) (hb : Below w.heap.size w w') : OwnCalls lo w' v xs := ownsRow_below h hb
theorem RdCalls.open {w : World} {v : Value} {xs : List CallV} (h : RdCalls w v xs) : ∃ a cap, v = .slice a xs.length cap ∧ xs.length ≤ cap ∧ cap ≤ maxLen ∧ AtF 6 callCs w a xs := by
  obtain ⟨a, cap, rfl, h1, h2⟩ := Rd.shape h
  exact ⟨a, cap, rfl, h1, h2, AtF.of callCs_len (by decide) h⟩
theorem AtF.six {w w' : World} {a : Option Addr} {xs : List CallV} (h : AtF 6 callCs w a xs) (hb : Below w.heap.size w w') {k : Nat} {x : CallV} (hk : xs[k]? = some x) :
    ∃ b off, a = some ⟨b, off, none⟩ ∧ w'.cell? ⟨b, off + k * 6, none⟩ = some (.int .i64 x.k) ∧ w'.cell? ⟨b, off + k * 6 + 1, none⟩ = some (.int .i64 x.e) ∧ w'.cell? ⟨b, off + k * 6 + 2, none⟩ = some (.int .i64 x.a) ∧ w'.cell? ⟨b, off + k * 6 + 3, none⟩ = some (.int .i64 x.b) ∧ w'.cell? ⟨b, off + k * 6 + 4, none⟩ = some (.int .i64 x.c) ∧ w'.cell? ⟨b, off + k * 6 + 5, none⟩ = some (.string x.nm) := by
  obtain ⟨b, off, rfl, hlt, hc⟩ := h.below hb k x hk
  exact ⟨b, off, rfl, hc 0 _ rfl, hc 1 _ rfl, hc 2 _ rfl, hc 3 _ rfl, hc 4 _ rfl, hc 5 _ rfl⟩

def listFit (xs : List CallV) : Bool := xs.all fitsC && decide (xs.length ≤ 12)
theorem listFit_bad {xs : List CallV} {k : Nat} {x : CallV} (hx : xs[k]? = some x) (h : fitsC x = false) : listFit xs = false := by
  have : xs.all fitsC = false := List.all_eq_false.2 ⟨x, List.mem_of_getElem? hx, by simp [h]⟩
  simp [listFit, this]
theorem listFit_good {xs : List CallV} (h : ∀ (j : Nat) x, xs[j]? = some x → fitsC x = true) : listFit xs = decide ((xs.length : Int) ≤ 12) := by
  have : xs.all fitsC = true := List.all_eq_true.2 fun x hx => by
    obtain ⟨j, hj⟩ := List.getElem?_of_mem hx
    exact h j x hj
  rw [listFit, this, Bool.true_and]
  by_cases h4 : xs.length ≤ 12
  · have : (xs.length : Int) ≤ 12 := by omega
    simp [h4, this]
  · have : ¬ (xs.length : Int) ≤ 12 := by omega
    simp [h4, this]
theorem calls_next {P : CallV → Prop} {xs : List CallV} {k : Nat} {x : CallV} (h : ∀ (j : Nat) x, j < k → xs[j]? = some x → P x) (hx : xs[k]? = some x) (hp : P x) : ∀ (j : Nat) x, j < k + 1 → xs[j]? = some x → P x := by
  intro j y hj hy
  rcases Nat.lt_succ_iff_lt_or_eq.1 hj with h' | h'
  · exact h j y h' hy
  · subst h'
    rw [hx] at hy
    cases hy
    exact hp

set_option maxRecDepth 100000 in
set_option maxHeartbeats 2000000 in
theorem l43Fit_any (v : Value) (xs : List CallV) (w : World) (h : RdCalls w v xs) (hs : SmallC xs) :
    Calls Tryd.prog 44 #[v] w fun e w' => e = .returned (.bool (listFit xs)) ∧ Below w.heap.size w w' := by
  obtain ⟨a, c, hv, hc, hcm, H0⟩ := h.open
  subst hv
  unfold maxLen at hcm
  have Hs := Lib.hid hs; clear hs h
  go_enter Tryd.func44, Tryd.ntmps44
  go_wp2_with fail
  go_loopw [3] (fun i wr => ∃ k : Nat, k ≤ xs.length ∧ i = .int .i64 k ∧ (∀ (j : Nat) x, j < k → xs[j]? = some x → fitsC x = true) ∧ Below w.heap.size w wr) (fun i _ => xs.length - (intOf i).toNat)
  case atStart => exact ⟨0, Nat.zero_le _, rfl, fun j x hj => absurd hj (Nat.not_lt_zero _), Below.refl _ _⟩
  case round =>
    obtain ⟨k, hk, rfl, hpre, hbel⟩ := hrel
    have Hpre := Lib.hid hpre; clear hpre
    by_cases hlt : k < xs.length
    · obtain ⟨x, hx⟩ : ∃ x, xs[k]? = some x := ⟨_, List.getElem?_eq_getElem hlt⟩
      obtain ⟨b, off, rfl, D0, D1, D2, D3, D4, D5⟩ := H0.six hbel hx
      have F := Lib.hid (fun w => CallFits_spec x w (Hs.out x (List.mem_of_getElem? hx)))
      cases hf : fitsC x
      · have S := Lib.hid (listFit_bad hx hf)
        rw [hf] at F
        simp only [CallV.val, CallV.cells] at F
        clear hf hx
        go_wp2_with fail
        refine (F.out _).mono ?_; rintro e w1 ⟨rfl, hbel1⟩
        go_wp2_with fail
        go_ret
        exact ⟨ret_bool S.out.symm, hbel.trans (hbel1.mono hbel.size)⟩
      · have S := Lib.hid (calls_next Hpre.out hx hf)
        rw [hf] at F
        simp only [CallV.val, CallV.cells] at F
        clear hf hx
        go_wp2_with fail
        refine (F.out _).mono ?_; rintro e w1 ⟨rfl, hbel1⟩
        have hbel' := hbel.trans (hbel1.mono hbel.size)
        clear D0 D1 D2 D3 D4 D5 hbel hbel1
        go_wp2_with fail
        go_roundw
        case rel => exact ⟨k + 1, by omega, by go_num, S.out, hbel'⟩
        case measure => simp [intOf]; omega
    · have S := Lib.hid (listFit_good (xs := xs) (fun j x hj => Hpre.out j x (by have := (List.getElem?_eq_some_iff.1 hj).1; omega) hj))
      go_wp2_with fail
      go_ret
      exact ⟨ret_bool S.out.symm, hbel⟩

set_option maxHeartbeats 1000000 in
theorem szCallS_any (v : Value) (xs : List CallV) (l : Int) (w : World) (h : RdCalls w v xs) (hl : l ≤ 1048576) (hl0 : 0 ≤ l) :
    Calls Tryd.prog 19 #[v, .int .i64 l] w fun e w' => (∃ r : Int, e = .returned (.int .i64 r) ∧ (0 ≤ r → xs.length ≤ 1048576)) ∧ Below w.heap.size w w' := by
  obtain ⟨a, c, hv, hc, hcm, H0⟩ := h.open
  subst hv
  unfold maxLen at hcm
  by_cases hlen : l - xs.length < 0
  · go_enter Tryd.func19, Tryd.ntmps19
    go_wp2_with fail
    go_ret
    exact ⟨⟨_, rfl, by omega⟩, Below.refl _ _⟩
  · go_enter Tryd.func19, Tryd.ntmps19
    go_wp2_with fail
    go_loopw [1, 5] (fun l i wr => ∃ k : Nat, k ≤ xs.length ∧ i = .int .i64 k ∧ (∃ r : Int, l = .int .i64 r) ∧ Below w.heap.size w wr) (fun _ i _ => xs.length - (intOf i).toNat)
    case atStart => exact ⟨0, Nat.zero_le _, rfl, ⟨_, rfl⟩, Below.refl _ _⟩
    case round =>
      obtain ⟨k, hk, rfl, ⟨r, rfl⟩, hbel⟩ := hrel
      by_cases hlt : k < xs.length
      · obtain ⟨x, hx⟩ : ∃ x, xs[k]? = some x := ⟨_, List.getElem?_eq_getElem hlt⟩
        obtain ⟨b, off, rfl, D0, D1, D2, D3, D4, D5⟩ := H0.six hbel hx
        have Hx := Lib.hid hx; clear hx
        go_wp2_with (go_at_call 13; refine (szCall_any x _ _).mono ?_; rintro e w1 ⟨⟨r1, rfl⟩, hbel1⟩)
        · go_ret
          exact ⟨⟨_, rfl, by omega⟩, hbel.trans (hbel1.mono hbel.size)⟩
        · go_roundw
          case rel => exact ⟨k + 1, by omega, by go_num, ⟨_, rfl⟩, hbel.trans (hbel1.mono hbel.size)⟩
          case measure => simp [intOf]; omega
      · go_wp2_with fail
        go_ret
        exact ⟨⟨_, rfl, fun _ => by omega⟩, hbel⟩

theorem Tryd.infoCall : (Tryd.prog.info? 26).map (fun i => (i.zero, i.size, i.bytes)) = some (some (.agg #[.int .i64 0, .int .i64 0, .int .i64 0, .int .i64 0, .int .i64 0, .string ⟨#[]⟩]), 6, 56) := by kernel_rfl
theorem six_of (B : List Value) (h : B.length = 6) : ∃ b0 b1 b2 b3 b4 b5, B = [b0, b1, b2, b3, b4, b5] := by
  match B, h with
  | [b0, b1, b2, b3, b4, b5], _ => exact ⟨b0, b1, b2, b3, b4, b5, rfl⟩
theorem mid_at (A B C : List Value) (j : Nat) (u : Value) (h : B[j]? = some u) : (A ++ B ++ C)[A.length + j]? = some u := by
  rw [List.append_assoc, List.getElem?_append_right (by omega), Nat.add_sub_cancel_left, List.getElem?_append_left (List.getElem?_eq_some_iff.1 h).1, h]

set_option maxHeartbeats 1000000 in
theorem toCallS_any (v : Value) (xs : List CallV) (w : World) (h : RdCalls w v xs) (hs : xs.length ≤ 1048576) :
    Calls Tryd.prog 21 #[v] w fun e w' => ∃ v', e = .returned v' ∧ OwnCalls w.heap.size w' v' xs ∧ Below w.heap.size w w' := by
  obtain ⟨a, c, hv, hc, hcm, H0⟩ := h.open
  subst hv
  unfold maxLen at hcm
  go_enter Tryd.func21, Tryd.ntmps21
  go_wp2_with (refine wp_makeN rfl rfl 26 _ 6 56 Tryd.underlying36 Tryd.infoCall rfl (by omega) (by unfold maxLen; omega) ?_; intro w1 hown hbel hsz)
  go_loopw [4] (fun i wr => ∃ k : Nat, k ≤ xs.length ∧ i = .int .i64 k ∧ (∃ zs : List Value, wr.ownsRow w.heap.size 26 6 (.slice (some ⟨w.heap.size, 0, none⟩) xs.length xs.length) xs.length (callCells (xs.take k) ++ zs)) ∧ Below w.heap.size w wr) (fun i _ => xs.length - (intOf i).toNat)
  case atStart => exact ⟨0, Nat.zero_le _, rfl, ⟨_, by simpa [flat] using hown⟩, hbel⟩
  case round =>
    clear hown hbel hsz
    obtain ⟨k, hk, rfl, ⟨zs, hown⟩, hbel⟩ := hrel
    by_cases hlt : k < xs.length
    · obtain ⟨x, hx⟩ : ∃ x, xs[k]? = some x := ⟨_, List.getElem?_eq_getElem hlt⟩
      obtain ⟨b, off, rfl, D0, D1, D2, D3, D4, D5⟩ := H0.six hbel hx
      have Hx := Lib.hid hx; clear hx
      go_wp2_with fail
      refine (toCall_lit x _).mono ?_; rintro e w1 ⟨rfl, hw1⟩
      have hbel1 : Below wr.heap.size wr w1 := hw1 ▸ below3 _ _ _ _
      clear hw1
      have hbel' := hbel.trans (hbel1.mono hbel.size)
      have hown1 := ownsRow_below hown hbel1
      have hl := hown1.1
      have hlk : (callCells (xs.take k)).length = k * 6 := by rw [callCells_len, List.length_take]; congr 1; omega
      obtain ⟨B, C, rfl, hB⟩ := split_at zs 6 (by rw [List.length_append, hlk] at hl; omega)
      rw [← List.append_assoc] at hown1
      have S := Lib.hid (setMany_own hown1 (k * 6) 0 (callCs x))
      rw [setList_mid (callCells (xs.take k)) B C (callCs x) 0 (by rw [hB]; rfl) (k * 6) hlk] at S
      have F := hown1.frozenAt
      have Ca : ∀ (j : Nat) u, B[j]? = some u → w1.cell? ⟨w.heap.size, k * 6 + j, none⟩ = some u := fun j u hu => by
        have hj : j < 6 := by rw [← hB]; exact (List.getElem?_eq_some_iff.1 hu).1
        rw [hown1.cellAt _ (by omega), ← hlk]
        exact mid_at _ _ _ _ _ hu
      obtain ⟨b0, b1, b2, b3, b4, b5, rfl⟩ := six_of B hB
      have E0 : w1.cell? ⟨w.heap.size, k * 6, none⟩ = some b0 := Ca 0 _ rfl
      have E1 := Ca 1 _ rfl
      have E2 := Ca 2 _ rfl
      have E3 := Ca 3 _ rfl
      have E4 := Ca 4 _ rfl
      have E5 := Ca 5 _ rfl
      clear Ca D0 D1 D2 D3 D4 D5 hl hlk hB hown hown1 hbel hbel1
      simp only [CallV.val, CallV.cells]
      go_wp2_with fail
      go_roundw
      case rel =>
        have S1 := S.out.1
        rw [List.append_assoc, show callCells (xs.take k) ++ (callCs x ++ C) = callCells (xs.take (k + 1)) ++ C by rw [take_one Hx.out, ← List.append_assoc]; simp only [callCells, flat_append, flat_one]] at S1
        exact ⟨k + 1, by omega, by go_num, ⟨C, S1⟩, Below.of_grown_row hbel' S.out.2 hbel'.size (Nat.le_refl _)⟩
      case measure => simp [intOf]; omega
    · go_wp2_with fail
      go_ret
      refine ⟨_, rfl, ?_, hbel⟩
      have e1 : xs.take k = xs := List.take_of_length_le (by omega)
      rw [e1] at hown
      have h2 := hown.1
      rw [List.length_append, callCells_len] at h2
      obtain rfl : zs = [] := List.eq_nil_of_length_eq_zero (by omega)
      simpa [OwnCalls] using hown

theorem sameSelf (s : ByteArray) : (s.toList == s.toList) = true := by simp
set_option maxHeartbeats 400000 in
theorem eqCall_same (c : CallV) (w : World) :
    Calls Tryd.prog 26 #[c.val, c.val] w fun e w' => e = .returned (.bool true) ∧ (w.alloc (.cells c.cells 26)).alloc (.cells c.cells 26) = w' := by
  obtain ⟨k, e, a, b, c, nm⟩ := c
  simp only [CallV.val, CallV.cells]
  go_enter Tryd.func26, Tryd.ntmps26
  go_wp2_with fail
  go_ret
  exact ⟨rfl, rfl⟩

set_option maxRecDepth 100000 in
set_option maxHeartbeats 1000000 in
theorem eqCallS_same (v1 v2 : Value) (xs : List CallV) (w : World) (h1 : RdCalls w v1 xs) (h2 : RdCalls w v2 xs) :
    Calls Tryd.prog 23 #[v1, v2] w fun e w' => e = .returned (.bool true) ∧ Below w.heap.size w w' := by
  obtain ⟨a1, c1, hv1, hc1, hcm1, H1⟩ := h1.open
  obtain ⟨a2, c2, hv2, hc2, hcm2, H2⟩ := h2.open
  subst hv1 hv2
  unfold maxLen at hcm1 hcm2
  clear h1 h2
  go_enter Tryd.func23, Tryd.ntmps23
  go_wp2_with fail
  go_loopw [5] (fun i wr => ∃ k : Nat, k ≤ xs.length ∧ i = .int .i64 k ∧ Below w.heap.size w wr) (fun i _ => xs.length - (intOf i).toNat)
  case atStart => exact ⟨0, Nat.zero_le _, rfl, Below.refl _ _⟩
  case round =>
    obtain ⟨k, hk, rfl, hbel⟩ := hrel
    by_cases hlt : k < xs.length
    · obtain ⟨x, hx⟩ : ∃ x, xs[k]? = some x := ⟨_, List.getElem?_eq_getElem hlt⟩
      obtain ⟨b1, o1, rfl, D0, D1, D2, D3, D4, D5⟩ := H1.six hbel hx
      obtain ⟨b2, o2, rfl, E0, E1, E2, E3, E4, E5⟩ := H2.six hbel hx
      have Hx := Lib.hid hx; clear hx
      go_wp2_with fail
      go_still_tail 8, (by kernel_rfl)
      change wpList _ _ _ _ _ wr.drew
      have hbd : Below w.heap.size w wr.drew := below_drewN hbel 1
      generalize wr.drew = w2 at hbd
      go_wp2_with fail
      refine (eqCall_same x _).mono ?_; rintro e w1 ⟨rfl, hw1⟩
      have hbel' := hbd.trans ((hw1 ▸ below2 _ _ _ : Below w2.heap.size w2 w1).mono hbd.size)
      clear D0 D1 D2 D3 D4 D5 E0 E1 E2 E3 E4 E5 hbel hw1 hbd
      go_wp2_with fail
      go_roundw
      case rel => exact ⟨k + 1, by omega, by go_num, hbel'⟩
      case measure => simp [intOf]; omega
    · go_wp2_with fail
      go_ret
      exact ⟨rfl, hbel⟩
end Go.Proofs.YtgdehdfbdjgmdaaDoor
