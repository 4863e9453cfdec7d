/-
  Walks: lists of calls measured, copied, compared, tested.
-/
import Derived.Test.YtgdehdfbdjgmdaaGreatDoorCut
set_option linter.unusedVariables false
namespace Go.Proofs.YtgdehdfbdjgmdaaGreatDoor
open Go.RowKit

def callCs (x : CallV) : List Value := x.cells.toList
theorem callCs_len (x : CallV) : (callCs x).length = 6 := rfl
abbrev callCells (xs : List CallV) : List Value := flat callCs xs
theorem callCells_len (xs : List CallV) : (callCells xs).length = xs.length * 6 := flat_len callCs_len xs
/-- v reads as the calls xs. -/
def RdCalls (w : World) (v : Value) (xs : List CallV) : Prop := Rd w v 6 xs.length (callCells xs)
def OwnCalls (lo : Nat) (w : World) (v : Value) (xs : List CallV) : Prop := w.ownsRow lo 30 6 v xs.length (callCells xs)
def SmallC (xs : List CallV) : Prop := ∀ x ∈ xs, x.nm.size ≤ maxLen
theorem OwnCalls.rd {lo : Nat} {w : World} {v : Value} {xs : List CallV} (h : OwnCalls lo w v xs) : RdCalls w v xs := Rd.of_owns h
theorem RdCalls.below {w w' : World} {v : Value} {xs : List CallV} (h : RdCalls w v xs) (hb : Below w.heap.size w w') : RdCalls w' v xs := Rd.below h hb
theorem OwnCalls.below {lo : Nat} {w w' : World} {v : Value} {xs : List CallV} (h : OwnCalls lo w v xs) (hb : Below w.heap.size w w') : OwnCalls lo w' v xs := ownsRow_below h hb
theorem RdCalls.open {w : World} {v : Value} {xs : List CallV} (h : RdCalls w v xs) : ∃ a cap, v = .slice a xs.length cap ∧ xs.length ≤ cap ∧ cap ≤ maxLen ∧ AtF 6 callCs w a xs := by
  obtain ⟨a, cap, rfl, h1, h2⟩ := Rd.shape h
  exact ⟨a, cap, rfl, h1, h2, AtF.of callCs_len (by decide) h⟩
theorem AtF.six {w w' : World} {a : Option Addr} {xs : List CallV} (h : AtF 6 callCs w a xs) (hb : Below w.heap.size w w') {k : Nat} {x : CallV} (hk : xs[k]? = some x) :
    ∃ b off, a = some ⟨b, off, none⟩ ∧ w'.cell? ⟨b, off + k * 6, none⟩ = some (.int .i64 x.k) ∧ w'.cell? ⟨b, off + k * 6 + 1, none⟩ = some (.int .i64 x.e) ∧ w'.cell? ⟨b, off + k * 6 + 2, none⟩ = some (.int .i64 x.a) ∧ w'.cell? ⟨b, off + k * 6 + 3, none⟩ = some (.int .i64 x.b) ∧ w'.cell? ⟨b, off + k * 6 + 4, none⟩ = some (.int .i64 x.c) ∧ w'.cell? ⟨b, off + k * 6 + 5, none⟩ = some (.string x.nm) := by
  obtain ⟨b, off, rfl, hlt, hc⟩ := h.below hb k x hk
  exact ⟨b, off, rfl, hc 0 _ rfl, hc 1 _ rfl, hc 2 _ rfl, hc 3 _ rfl, hc 4 _ rfl, hc 5 _ rfl⟩

def listFit (xs : List CallV) : Bool := xs.all fitsC && decide (xs.length ≤ 12)
theorem listFit_bad {xs : List CallV} {k : Nat} {x : CallV} (hx : xs[k]? = some x) (h : fitsC x = false) : listFit xs = false := by
  have : xs.all fitsC = false := List.all_eq_false.2 ⟨x, List.mem_of_getElem? hx, by simp [h]⟩
  simp [listFit, this]
theorem listFit_good {xs : List CallV} (h : ∀ (j : Nat) x, xs[j]? = some x → fitsC x = true) : listFit xs = decide ((xs.length : Int) ≤ 12) := by
  have : xs.all fitsC = true := List.all_eq_true.2 fun x hx => by
    obtain ⟨j, hj⟩ := List.getElem?_of_mem hx
    exact h j x hj
  rw [listFit, this, Bool.true_and]
  by_cases h4 : xs.length ≤ 12
  · have : (xs.length : Int) ≤ 12 := by omega
    simp [h4, this]
  · have : ¬ (xs.length : Int) ≤ 12 := by omega
    simp [h4, this]
theorem calls_next {P : CallV → Prop} {xs : List CallV} {k : Nat} {x : CallV} (h : ∀ (j : Nat) x, j < k → xs[j]? = some x → P x) (hx : xs[k]? = some x) (hp : P x) : ∀ (j : Nat) x, j < k + 1 → xs[j]? = some x → P x := by
  intro j y hj hy
  rcases Nat.lt_succ_iff_lt_or_eq.1 hj with h' | h'
  · exact h j y h' hy
  · subst h'
    rw [hx] at hy
    cases hy
    exact hp

set_option maxRecDepth 100000 in
set_option maxHeartbeats 2000000 in
theorem l43Fit_any (v : Value) (xs : List CallV) (w : World) (h : RdCalls w v xs) (hs : SmallC xs) :
    Calls Tryz.prog 22 #[v] w fun e w' => e = .returned (.bool (listFit xs)) ∧ Below w.heap.size w w' := by
  obtain ⟨a, c, hv, hc, hcm, H0⟩ := h.open
  subst hv
  unfold maxLen at hcm
  have Hs := Lib.hid hs; clear hs h
  go_enter Tryz.func22, Tryz.ntmps22
  go_wp2_with fail
  go_loopw [3] (fun i wr => ∃ k : Nat, k ≤ xs.length ∧ i = .int .i64 k ∧ (∀ (j : Nat) x, j < k → xs[j]? = some x → fitsC x = true) ∧ Below w.heap.size w wr) (fun i _ => xs.length - (intOf i).toNat)
  case atStart => exact ⟨0, Nat.zero_le _, rfl, fun j x hj => absurd hj (Nat.not_lt_zero _), Below.refl _ _⟩
  case round =>
    obtain ⟨k, hk, rfl, hpre, hbel⟩ := hrel
    have Hpre := Lib.hid hpre; clear hpre
    by_cases hlt : k < xs.length
    · obtain ⟨x, hx⟩ : ∃ x, xs[k]? = some x := ⟨_, List.getElem?_eq_getElem hlt⟩
      obtain ⟨b, off, rfl, D0, D1, D2, D3, D4, D5⟩ := H0.six hbel hx
      have F := Lib.hid (fun w => CallFits_spec x w (Hs.out x (List.mem_of_getElem? hx)))
      cases hf : fitsC x
      · have S := Lib.hid (listFit_bad hx hf)
        rw [hf] at F
        simp only [CallV.val, CallV.cells] at F
        clear hf hx
        go_wp2_with fail
        refine (F.out _).mono ?_; rintro e w1 ⟨rfl, hbel1⟩
        go_wp2_with fail
        go_ret
        exact ⟨ret_bool S.out.symm, hbel.trans (hbel1.mono hbel.size)⟩
      · have S := Lib.hid (calls_next Hpre.out hx hf)
        rw [hf] at F
        simp only [CallV.val, CallV.cells] at F
        clear hf hx
        go_wp2_with fail
        refine (F.out _).mono ?_; rintro e w1 ⟨rfl, hbel1⟩
        have hbel' := hbel.trans (hbel1.mono hbel.size)
        clear D0 D1 D2 D3 D4 D5 hbel hbel1
        go_wp2_with fail
        go_roundw
        case rel => exact ⟨k + 1, by omega, by go_num, S.out, hbel'⟩
        case measure => simp [intOf]; omega
    · have S := Lib.hid (listFit_good (xs := xs) (fun j x hj => Hpre.out j x (by have := (List.getElem?_eq_some_iff.1 hj).1; omega) hj))
      go_wp2_with fail
      go_ret
      exact ⟨ret_bool S.out.symm, hbel⟩


theorem Tryz.infoCall : (Tryz.prog.info? 30).map (fun i => (i.zero, i.size, i.bytes)) = some (some (.agg #[.int .i64 0, .int .i64 0, .int .i64 0, .int .i64 0, .int .i64 0, .string ⟨#[]⟩]), 6, 56) := by kernel_rfl
theorem six_of (B : List Value) (h : B.length = 6) : ∃ b0 b1 b2 b3 b4 b5, B = [b0, b1, b2, b3, b4, b5] := by
  match B, h with
  | [b0, b1, b2, b3, b4, b5], _ => exact ⟨b0, b1, b2, b3, b4, b5, rfl⟩
theorem mid_at (A B C : List Value) (j : Nat) (u : Value) (h : B[j]? = some u) : (A ++ B ++ C)[A.length + j]? = some u := by
  rw [List.append_assoc, List.getElem?_append_right (by omega), Nat.add_sub_cancel_left, List.getElem?_append_left (List.getElem?_eq_some_iff.1 h).1, h]


theorem sameSelf (s : ByteArray) : (s.toList == s.toList) = true := by simp

end Go.Proofs.YtgdehdfbdjgmdaaGreatDoor
