/-
  Packed: 12 texts.
-/
import Derived.Test.YtjacdlekgdnndaaGreatDoorY2
import Derived.Laws.StructEq
import Derived.Test.YtjacdlekgdnndaaGreatDoorY1
set_option linter.unusedVariables false
set_option linter.unusedSimpArgs false
namespace Go.Proofs.YtjacdlekgdnndaaGreatDoor
open Go.RowKit Go.Shelf
def callsL (xs : List CallV) : List UInt8 := Lib.join (xs.map callL) [59]
def preB (xs : List CallV) : ByteArray := ⟨(callsL xs).toArray⟩
def callsB (xs : List CallV) : ByteArray := if listFit xs = true then preB xs else ⟨#[]⟩
theorem join_snoc (ws : List (List UInt8)) (x : List UInt8) (a : UInt8) (h : ws ≠ []) : Lib.join (ws ++ [x]) [a] = Lib.join ws [a] ++ [a] ++ x := by
 induction ws with
 | nil => exact absurd rfl h
 | cons y ws ih =>
  cases ws with
  | nil => rw [List.cons_append, List.nil_append, join_two, Lib.join_one, Lib.join_one]; simp
  | cons z ws =>
   have e := ih (by simp)
   rw [List.cons_append] at e
   rw [List.cons_append, List.cons_append, join_two, e, join_two]
   simp
theorem empty_app (s : ByteArray) : (⟨#[]⟩ : ByteArray) ++ s = s := by
 obtain ⟨⟨l⟩⟩ := s
 rfl
theorem pre_nil : preB [] = ⟨#[]⟩ := by simp [preB, callsL, Lib.join_nil]
theorem pre_one (x : CallV) : preB [x] = callB x := by simp [preB, callsL, Lib.join_one, callB]
theorem pre_snoc {xs : List CallV} (h : xs ≠ []) (x : CallV) : preB (xs ++ [x]) = preB xs ++ ⟨#[59]⟩ ++ callB x := by
 unfold preB callsL
 rw [List.map_append, List.map_cons, List.map_nil, join_snoc _ _ _ (by simpa using h)]
 simp [callB, ByteArray.mk_append_mk]
theorem pre_step {xs : List CallV} {k : Nat} {x : CallV} (hx : xs[k]? = some x) (h : 0 < k) : preB (xs.take (k + 1)) = preB (xs.take k) ++ ⟨#[59]⟩ ++ callB x := by
 rw [take_one hx]
 refine pre_snoc ?_ x
 have h1 := (List.getElem?_eq_some_iff.1 hx).1
 intro e
 have h2 := congrArg List.length e
 rw [List.length_take, List.length_nil] at h2
 omega
theorem pre_first {xs : List CallV} {x : CallV} (hx : xs[0]? = some x) : preB (xs.take 1) = callB x := by
 rw [take_one hx]
 simp [pre_one]
theorem pre_size : ∀ {xs : List CallV}, (∀ x ∈ xs, fitsC x = true) → (preB xs).size ≤ 41 * xs.length
 | [], _ => by rw [pre_nil]; exact Nat.le_refl _
 | [x], h => by rw [pre_one]; have := callB_size (h x (by simp)); simp; omega
 | x :: y :: r, h => by
  have h1 := callB_size (h x (by simp))
  have h2 := pre_size (xs := y :: r) fun z hz => h z (List.mem_cons_of_mem _ hz)
  have e : (preB (x :: y :: r)).size = (callB x).size + (1 + (preB (y :: r)).size) := by
   simp only [preB, callsL, callB, ByteArray.size, List.size_toArray, List.map_cons, join_two, List.length_append, List.length_cons]
   omega
  rw [e]
  simp only [List.length_cons] at h2 ⊢
  omega
theorem listFit_iff {xs : List CallV} : listFit xs = true ↔ (∀ x ∈ xs, fitsC x = true) ∧ xs.length ≤ 12 := by simp [listFit]
theorem take_fit {xs : List CallV} {k : Nat} (h : ∀ x ∈ xs, fitsC x = true) : ∀ x ∈ xs.take k, fitsC x = true := fun x hx => h x (List.mem_of_mem_take hx)
set_option maxRecDepth 100000 in
set_option maxHeartbeats 4000000 in
theorem CallsText_spec (v : Value) (xs : List CallV) (w : World) (h : RdCalls w v xs) (hs : SmallC xs) :
 Calls Tryz.prog 30 #[v] w fun e w' => e = .returned (.string (callsB xs)) ∧ Below w.heap.size w w' := by
 obtain ⟨a, c, hv, hc, hcm, H0⟩ := h.open
 subst hv
 unfold maxLen at hcm
 have F := Lib.hid (fun w' (hb : Below w.heap.size w w') => l43Fit_any _ xs w' (h.below hb) hs)
 have Hs := Lib.hid hs
 clear h hs
 cases hf : listFit xs
 ·have S := Lib.hid (show callsB xs = ⟨#[]⟩ by simp [callsB, hf])
  have hpos : 0 < xs.length := by
   rcases Nat.eq_zero_or_pos xs.length with h | h
   ·have := List.eq_nil_of_length_eq_zero h
    subst this
    cases hf
   ·exact h
  rw [hf] at F
  clear hf
  go_enter Tryz.func30, Tryz.ntmps30
  go_wp2_with fail
  refine wp_loop_rounds 1 ?_; rw [rounds_succ]
  go_wp2_with fail
  refine (F.out _ (Below.refl _ _)).mono ?_; rintro e w1 ⟨rfl, b1⟩
  go_wp2_with fail
  go_ret
  exact ⟨by rw [S.out]; rfl, b1⟩
 ·have S := Lib.hid (show callsB xs = preB xs by simp [callsB, hf])
  obtain ⟨hall, hlen⟩ := listFit_iff.1 hf
  rw [hf] at F
  have Hall := Lib.hid hall
  clear hf hall
  go_enter Tryz.func30, Tryz.ntmps30
  go_wp2_with fail
  go_loopw [3, 4] (fun o i wr => ∃ k : Nat, k ≤ xs.length ∧ i = .int .i64 k ∧ o = .string (preB (xs.take k)) ∧ Below w.heap.size w wr) (fun _ i _ => xs.length - (intOf i).toNat)
  case atStart => exact ⟨0, Nat.zero_le _, rfl, by rw [List.take_zero, pre_nil], Below.refl _ _⟩
  case round =>
   obtain ⟨k, hk, rfl, rfl, hbel⟩ := hrel
   have Hb := Lib.hid hbel
   by_cases hlt : k < xs.length
   ·obtain ⟨x, hx⟩ : ∃ x, xs[k]? = some x := ⟨_, List.getElem?_eq_getElem hlt⟩
    have hm := List.mem_of_getElem? hx
    have T := Lib.hid (fun w => CallText_spec x w (Hs.out x hm))
    have ht : textB x = callB x := by simp [textB, Hall.out x hm]
    rw [ht] at T
    have hz := pre_size (take_fit (k := k) Hall.out)
    rw [List.length_take] at hz
    have hzx := callB_size (Hall.out x hm)
    have hi : (k : Int) < xs.length := by omega
    by_cases hk0 : k = 0
    ·have N := Lib.hid (pre_first (hk0 ▸ hx))
     have N0 := Lib.hid (show preB (xs.take k) = ⟨#[]⟩ by rw [hk0, List.take_zero, pre_nil])
     have t0 : ¬ (0 : Int) < k := by omega
     have Hk0 := Lib.hid hk0
     clear hbel hk0
     go_wp2_with fail
     refine (F.out _ Hb.out).mono ?_; rintro e w1 ⟨rfl, b1⟩
     have Hb1 := Lib.hid (Hb.out.trans (b1.mono Hb.out.size))
     obtain ⟨b, off, rfl, D0, D1, D2, D3, D4, D5⟩ := H0.six Hb1.out hx
     have Hx := Lib.hid hx
     clear hx b1
     obtain ⟨xk, xe, xa, xb, xc, xn⟩ := x
     simp only [CallV.val, CallV.cells] at T D0 D1 D2 D3 D4 D5
     generalize hcb : callB ⟨xk, xe, xa, xb, xc, xn⟩ = cb at T N hzx
     have n1 : ¬ 9223372036854775807 < (preB (xs.take k)).size + cb.size := by omega
     clear hcb
     go_wp2_with fail
     refine (T.out _).mono ?_; rintro e w2 ⟨rfl, b2⟩
     have Hb2 := Lib.hid (Hb1.out.trans (b2.mono Hb1.out.size))
     clear D0 D1 D2 D3 D4 D5 b2
     go_wp2_with fail
     go_roundw
     case rel => exact ⟨k + 1, by omega, by go_num, by rw [N0.out, show k + 1 = 1 by have := Hk0.out; omega, N.out, empty_app], Hb2.out⟩
     case measure => simp [intOf]; omega
    ·have N := Lib.hid (pre_step hx (by omega))
     have t0 : (0 : Int) < k := by omega
     clear hbel hk0
     go_wp2_with fail
     refine (F.out _ Hb.out).mono ?_; rintro e w1 ⟨rfl, b1⟩
     have Hb1 := Lib.hid (Hb.out.trans (b1.mono Hb.out.size))
     obtain ⟨b, off, rfl, D0, D1, D2, D3, D4, D5⟩ := H0.six Hb1.out hx
     have Hx := Lib.hid hx
     clear hx b1
     obtain ⟨xk, xe, xa, xb, xc, xn⟩ := x
     simp only [CallV.val, CallV.cells] at T D0 D1 D2 D3 D4 D5
     generalize hcb : callB ⟨xk, xe, xa, xb, xc, xn⟩ = cb at T N hzx
     have n0 : ¬ 9223372036854775807 < (preB (xs.take k)).size + 1 := by omega
     have n1 : ¬ 9223372036854775807 < (preB (xs.take k)).size + 1 + cb.size := by omega
     clear hcb
     go_wp2_with fail
     refine (T.out _).mono ?_; rintro e w2 ⟨rfl, b2⟩
     have Hb2 := Lib.hid (Hb1.out.trans (b2.mono Hb1.out.size))
     clear D0 D1 D2 D3 D4 D5 b2
     go_wp2_with fail
     go_roundw
     case rel => exact ⟨k + 1, by omega, by go_num, by rw [N.out], Hb2.out⟩
     case measure => simp [intOf]; omega
   ·obtain rfl : k = xs.length := by omega
    have e1 := Lib.hid (show preB (xs.take xs.length) = callsB xs by rw [S.out, List.take_of_length_le (Nat.le_refl _)])
    go_wp2_with fail
    go_ret
    exact ⟨by rw [← e1.out]; rfl, hbel⟩
end Go.Proofs.YtjacdlekgdnndaaGreatDoor
set_option linter.unusedVariables false
set_option linter.unusedSimpArgs false
namespace Go.Proofs.YtjacdlekgdnndaaGreatDoor
open Go.RowKit
def ParsedS (s : ByteArray) (xs : List CallV) (ok : Bool) : Prop := (ok = true ∧ listFit xs = true ∧ callsB xs = s) ∨ (ok = false ∧ xs = [] ∧ ∀ ys : List CallV, listFit ys = true → callsB ys ≠ s)
def CsRes (s : ByteArray) (lo : Nat) (e : Ending) (w' : World) : Prop := ∃ v xs ok, e = .returned (.tuple #[v, .bool ok]) ∧ OwnCalls lo w' v xs ∧ ParsedS s xs ok
theorem callL_free {y : CallV} (h : fitsC y = true) : ∀ x ∈ callL y, x ≠ 59 := by
 obtain ⟨k, e, a, b, c, hx, h1, h2, h3, h4, h5, h6, h7, h8⟩ := fits_ranges h
 exact txt_free (by rw [hx]; simpa using h2) h8
theorem callL_ne (y : CallV) : callL y ≠ [] := txt_ne
theorem cut_pre {ys : List CallV} (h : ∀ y ∈ ys, fitsC y = true) (hne : ys ≠ []) : cutB 59 (preB ys) = ys.map callB := by
 have e : (preB ys).data.toList = Lib.join (ys.map callL) [59] := rfl
 unfold cutB
 rw [e, cutL_join (by simpa using hne) (fun w hw => by obtain ⟨y, hy, rfl⟩ := List.mem_map.1 hw; exact callL_free (h y hy)), List.map_map]
 rfl
theorem pre_cut {s : ByteArray} {xs : List CallV} (h : xs.map callB = cutB 59 s) : preB xs = s := by
 have h2 : xs.map callL = cutL 59 s.data.toList := by
  have h3 : (xs.map callB).map (·.data.toList) = (cutB 59 s).map (·.data.toList) := by rw [h]
  unfold cutB at h3
  rw [List.map_map, List.map_map] at h3
  have e1 : ((fun x : ByteArray => x.data.toList) ∘ callB) = callL := rfl
  have e2 : ((fun x : ByteArray => x.data.toList) ∘ ofL) = id := rfl
  rwa [e1, e2, List.map_id] at h3
 unfold preB callsL
 rw [h2, join_cutL]
theorem pre_ne {ys : List CallV} (hne : ys ≠ []) : preB ys ≠ ⟨#[]⟩ := by
 intro e
 have h2 : callsL ys = [] := by
  have := congrArg (fun x : ByteArray => x.data.toList) e
  exact this
 cases ys with
 | nil => exact hne rfl
 | cons y ys =>
  unfold callsL at h2
  rw [List.map_cons, Lib.join_cons] at h2
  exact callL_ne y (List.append_eq_nil_iff.1 h2).1
theorem callsB_fit {xs : List CallV} (h : listFit xs = true) : callsB xs = preB xs := by simp [callsB, h]
theorem lines_of {s : ByteArray} {ys : List CallV} (hs : s ≠ ⟨#[]⟩) (h : listFit ys = true) (e : callsB ys = s) : cutB 59 s = ys.map callB := by
 rw [callsB_fit h] at e
 have hne : ys ≠ [] := by
  rintro rfl
  exact hs (e.symm.trans pre_nil)
 rw [← e]
 exact cut_pre (listFit_iff.1 h).1 hne
theorem parsedS_line {s : ByteArray} {k : Nat} (hs : s ≠ ⟨#[]⟩) (hk : k < (cutB 59 s).length) (h : ∀ y : CallV, fitsC y = true → callB y ≠ nthS (cutB 59 s) k) : ∀ ys : List CallV, listFit ys = true → callsB ys ≠ s := by
 intro ys hf e
 have hl := lines_of hs hf e
 rw [hl, List.length_map] at hk
 have hy : ys[k]? = some ys[k] := List.getElem?_eq_getElem hk
 refine h ys[k] ((listFit_iff.1 hf).1 _ (List.getElem_mem hk)) ?_
 rw [hl]
 simp [nthS, hk]
theorem parsedS_long {s : ByteArray} (hs : s ≠ ⟨#[]⟩) (h : 12 < (cutB 59 s).length) : ∀ ys : List CallV, listFit ys = true → callsB ys ≠ s := by
 intro ys hf e
 rw [lines_of hs hf e, List.length_map] at h
 have := (listFit_iff.1 hf).2
 omega
theorem parsedS_done {s : ByteArray} {xs : List CallV} (hf : ∀ x ∈ xs, fitsC x = true) (hl : xs.length ≤ 12) (h : xs.map callB = cutB 59 s) : ParsedS s xs true := by
 have hf' := listFit_iff.2 ⟨hf, hl⟩
 exact .inl ⟨rfl, hf', by rw [callsB_fit hf']; exact pre_cut h⟩
theorem parsedS_empty : ParsedS ⟨#[]⟩ [] true := .inl ⟨rfl, rfl, by rw [callsB_fit rfl]; exact pre_nil⟩
theorem map_callB_inj : ∀ {xs ys : List CallV}, (∀ x ∈ xs, fitsC x = true) → (∀ y ∈ ys, fitsC y = true) → xs.map callB = ys.map callB → xs = ys
 | [], [], _, _, _ => rfl
 | [], y :: ys, _, _, h => by simp at h
 | x :: xs, [], _, _, h => by simp at h
 | x :: xs, y :: ys, h1, h2, h => by
  simp only [List.map_cons, List.cons.injEq] at h
  rw [callB_inj (h1 x (by simp)) (h2 y (by simp)) h.1, map_callB_inj (fun z hz => h1 z (List.mem_cons_of_mem _ hz)) (fun z hz => h2 z (List.mem_cons_of_mem _ hz)) h.2]
theorem callsB_inj {xs ys : List CallV} (hx : listFit xs = true) (hy : listFit ys = true) (h : callsB xs = callsB ys) : xs = ys := by
 by_cases hs : callsB ys = ⟨#[]⟩
 ·have hs' := h.trans hs
  rw [callsB_fit hx] at hs'
  rw [callsB_fit hy] at hs
  by_cases h1 : xs = []
  ·by_cases h2 : ys = []
   ·rw [h1, h2]
   ·exact absurd hs (pre_ne h2)
  ·exact absurd hs' (pre_ne h1)
 ·have e1 := lines_of hs hx h
  have e2 := lines_of hs hy rfl
  exact map_callB_inj (listFit_iff.1 hx).1 (listFit_iff.1 hy).1 (e1.symm.trans e2)
theorem ParsedS.uniq {s : ByteArray} {x y : List CallV} {a b : Bool} (h : ParsedS s x a) (h' : ParsedS s y b) : x = y ∧ a = b := by
 rcases h with ⟨rfl, h1, h2⟩ | ⟨rfl, h1, h2⟩ <;> rcases h' with ⟨rfl, h3, h4⟩ | ⟨rfl, h3, h4⟩
 ·exact ⟨callsB_inj h1 h3 (h2.trans h4.symm), rfl⟩
 ·exact absurd h2 (h4 x h1)
 ·exact absurd h4 (h2 y h3)
 ·exact ⟨h1.trans h3.symm, rfl⟩
theorem cut_len (a : UInt8) (s : ByteArray) : (cutB a s).length ≤ s.size + 1 := by
 unfold cutB
 rw [List.length_map]
 have := cutL_len_le a s.data.toList
 have e : s.data.toList.length = s.size := by simp
 omega
theorem lines_step {s : ByteArray} {k : Nat} {xs : List CallV} {x : CallV} (hk : k < (cutB 59 s).length) (h : xs.map callB = (cutB 59 s).take k) (hx : callB x = nthS (cutB 59 s) k) : (xs ++ [x]).map callB = (cutB 59 s).take (k + 1) := by
 rw [List.map_append, h, take_one (nthS_lt hk), List.map_cons, List.map_nil, hx]
theorem lines_len {s : ByteArray} {k : Nat} {xs : List CallV} (hk : k ≤ (cutB 59 s).length) (h : xs.map callB = (cutB 59 s).take k) : xs.length = k := by
 have := congrArg List.length h
 rw [List.length_map, List.length_take] at this
 omega
theorem fits_snoc {xs : List CallV} {x : CallV} (h : ∀ y ∈ xs, fitsC y = true) (hx : fitsC x = true) : ∀ y ∈ xs ++ [x], fitsC y = true := by
 intro y hy
 rcases List.mem_append.1 hy with hy | hy
 ·exact h y hy
 ·rw [List.mem_singleton.1 hy]; exact hx
theorem ct_own_type {w : World} {lo e sz n : Nat} {v : Value} {xs : List Value} (h : w.ownsRow lo e sz v n xs) : ∀ g, v.ownBlock = some g → ∃ cur, w.heap[g]? = some (.cells cur e (0, 0)) := by
 intro g hg
 rcases h.2 with ⟨rfl, _⟩ | ⟨g', cap, cur, rfl, _, hh, _⟩
 ·simp [Value.ownBlock] at hg
 ·simp [Value.ownBlock] at hg
  subst hg
  exact ⟨cur, hh⟩
theorem ct_apart_type {w : World} {lo lo' e e' sz sz' n n' : Nat} {v v' : Value} {xs xs' : List Value} (h : w.ownsRow lo e sz v n xs) (h' : w.ownsRow lo' e' sz' v' n' xs') (hne : e ≠ e') : Apart v v' := by
 intro g hg hg'
 obtain ⟨c1, h1⟩ := ct_own_type h g hg
 obtain ⟨c2, h2⟩ := ct_own_type h' g hg'
 rw [h1] at h2
 simp at h2
 exact hne h2.2
set_option maxRecDepth 100000 in
set_option maxHeartbeats 4000000 in
theorem CallsParse_spec (s : ByteArray) (w : World) (hs : s.size ≤ 1048577) :
 Calls Tryz.prog 9 #[.string s] w fun e w' => CsRes s w.heap.size e w' ∧ Below w.heap.size w w' := by
 have hO := Lib.hid (ownsRow_empty w 60 6)
 have hB := Lib.hid (below1 w (.cells #[] 60))
 by_cases h0 : s = ⟨#[]⟩
 ·subst h0
  have cut0 : cutB 59 ⟨#[]⟩ = [⟨#[]⟩] := rfl
  go_enter Tryz.func9, Tryz.ntmps9
  go_wp2_with fail
  refine (l43Cut_59 ⟨#[]⟩ _ hs).mono ?_; rintro e w1 ⟨v, rfl, ho, b1⟩
  have hO1 := Lib.hid (OwnCalls.below (xs := []) hO.out b1)
  have hB1 := Lib.hid (hB.out.trans (b1.mono hB.out.size))
  rw [cut0] at ho
  obtain ⟨a, cap, rfl, _, _, _⟩ := ho.rd.open
  clear ho b1
  go_wp2_with fail
  refine wp_loop_rounds 1 ?_; rw [rounds_succ]
  go_wp2_with fail
  go_ret2
  exact ⟨⟨_, [], true, rfl, hO1.out, parsedS_empty⟩, hB1.out⟩
 have hse : s.toList.isEmpty = false := by
  rw [Bool.eq_false_iff]
  intro e
  exact h0 ((isEmpty_iff s).1 e)
 have Hk := Lib.hid (fun (k : Nat) (hk : k < (cutB 59 s).length) (h : ∀ y : CallV, fitsC y = true → callB y ≠ nthS (cutB 59 s) k) => parsedS_line h0 hk h)
 have Hl := Lib.hid (fun (h : 12 < (cutB 59 s).length) => parsedS_long h0 h)
 have Hs := Lib.hid (fun k => Nat.le_trans (piece_size 59 s k) hs)
 have hcl := cut_len 59 s
 have hcl' : (cutB 59 s).length ≤ 1048578 := by omega
 clear hcl h0
 go_enter Tryz.func9, Tryz.ntmps9
 go_wp2_with fail
 refine (l43Cut_59 s _ hs).mono ?_; rintro e w1 ⟨v, rfl, ho, b1⟩
 have hO1 := Lib.hid (OwnCalls.below (xs := []) hO.out b1)
 have hB1 := Lib.hid (hB.out.trans (b1.mono hB.out.size))
 obtain ⟨a, cap, rfl, hnc, hcm, hA⟩ := ho.rd.open
 have ho' := own_loV ho (lo' := w.heap.size) hB.out.size
 have HS := Lib.hid (show OwnStrs w.heap.size w1 (.slice a (cutB 59 s).length cap) (cutB 59 s) from ho')
 clear ho b1 hA ho'
 unfold maxLen at hcm
 go_wp2_with fail
 go_loopw [4, 6] (fun o i wr => ∃ (k : Nat) (xs : List CallV), k ≤ (cutB 59 s).length ∧ i = .int .i64 k ∧ xs.map callB = (cutB 59 s).take k ∧ (∀ x ∈ xs, fitsC x = true) ∧ OwnCalls w.heap.size wr o xs ∧ Below w.heap.size w wr ∧ OwnStrs w.heap.size wr (.slice a (cutB 59 s).length cap) (cutB 59 s)) (fun _ i _ => (cutB 59 s).length - (intOf i).toNat)
 case atStart => exact ⟨0, [], Nat.zero_le _, rfl, by simp, fun x hx => by simp at hx, hO1.out, hB1.out, HS.out⟩
 case round =>
  obtain ⟨k, xs, hk, rfl, hm, hf, hown, hbel, hb1⟩ := hrel
  have Hm := Lib.hid hm
  have Hf := Lib.hid hf
  have Ho := Lib.hid hown
  have Hb := Lib.hid hbel
  have H1 := Lib.hid hb1
  have hxl := lines_len hk hm
  obtain ⟨ao, co, rfl, _, _, _⟩ := hown.rd.open
  by_cases hlt : k < (cutB 59 s).length
  ·obtain ⟨a', cap', hae, _, _, hA⟩ := hb1.rd.open
   obtain ⟨b, off, rfl, hbl, D⟩ := hA k hlt
   simp only [Value.slice.injEq] at hae
   obtain ⟨rfl, _, rfl⟩ := hae
   clear hm hf hown hbel hb1 hA
   go_wp2_with fail
   refine (CallParse_spec _ _ (Hs.out k)).mono ?_; rintro e w2 ⟨⟨x, ok, rfl, hp⟩, b2⟩
   have O2 := Lib.hid (Ho.out.below b2)
   have B2 := Lib.hid (Hb.out.trans (b2.mono Hb.out.size))
   have H2 := Lib.hid (H1.out.below b2)
   have B3 := Lib.hid (B2.out.trans ((below1 w2 (.cells x.cells 60)).mono B2.out.size))
   have H3 := Lib.hid (H2.out.below (below1 w2 (.cells x.cells 60)))
   have O3 := Lib.hid (O2.out.below (below1 w2 (.cells x.cells 60)))
   clear D b2
   rcases hp with ⟨rfl, hfx, hbx⟩ | ⟨rfl, rfl, hno⟩
   ·have S := Lib.hid (lines_step hlt Hm.out hbx)
    have Sf := Lib.hid (fits_snoc Hf.out hfx)
    clear hfx hbx
    have o3 := O3.out
    have hsz := B3.out.size
    unfold OwnCalls at o3
    have Ef : callCells (xs ++ [x]) = callCells xs ++ callCs x := by simp only [callCells, flat_append, flat_one]
    have HEf := Lib.hid Ef
    clear Ef
    obtain ⟨xk, xe, xa, xb, xc, xn⟩ := x
    simp only [CallV.val, CallV.cells] at o3 hsz B3 H3 ⊢
    have hOr := o3
    clear o3
    go_wp2_with (at_builtin; go_must (refine wp_append (lo := w.heap.size) (n := xs.length) (xs := callCells xs) (m := 1) (news := callCs ⟨xk, xe, xa, xb, xc, xn⟩) rfl rfl 60 _ 6 56 Tryz.underlying24 Tryz.infoCall rfl (by decide) rfl (ownsRow_below hOr (below1 _ _)) rfl (Rd.newsAt _ (CallV.mk xk xe xa xb xc xn).cells _ 6 1 _ (by simp [CallV.cells]) rfl (by simp [maxLen])) (by simp [callCs, CallV.cells, Value.oneCell']) (by unfold maxLen; omega) (by omega) (by simp at hsz ⊢; omega) ?_; intro o' w4 g1 g2 g3))
    go_roundw
    case rel =>
     refine ⟨k + 1, xs ++ [⟨xk, xe, xa, xb, xc, xn⟩], by omega, by go_num, S.out, Sf.out, ?_, B3.out.trans (((below1 _ _).mono hsz).trans g3), ?_⟩
     ·unfold OwnCalls
      rw [HEf.out, List.length_append]
      exact g1
     ·have h4 := OwnStrs.below H3.out (below1 _ (.cells (CallV.mk xk xe xa xb xc xn).cells 60))
      exact own_grown h4 g2 (ct_apart_type h4 (ownsRow_below hOr (below1 _ (.cells (CallV.mk xk xe xa xb xc xn).cells 60))) (by decide)).ne
    case measure => simp [intOf]; omega
   ·have P := Lib.hid (Hk.out k hlt hno)
    have Q := Lib.hid (below1 (w2.alloc (.cells CallV.zero.cells 60)) (.cells #[] 60))
    have hsz := B3.out.size
    have qo := own_loV (ownsRow_empty (w2.alloc (.cells CallV.zero.cells 60)) 60 6) hsz
    rw [World.size_alloc] at qo
    have QO := Lib.hid (show OwnCalls w.heap.size _ (.slice (some ⟨w2.heap.size + 1, 0, none⟩) 0 0) [] from qo)
    clear qo
    simp only [CallV.val, CallV.cells, CallV.zero] at Q QO hsz B3 ⊢
    go_wp2_with fail
    go_ret2
    exact ⟨⟨_, [], false, rfl, QO.out, .inr ⟨rfl, rfl, P.out⟩⟩, B3.out.trans (Q.out.mono hsz)⟩
  ·obtain rfl : k = (cutB 59 s).length := by omega
   rw [List.take_of_length_le (Nat.le_refl _)] at hm
   by_cases h12 : xs.length ≤ 12
   ·have P := Lib.hid (parsedS_done hf h12 hm)
    have t12 : ¬ (12 : Int) < xs.length := by omega
    have Hxl := Lib.hid hxl
    clear hm hf hown hbel hb1 hxl h12
    go_wp2_with fail
    go_ret2
    exact ⟨⟨_, xs, true, rfl, Ho.out, P.out⟩, Hb.out⟩
   ·have P := Lib.hid (Hl.out (by omega))
    have t12 : (12 : Int) < xs.length := by omega
    have Q := Lib.hid (below1 wr (.cells #[] 60))
    have QO := Lib.hid ((ownsRow_empty wr 60 6))
    have hsz := Hb.out.size
    have Hxl := Lib.hid hxl
    clear hm hf hown hbel hb1 hxl h12
    go_wp2_with fail
    go_ret2
    exact ⟨⟨_, [], false, rfl, own_loV QO.out hsz, .inr ⟨rfl, rfl, P.out⟩⟩, Hb.out.trans (Q.out.mono hsz)⟩
end Go.Proofs.YtjacdlekgdnndaaGreatDoor
set_option linter.unusedVariables false
set_option linter.unusedSimpArgs false
namespace Go.Proofs.YtjacdlekgdnndaaGreatDoor
open Go.RowKit
set_option maxRecDepth 100000 in
set_option maxHeartbeats 4000000 in
theorem CallsParse_impl (s : ByteArray) (w : World) (hs : s.size ≤ 1048577) (ht : PTabs w) :
 Calls Tryz.prog 8 #[.string s] w fun e w' => CsRes s w.heap.size e w' ∧ Below w.heap.size w w' := by
 have Ht := Lib.hid ht
 by_cases h0 : s = ⟨#[]⟩
 ·subst h0
  go_enter Tryz.func8, Tryz.ntmps8
  go_wp2_with fail
  go_ret2
  exact ⟨⟨_, [], true, rfl, ⟨rfl, .inl ⟨rfl, rfl⟩⟩, parsedS_empty⟩, Below.refl _ _⟩
 have hse : s.toList.isEmpty = false := by
  rw [Bool.eq_false_iff]
  intro e
  exact h0 ((isEmpty_iff s).1 e)
 have Hk := Lib.hid (fun (k : Nat) (hk : k < (cutB 59 s).length) (h : ∀ y : CallV, fitsC y = true → callB y ≠ nthS (cutB 59 s) k) => parsedS_line h0 hk h)
 have Hl := Lib.hid (fun (h : 12 < (cutB 59 s).length) => parsedS_long h0 h)
 have Hs := Lib.hid (fun k => Nat.le_trans (piece_size 59 s k) hs)
 have hcl := cut_len 59 s
 have hcl' : (cutB 59 s).length ≤ 1048578 := by omega
 clear hcl h0
 go_enter Tryz.func8, Tryz.ntmps8
 go_wp2_with fail
 refine (Split_any s 59 _ hs Ht.out).mono ?_; rintro e w1 ⟨v, rfl, ho, b1⟩
 have hB1 := Lib.hid b1
 obtain ⟨a, cap, rfl, hnc, hcm, hA⟩ := ho.rd.open
 have ho' := own_loV ho (lo' := w.heap.size) (Nat.le_refl _)
 have HS := Lib.hid (show OwnStrs w.heap.size w1 (.slice a (cutB 59 s).length cap) (cutB 59 s) from ho')
 clear ho b1 hA ho'
 unfold maxLen at hcm
 by_cases h12 : 12 < (cutB 59 s).length
 ·have P := Lib.hid (Hl.out h12)
  have t12 : (12 : Int) < (cutB 59 s).length := by omega
  clear h12
  go_wp2_with fail
  go_ret2
  exact ⟨⟨_, [], false, rfl, ⟨rfl, .inl ⟨rfl, rfl⟩⟩, .inr ⟨rfl, rfl, P.out⟩⟩, hB1.out⟩
 have t12 : ¬ (12 : Int) < (cutB 59 s).length := by omega
 go_wp2_with fail
 go_loopw [5, 19] (fun o i wr => ∃ (k : Nat) (xs : List CallV), k ≤ (cutB 59 s).length ∧ i = .int .i64 k ∧ xs.map callB = (cutB 59 s).take k ∧ (∀ x ∈ xs, fitsC x = true) ∧ OwnCalls w.heap.size wr o xs ∧ Below w.heap.size w wr ∧ OwnStrs w.heap.size wr (.slice a (cutB 59 s).length cap) (cutB 59 s)) (fun _ i _ => (cutB 59 s).length - (intOf i).toNat)
 case atStart => exact ⟨0, [], Nat.zero_le _, rfl, by simp, fun x hx => by simp at hx, ⟨rfl, .inl ⟨rfl, rfl⟩⟩, hB1.out, HS.out⟩
 case round =>
  obtain ⟨k, xs, hk, rfl, hm, hf, hown, hbel, hb1⟩ := hrel
  have Hm := Lib.hid hm
  have Hf := Lib.hid hf
  have Ho := Lib.hid hown
  have Hb := Lib.hid hbel
  have H1 := Lib.hid hb1
  have hxl := lines_len hk hm
  obtain ⟨ao, co, rfl, _, _, _⟩ := hown.rd.open
  by_cases hlt : k < (cutB 59 s).length
  ·obtain ⟨a', cap', hae, _, _, hA⟩ := hb1.rd.open
   obtain ⟨b, off, rfl, hbl, D⟩ := hA k hlt
   simp only [Value.slice.injEq] at hae
   obtain ⟨rfl, _, rfl⟩ := hae
   clear hm hf hown hbel hb1 hA
   go_wp2_with fail
   refine (CallParse_impl _ _ (Hs.out k) (Ht.out.below Hb.out)).mono ?_; rintro e w2 ⟨⟨x, ok, rfl, hp⟩, b2⟩
   have O2 := Lib.hid (Ho.out.below b2)
   have B2 := Lib.hid (Hb.out.trans (b2.mono Hb.out.size))
   have H2 := Lib.hid (H1.out.below b2)
   have B3 := Lib.hid (B2.out.trans ((below1 w2 (.cells x.cells 60)).mono B2.out.size))
   have H3 := Lib.hid (H2.out.below (below1 w2 (.cells x.cells 60)))
   have O3 := Lib.hid (O2.out.below (below1 w2 (.cells x.cells 60)))
   clear D b2
   rcases hp with ⟨rfl, hfx, hbx⟩ | ⟨rfl, rfl, hno⟩
   ·have S := Lib.hid (lines_step hlt Hm.out hbx)
    have Sf := Lib.hid (fits_snoc Hf.out hfx)
    clear hfx hbx
    have o3 := O3.out
    have hsz := B3.out.size
    unfold OwnCalls at o3
    have Ef : callCells (xs ++ [x]) = callCells xs ++ callCs x := by simp only [callCells, flat_append, flat_one]
    have HEf := Lib.hid Ef
    clear Ef
    obtain ⟨xk, xe, xa, xb, xc, xn⟩ := x
    simp only [CallV.val, CallV.cells] at o3 hsz B3 H3 ⊢
    have hOr := o3
    clear o3
    go_wp2_with (at_builtin; go_must (refine wp_append (lo := w.heap.size) (n := xs.length) (xs := callCells xs) (m := 1) (news := callCs ⟨xk, xe, xa, xb, xc, xn⟩) rfl rfl 60 _ 6 56 Tryz.underlying24 Tryz.infoCall rfl (by decide) rfl (ownsRow_below hOr (below1 _ _)) rfl (Rd.newsAt _ (CallV.mk xk xe xa xb xc xn).cells _ 6 1 _ (by simp [CallV.cells]) rfl (by simp [maxLen])) (by simp [callCs, CallV.cells, Value.oneCell']) (by unfold maxLen; omega) (by omega) (by simp at hsz ⊢; omega) ?_; intro o' w4 g1 g2 g3))
    go_roundw
    case rel =>
     refine ⟨k + 1, xs ++ [⟨xk, xe, xa, xb, xc, xn⟩], by omega, by go_num, S.out, Sf.out, ?_, B3.out.trans (((below1 _ _).mono hsz).trans g3), ?_⟩
     ·unfold OwnCalls
      rw [HEf.out, List.length_append]
      exact g1
     ·have h4 := OwnStrs.below H3.out (below1 _ (.cells (CallV.mk xk xe xa xb xc xn).cells 60))
      exact own_grown h4 g2 (ct_apart_type h4 (ownsRow_below hOr (below1 _ (.cells (CallV.mk xk xe xa xb xc xn).cells 60))) (by decide)).ne
    case measure => simp [intOf]; omega
   ·have P := Lib.hid (Hk.out k hlt hno)
    simp only [CallV.val, CallV.cells, CallV.zero] at B3 ⊢
    go_wp2_with fail
    go_ret2
    exact ⟨⟨_, [], false, rfl, ⟨rfl, .inl ⟨rfl, rfl⟩⟩, .inr ⟨rfl, rfl, P.out⟩⟩, B3.out⟩
  ·obtain rfl : k = (cutB 59 s).length := by omega
   rw [List.take_of_length_le (Nat.le_refl _)] at hm
   have P := Lib.hid (parsedS_done hf (by omega) hm)
   clear hm hf hown hbel hb1 hxl
   go_wp2_with fail
   go_ret2
   exact ⟨⟨_, xs, true, rfl, Ho.out, P.out⟩, Hb.out⟩
end Go.Proofs.YtjacdlekgdnndaaGreatDoor
set_option linter.unusedVariables false
namespace Go.Proofs.YtjacdlekgdnndaaGreatDoor
open Go.RowKit
theorem Tryz.structCall : Tryz.prog.underlying 60 = some (.struct (Tryz.prog.fieldsOf 60)) := by kernel_rfl
theorem neqCall_same (k e a b c : Int) (nm : ByteArray) (w : World) :
 (binOp .neq 60 (.agg #[.int .i64 k, .int .i64 e, .int .i64 a, .int .i64 b, .int .i64 c, .string nm]) (.agg #[.int .i64 k, .int .i64 e, .int .i64 a, .int .i64 b, .int .i64 c, .string nm])).run Tryz.prog w = .ok (.bool false) w := by
 rw [run_neq_struct, run_equalIn_agg _ _ _ _ _ Tryz.structCall (by kernel_rfl)]
 simp [Program.fieldsOf, Tryz.underlying60, Op.eqFields, go_sem]
theorem guardCall (op : BinOp) (x y : Operand) (xs ys : Array Value) (w : World) : (eqGuard op 60 x y (.agg xs) (.agg ys)).run Tryz.prog w = .ok () w := run_eqGuard_agg w op _ x y xs ys (by kernel_rfl)
end Go.Proofs.YtjacdlekgdnndaaGreatDoor
set_option linter.unusedVariables false
namespace Go.Proofs.YtjacdlekgdnndaaGreatDoor
open Go.RowKit
def drN (L : Nat → Bool) : Nat := (if L 5 = true then 1 else 0) + (if L 10 = true then 1 else 0)
end Go.Proofs.YtjacdlekgdnndaaGreatDoor
set_option linter.unusedVariables false
set_option linter.unusedSimpArgs false
namespace Go.Proofs.YtjacdlekgdnndaaGreatDoor
open Go.RowKit
set_option maxRecDepth 100000 in
set_option maxHeartbeats 1000000 in
theorem sameCallList_same (v1 v2 : Value) (xs : List CallV) (w : World) (h1 : RdCalls w v1 xs) (h2 : RdCalls w v2 xs) :
 Calls Tryz.prog 10 #[v1, v2] w fun e w' => e = .returned (.bool true) ∧ Below w.heap.size w w' := by
 obtain ⟨a1, c1, hv1, hc1, hcm1, H1⟩ := h1.open
 obtain ⟨a2, c2, hv2, hc2, hcm2, H2⟩ := h2.open
 subst hv1 hv2
 unfold maxLen at hcm1 hcm2
 clear h1 h2
 go_enter Tryz.func10, Tryz.ntmps10
 go_wp2_with fail
 go_loopw [5] (fun i wr => ∃ k : Nat, k ≤ xs.length ∧ i = .int .i64 k ∧ Below w.heap.size w wr) (fun i _ => xs.length - (intOf i).toNat)
 case atStart => exact ⟨0, Nat.zero_le _, rfl, Below.refl _ _⟩
 case round =>
  obtain ⟨k, hk, rfl, hbel⟩ := hrel
  by_cases hlt : k < xs.length
  ·obtain ⟨x, hx⟩ : ∃ x, xs[k]? = some x := ⟨_, List.getElem?_eq_getElem hlt⟩
   obtain ⟨b1, o1, rfl, D0, D1, D2, D3, D4, D5⟩ := H1.six hbel hx
   obtain ⟨b2, o2, rfl, E0, E1, E2, E3, E4, E5⟩ := H2.six hbel hx
   have Hx := Lib.hid hx; clear hx
   have hk1 : (k : Int) < xs.length := by omega
   obtain ⟨xk, xe, xa, xb, xc, xn⟩ := x
   have E := fun w => neqCall_same xk xe xa xb xc xn w
   have G := fun op x y xs ys w => guardCall op x y xs ys w
   simp only at D0 D1 D2 D3 D4 D5 E0 E1 E2 E3 E4 E5
   go_wp2_with fail
   go_quiet (fail)
   have hbd : Below w.heap.size w (wr.drewN nq) := below_drewN hbel nq
   generalize wr.drewN nq = w2 at hbd
   clear D0 D1 D2 D3 D4 D5 E0 E1 E2 E3 E4 E5 hbel
   go_wp2_with fail
   go_roundw
   case rel => exact ⟨k + 1, by omega, by go_num, hbd⟩
   case measure => simp [intOf]; omega
  ·go_wp2_with fail
   go_ret
   exact ⟨rfl, hbel⟩
end Go.Proofs.YtjacdlekgdnndaaGreatDoor
set_option linter.unusedVariables false
set_option linter.unusedSimpArgs false
namespace Go.Proofs.YtjacdlekgdnndaaGreatDoor
open Go.RowKit
def CsSt (w0 : World) (g N : Nat) (w : World) (o : Value) (xs : List CallV) (wr : World) : Prop := Dr w0 g N wr ∧ OwnCalls w.heap.size wr o xs ∧ w.grownBy wr (some g) ∧ g < w.heap.size ∧ w0.heap.size ≤ w.heap.size ∧ ∀ x ∈ xs, x.nm.size ≤ 8
theorem CsSt.draw {w0 w wr w' : World} {g N M : Nat} {o : Value} {xs : List CallV} (h : CsSt w0 g N w o xs wr) (hd : Dr w0 g M w') (hg : wr.grownBy w' (some g)) : CsSt w0 g M w o xs w' := by
 obtain ⟨h1, h2, h3, h4, h6, h5⟩ := h
 refine ⟨hd, own_grown h2 hg ?_, grown_trans h3 hg, h4, h6, h5⟩
 cases hv : o.ownBlock with
 | none => exact .inl rfl
 | some k =>
  refine .inr fun he => ?_
  simp only [Option.some.injEq] at he
  have := (h2.lt k hv).1
  omega
theorem cs_app {w0 w wr w' : World} {g N k : Nat} {o o' : Value} {xs : List CallV} {x : CallV} {ob : Obj} (h : CsSt w0 g (N + 3 + 9 * k + 9) w o xs wr) (hx : x.nm.size ≤ 8) (ho : OwnCalls w.heap.size w' o' (xs ++ [x])) (hg : (wr.alloc ob).grownBy w' o.ownBlock) (hlo : ∀ q, o.ownBlock = some q → w.heap.size ≤ q) (hl : xs.length = k) (hk : k ≤ 12) : CsSt w0 g (N + 3 + 9 * (k + 1)) w o' (xs ++ [x]) w' := by
 obtain ⟨h1, h2, h3, h4, h6, h5⟩ := h
 have hw := h1.2.1.size
 have hd : Dr w0 g (N + 3 + 9 * k + 9) w' := (h1.alloc ob).keep hg (fun e => by have := hlo g e; omega) (fun q hq => by have := hlo q hq; have := h3.size; omega)
 refine ⟨hd.mono (by omega), ho, ?_, h4, h6, fun y hy => ?_⟩
 ·have g1 := grown_alloc h3 ob
  refine ⟨hg.os.trans g1.os, hg.tape.trans g1.tape, hg.output.trans g1.output, Nat.le_trans g1.size hg.size, fun q hq hne => ?_⟩
  refine (hg.block q (Nat.lt_of_lt_of_le hq g1.size) (fun e => ?_)).trans (g1.block q hq hne)
  have := hlo q e.symm
  omega
 ·rcases List.mem_append.1 hy with hy | hy
  ·exact h5 y hy
  ·rw [List.mem_singleton.1 hy]; exact hx
set_option maxRecDepth 100000 in
set_option maxHeartbeats 4000000 in
theorem l93Calls_any {w0 w : World} {g N : Nat} (h : Dr w0 g N w) (hN : N ≤ 800000) :
 Calls Tryz.prog 31 #[.pointer (some ⟨g, 0, none⟩)] w fun e w' => ∃ v, e = .returned v ∧ (∃ xs, OwnCalls w.heap.size w' v xs ∧ (∀ x ∈ xs, x.nm.size ≤ 8) ∧ xs.length ≤ 13) ∧ Dr w0 g (N + 130) w' ∧ w.grownBy w' (some g) := by
 have hlt := h.lt
 have S0 : CsSt w0 g N w (.slice (some ⟨w.heap.size, 0, none⟩) 0 0) [] (w.alloc (.cells #[] 60)) := ⟨h.alloc _, ownsRow_empty w 60 6, grown_below (below1 _ _) _, hlt, h.2.1.size, fun x hx => by simp at hx⟩
 have hS := Lib.hid S0
 clear S0 h
 go_enter Tryz.func31, Tryz.ntmps31
 go_wp2_with fail
 refine (hS.out.1.pick _ (by omega) (by decide)).mono ?_; rintro e w1 ⟨n, rfl, n0, n1, hd1, hg1⟩
 replace n1 := n1 (by decide)
 have S1 := Lib.hid (hS.out.draw hd1 hg1)
 clear hS hd1 hg1
 go_wp2_with fail
 refine (S1.out.1.pick _ (by omega) (by decide)).mono ?_; rintro e w2 ⟨z, rfl, z0, z1, hd2, hg2⟩
 have S2 := Lib.hid (S1.out.draw hd2 hg2)
 clear S1 hd2 hg2
 by_cases hz : z = 0
 ·have tz : (z == 0) = true := by simp [hz]
  clear hz z0 z1
  go_wp2_with fail
  refine (S2.out.1.pick _ (by omega) (by decide)).mono ?_; rintro e w3 ⟨m, rfl, m0, m1, hd3, hg3⟩
  replace m1 := m1 (by decide)
  have S3 := Lib.hid (S2.out.draw hd3 hg3)
  have m0' : (0 : Int) ≤ 12 + m := by omega
  clear S2 hd3 hg3
  go_wp2_with fail
  go_loopw [3, 5] (fun o i wr => ∃ (k : Nat) (xs : List CallV), (k : Int) ≤ 12 + m ∧ i = .int .i64 k ∧ xs.length = k ∧ CsSt w0 g (N + 3 + 9 * k) w o xs wr) (fun _ i _ => (12 + m - intOf i).toNat)
  case atStart => exact ⟨0, [], m0', rfl, rfl, S3.out⟩
  case round =>
   obtain ⟨k, xs, hk, rfl, hxl, hst⟩ := hrel
   have St := Lib.hid hst
   have Hxl := Lib.hid hxl
   obtain ⟨ao, co, rfl, _, _, _⟩ := hst.2.1.rd.open
   have hlt2 := hst.1.lt
   clear hst hxl
   by_cases hlk : (k : Int) < 12 + m
   ·go_wp2_with fail
    refine (l93Call_any St.out.1 (by omega)).mono ?_; rintro e w5 ⟨v5, rfl, ⟨x, rfl, hx⟩, hd5, hg5⟩
    have S5 := Lib.hid (St.out.draw hd5 hg5)
    have Ef := Lib.hid (show callCells (xs ++ [x]) = callCells xs ++ callCs x by simp only [callCells, flat_append, flat_one])
    have o3 := S5.out.2.1
    have hsz := S5.out.2.2.1.size
    unfold OwnCalls at o3
    clear hd5 hg5
    have hOr := o3
    clear o3
    obtain ⟨xk, xe, xa, xb, xc, xn⟩ := x
    simp only [CallV.val, CallV.cells] at hOr hsz ⊢
    have hx12 : xs.length ≤ 12 := by have := Hxl.out; omega
    go_wp2_with (at_builtin; go_must (refine wp_append (lo := w.heap.size) (n := xs.length) (xs := callCells xs) (m := 1) (news := callCs ⟨xk, xe, xa, xb, xc, xn⟩) rfl rfl 60 _ 6 56 Tryz.underlying24 Tryz.infoCall rfl (by decide) rfl (ownsRow_below hOr (below1 _ _)) rfl (Rd.newsAt _ (CallV.mk xk xe xa xb xc xn).cells _ 6 1 _ (by simp [CallV.cells]) rfl (by simp [maxLen])) (by simp [callCs, CallV.cells, Value.oneCell']) (by unfold maxLen; omega) (by omega) (by simp at hsz ⊢; omega) ?_; intro o' w4 g1 g2 g3))
    go_roundw
    case rel =>
     refine ⟨k + 1, xs ++ [⟨xk, xe, xa, xb, xc, xn⟩], by omega, by go_num, by rw [List.length_append, Hxl.out]; rfl, ?_⟩
     refine cs_app (S5.out) hx ?_ g2 (fun q hq => (hOr.lt q hq).1) Hxl.out (by omega)
     unfold OwnCalls
     rw [List.length_append, Ef.out]
     exact g1
    case measure => simp [intOf]; omega
   ·have P := Lib.hid (show (∃ ys, OwnCalls w.heap.size wr (.slice ao xs.length co) ys ∧ (∀ x ∈ ys, x.nm.size ≤ 8) ∧ ys.length ≤ 13) ∧ Dr w0 g (N + 130) wr ∧ w.grownBy wr (some g) from ⟨⟨xs, St.out.2.1, St.out.2.2.2.2.2, by have := Hxl.out; omega⟩, St.out.1.mono (by have := Hxl.out; omega), St.out.2.2.1⟩)
    go_wp2_with fail
    go_ret
    exact ⟨_, rfl, P.out⟩
 ·have tz : (z == 0) = false := by simp [hz]
  have S3 := Lib.hid (show CsSt w0 g (N + 1 + 1 + 1) w _ [] w2 from ⟨S2.out.1.mono (by omega), S2.out.2⟩)
  clear hz z0 z1 S2
  go_wp2_with fail
  go_loopw [3, 5] (fun o i wr => ∃ (k : Nat) (xs : List CallV), (k : Int) ≤ n ∧ i = .int .i64 k ∧ xs.length = k ∧ CsSt w0 g (N + 3 + 9 * k) w o xs wr) (fun _ i _ => (n - intOf i).toNat)
  case atStart => exact ⟨0, [], n0, rfl, rfl, S3.out⟩
  case round =>
   obtain ⟨k, xs, hk, rfl, hxl, hst⟩ := hrel
   have St := Lib.hid hst
   have Hxl := Lib.hid hxl
   obtain ⟨ao, co, rfl, _, _, _⟩ := hst.2.1.rd.open
   have hlt2 := hst.1.lt
   clear hst hxl
   by_cases hlk : (k : Int) < n
   ·go_wp2_with fail
    refine (l93Call_any St.out.1 (by omega)).mono ?_; rintro e w5 ⟨v5, rfl, ⟨x, rfl, hx⟩, hd5, hg5⟩
    have S5 := Lib.hid (St.out.draw hd5 hg5)
    have Ef := Lib.hid (show callCells (xs ++ [x]) = callCells xs ++ callCs x by simp only [callCells, flat_append, flat_one])
    have o3 := S5.out.2.1
    have hsz := S5.out.2.2.1.size
    unfold OwnCalls at o3
    clear hd5 hg5
    have hOr := o3
    clear o3
    obtain ⟨xk, xe, xa, xb, xc, xn⟩ := x
    simp only [CallV.val, CallV.cells] at hOr hsz ⊢
    have hx12 : xs.length ≤ 12 := by have := Hxl.out; omega
    go_wp2_with (at_builtin; go_must (refine wp_append (lo := w.heap.size) (n := xs.length) (xs := callCells xs) (m := 1) (news := callCs ⟨xk, xe, xa, xb, xc, xn⟩) rfl rfl 60 _ 6 56 Tryz.underlying24 Tryz.infoCall rfl (by decide) rfl (ownsRow_below hOr (below1 _ _)) rfl (Rd.newsAt _ (CallV.mk xk xe xa xb xc xn).cells _ 6 1 _ (by simp [CallV.cells]) rfl (by simp [maxLen])) (by simp [callCs, CallV.cells, Value.oneCell']) (by unfold maxLen; omega) (by omega) (by simp at hsz ⊢; omega) ?_; intro o' w4 g1 g2 g3))
    go_roundw
    case rel =>
     refine ⟨k + 1, xs ++ [⟨xk, xe, xa, xb, xc, xn⟩], by omega, by go_num, by rw [List.length_append, Hxl.out]; rfl, ?_⟩
     refine cs_app (S5.out) hx ?_ g2 (fun q hq => (hOr.lt q hq).1) Hxl.out (by omega)
     unfold OwnCalls
     rw [List.length_append, Ef.out]
     exact g1
    case measure => simp [intOf]; omega
   ·have P := Lib.hid (show (∃ ys, OwnCalls w.heap.size wr (.slice ao xs.length co) ys ∧ (∀ x ∈ ys, x.nm.size ≤ 8) ∧ ys.length ≤ 13) ∧ Dr w0 g (N + 130) wr ∧ w.grownBy wr (some g) from ⟨⟨xs, St.out.2.1, St.out.2.2.2.2.2, by have := Hxl.out; omega⟩, St.out.1.mono (by have := Hxl.out; omega), St.out.2.2.1⟩)
    go_wp2_with fail
    go_ret
    exact ⟨_, rfl, P.out⟩
end Go.Proofs.YtjacdlekgdnndaaGreatDoor
set_option linter.unusedVariables false
namespace Go.Proofs.YtjacdlekgdnndaaGreatDoor
open Go.RowKit
def dCallsParseR (s : ByteArray) (g k lo : Nat) (ix : Nat) (vv : Value) (ww : World) : Prop := match ix with
 | 0 => vv = .string s
 | 1 => vv = .int .i64 k
 | 2 => vv = .string (s.extract 0 k)
 | 3 => vv = .pointer (some ⟨g, 0, none⟩)
 | 4 => ∃ q : Nat, vv = .slice (some ⟨q, 0, none⟩) 6 6 ∧ lo ≤ q ∧ ww.heap[q]? = some (.cells #[.string ⟨#[]⟩, .string ⟨#[32]⟩, .string ⟨#[48]⟩, .string ⟨#[59]⟩, .string ⟨#[47]⟩, .string ⟨#[97]⟩] 9 (0, 0))
 | 5 => ∃ t : ByteArray, vv = .string t ∧ t.size ≤ 1
 | 6 => ∃ t : ByteArray, vv = .string t ∧ t.size ≤ 500 + 1
 | 7 => vv = .string s
 | 8 => vv = .int .i64 k
 | 9 => vv = .pointer (some ⟨g, 0, none⟩)
 | 10 => ∃ x : Nat, vv = .int .i64 x ∧ x ≤ 1
 | 11 => ∃ x : Nat, vv = .int .i64 ((k : Int) + x) ∧ x ≤ 1
 | 12 => ∃ t : ByteArray, vv = .string t ∧ t.size ≤ 500
 | 13 => ∃ t : ByteArray, vv = .string t ∧ t.size ≤ 500 + 500 + 1
 | _ => True
theorem dCallsParseR_keep {s : ByteArray} {g k lo i : Nat} {v : Value} {w w' : World} (h : dCallsParseR s g k lo i v w) (hg : w.grownBy w' (some g)) (hlt : g < lo) : dCallsParseR s g k lo i v w' := by
 match i with
 | 4 => obtain ⟨q, e, h1, h2⟩ := h; exact ⟨q, e, h1, (hg.block q (ct_blk_lt h2) (by simp; omega)).trans h2⟩
 | 0 | 1 | 2 | 3 | 5 | 6 | 7 | 8 | 9 | 10 | 11 | 12 | 13 => exact h
 | _ + 14 => trivial
set_option maxRecDepth 100000 in
set_option maxHeartbeats 4000000 in
theorem DrawCallsParse_any (v : Value) (bs : List Int) (w : World) (h : RdBytes w v bs) :
 Calls Tryz.prog 7 #[v] w fun e w' => (∃ t : ByteArray, e = .returned (.string t) ∧ t.size ≤ 1200) ∧ Below w.heap.size w w' := by
 obtain ⟨a, c, hv, hc, hcm, _⟩ := h.open
 subst hv
 go_enter Tryz.func7, Tryz.ntmps7
 go_wp2_with fail
 refine (l6Open_any _ bs _ h).mono ?_; rintro e w1 ⟨R, rfl, hr, hb⟩
 obtain ⟨g, rfl, hd⟩ := Dr.of hr hb
 clear hr hb
 go_wp2_with fail
 refine (l93Calls_any hd (by omega)).mono ?_; rintro e w2 ⟨u, rfl, ⟨xs, ox, hx, hxl⟩, hd2, hg2⟩
 have R2 := ox.rd
 have T := Lib.hid (fun w' (hb : Below w2.heap.size w2 w') => CallsText_spec u xs w' (R2.below hb) (fun x hm => Nat.le_trans (hx x hm) (by decide)))
 have hsz : (callsB xs).size ≤ 500 := by
  unfold callsB
  split
  ·next hf =>
   have h1 := listFit_iff.1 hf
   have := pre_size h1.1
   omega
  ·exact Nat.zero_le _
 generalize callsB xs = s at T hsz
 obtain ⟨au, cu, rfl, _, _, _⟩ := ox.rd.open
 clear hd hg2 ox R2
 go_wp2_with fail
 refine (T.out _ (Below.refl _ _)).mono ?_; rintro e w3 ⟨rfl, b3⟩
 have hd3 := (hd2.below b3).mono (M := 198) (by omega)
 clear hd2 b3 T
 by_cases hz : s.size = 0
 ·have t0 : ¬ (0 : Int) < s.size := by omega
  have hsz0 := hsz
  clear hz
  go_wp2_with fail
  go_ret
  exact ⟨⟨s, rfl, by omega⟩, hd3.2.1⟩
 have t0 : (0 : Int) < s.size := by omega
 go_wp2_with fail
 refine (hd3.pick _ (by omega) (by decide)).mono ?_; rintro e w4 ⟨z, rfl, z0, z1, hd4, hg4⟩
 by_cases hz0 : z ≠ 0
 ·have tz : (z == 0) = false := by simp [hz0]
  go_wp2_with fail
  go_ret
  exact ⟨⟨s, rfl, by omega⟩, hd4.2.1⟩
 have tz : (z == 0) = true := by simp only [ne_eq, Decidable.not_not] at hz0; simp [hz0]
 clear z0 z1 hz0
 go_wp2_with fail
 refine (hd4.pick _ (by omega) (by omega)).mono ?_; rintro e w5 ⟨ki, rfl, k0, k1, hd5, hg5⟩
 replace k1 := k1 t0
 obtain ⟨k, rfl⟩ := Int.eq_ofNat_of_zero_le k0
 have hk : k < s.size := by omega
 clear hd3 hd4 hg4 hg5 k0 k1 tz t0 hz
 go_wp2_with fail
 have hlt := hd5.lt
 have hex : (s.extract 0 k).size ≤ 500 := by simp only [ByteArray.size_extract]; omega
 have C0 : ∀ L : Nat → Bool, ∀ i, i ≠ 5 → i ≠ 10 → drN (upd L i) = drN L := fun L i h1 h2 => by simp [drN, upd, Ne.symm h1, Ne.symm h2]
 have C5 : ∀ L : Nat → Bool, L 5 = false → drN (upd L 5) = drN L + 1 := fun L h => by simp [drN, upd, h]; omega
 have C10 : ∀ L : Nat → Bool, L 10 = false → drN (upd L 10) = drN L + 1 := fun L h => by simp [drN, upd, h]
 have C2 : ∀ L : Nat → Bool, drN L ≤ 2 := fun L => by unfold drN; split <;> split <;> omega
 have HC := Lib.hid (And.intro C0 (And.intro C5 (And.intro C10 C2)))
 clear C0 C5 C10 C2
 have Z := Lib.hid (fun (L : Nat → Bool) (W : World) (i : Nat) (h1 : i ≠ 5) (h2 : i ≠ 10) (h : Dr w g (200 + drN L) W ∧ w5.grownBy W (some g)) => (show Dr w g (200 + drN (upd L i)) W ∧ w5.grownBy W (some g) by rw [HC.out.1 L i h1 h2]; exact h))
 refine wp_region_posts 14 Tryz.mixed (by kernel_rfl) 38 rfl (by kernel_rfl) (dCallsParseR s g k w5.heap.size) (fun L W => Dr w g (200 + drN L) W ∧ w5.grownBy W (some g)) ⟨hd5.below (below_drewN (Below.refl _ _) 1), grown_below (below_drewN (Below.refl _ _) 1) _⟩ ?_ ?_
 ·intro i hi o ho a wx Hb Hd L HL hG K HK
  match i, hi with
  | 0, _ =>
   obtain rfl := Option.some.inj ho
   have e4 : a.tmps[4]?.getD undef = .string s := by rw [Hb.out.2.2 4 (by decide)]; rfl
   clear Hd Hb
   refine Does.of rfl ?_
   go_simp
   exact HK.out _ _ rfl (Z.out _ _ _ (by decide) (by decide) hG) (fun j u _ _ _ h => h)
  | 1, _ =>
   obtain rfl := Option.some.inj ho
   have e5 : a.tmps[5]?.getD undef = .int .i64 k := by rw [Hb.out.2.2 5 (by decide)]; rfl
   clear Hd Hb
   refine Does.of rfl ?_
   go_simp
   exact HK.out _ _ rfl (Z.out _ _ _ (by decide) (by decide) hG) (fun j u _ _ _ h => h)
  | 2, _ =>
   obtain rfl := Option.some.inj ho
   have d0 := Hd.out 0 (by kernel_rfl)
   change a.tmps[23]?.getD undef = .string s at d0
   have d1 := Hd.out 1 (by kernel_rfl)
   change a.tmps[24]?.getD undef = .int .i64 k at d1
   clear Hd Hb
   have i1 : (k : Int) ≤ s.size := by omega
   have i0 : (0 : Int) ≤ k := by omega
   refine Does.of rfl ?_
   go_simp
   exact HK.out _ _ rfl (Z.out _ _ _ (by decide) (by decide) hG) (fun j u _ _ _ h => h)
  | 3, _ =>
   obtain rfl := Option.some.inj ho
   have e3 : a.tmps[3]?.getD undef = .pointer (some ⟨g, 0, none⟩) := by rw [Hb.out.2.2 3 (by decide)]; rfl
   clear Hd Hb
   refine Does.of rfl ?_
   go_simp
   exact HK.out _ _ rfl (Z.out _ _ _ (by decide) (by decide) hG) (fun j u _ _ _ h => h)
  | 4, _ =>
   obtain rfl := Option.some.inj ho
   clear Hd Hb
   refine Does.of rfl ?_
   go_simp
   exact HK.out _ _ ⟨_, rfl, hG.2.size, heap_alloc_new _ _⟩ ⟨(Z.out _ _ 4 (by decide) (by decide) hG).1.alloc _, grown_alloc hG.2 _⟩ (fun j u _ _ _ h => dCallsParseR_keep h (grown_below (below1 _ _) _) hlt)
  | 5, _ =>
   obtain rfl := Option.some.inj ho
   have d3 := Hd.out 3 (by kernel_rfl)
   change a.tmps[26]?.getD undef = .pointer (some ⟨g, 0, none⟩) at d3
   have d4 := Hd.out 4 (by kernel_rfl)
   change ∃ q : Nat, a.tmps[27]?.getD undef = .slice (some ⟨q, 0, none⟩) 6 6 ∧ _ ≤ q ∧ _ at d4
   obtain ⟨q, d4, hq, hqb⟩ := d4
   clear Hd Hb
   refine Does.of rfl ?_
   go_simp
   refine (of_any q 6 [⟨#[]⟩, ⟨#[32]⟩, ⟨#[48]⟩, ⟨#[59]⟩, ⟨#[47]⟩, ⟨#[97]⟩] hG.1 (by have := HC.out.2.2.2 L; omega) rfl (by decide) (by decide) (by omega) (ct_blk_lt hqb) (fun j hj => ?_)).mono ?_
   ·rw [cell_of_row wx q j _ _ _ hqb]
    have := nthS_lt (ss := [⟨#[]⟩, ⟨#[32]⟩, ⟨#[48]⟩, ⟨#[59]⟩, ⟨#[47]⟩, ⟨#[97]⟩]) hj
    match j, hj with
    | 0, _ => rfl
    | 1, _ => rfl
    | 2, _ => rfl
    | 3, _ => rfl
    | 4, _ => rfl
    | 5, _ => rfl
   ·rintro e w6 ⟨v6, rfl, ⟨s6, hs6, rfl⟩, hd6, hg6⟩
    exact HK.out _ _ ⟨s6, rfl, by simp only [List.mem_cons, List.not_mem_nil, or_false] at hs6; rcases hs6 with rfl | rfl | rfl | rfl | rfl | rfl <;> decide⟩ ⟨by rw [HC.out.2.1 L HL.out.1]; exact hd6, grown_trans hG.2 hg6⟩ (fun j u _ _ _ h => dCallsParseR_keep h hg6 hlt)
  | 6, _ =>
   obtain rfl := Option.some.inj ho
   have d2 := Hd.out 2 (by kernel_rfl)
   change a.tmps[25]?.getD undef = .string (s.extract 0 k) at d2
   have d5 := Hd.out 5 (by kernel_rfl)
   change ∃ t : ByteArray, a.tmps[28]?.getD undef = .string t ∧ _ at d5
   obtain ⟨t5, d5, h5⟩ := d5
   clear Hd Hb
   have n1 : ¬ 9223372036854775807 < min k s.size + t5.size := by omega
   refine Does.of rfl ?_
   go_simp
   exact HK.out _ _ ⟨s.extract 0 k ++ t5, rfl, by rw [ByteArray.size_append]; omega⟩ (Z.out _ _ _ (by decide) (by decide) hG) (fun j u _ _ _ h => h)
  | 7, _ =>
   obtain rfl := Option.some.inj ho
   have e4 : a.tmps[4]?.getD undef = .string s := by rw [Hb.out.2.2 4 (by decide)]; rfl
   clear Hd Hb
   refine Does.of rfl ?_
   go_simp
   exact HK.out _ _ rfl (Z.out _ _ _ (by decide) (by decide) hG) (fun j u _ _ _ h => h)
  | 8, _ =>
   obtain rfl := Option.some.inj ho
   have e5 : a.tmps[5]?.getD undef = .int .i64 k := by rw [Hb.out.2.2 5 (by decide)]; rfl
   clear Hd Hb
   refine Does.of rfl ?_
   go_simp
   exact HK.out _ _ rfl (Z.out _ _ _ (by decide) (by decide) hG) (fun j u _ _ _ h => h)
  | 9, _ =>
   obtain rfl := Option.some.inj ho
   have e3 : a.tmps[3]?.getD undef = .pointer (some ⟨g, 0, none⟩) := by rw [Hb.out.2.2 3 (by decide)]; rfl
   clear Hd Hb
   refine Does.of rfl ?_
   go_simp
   exact HK.out _ _ rfl (Z.out _ _ _ (by decide) (by decide) hG) (fun j u _ _ _ h => h)
  | 10, _ =>
   obtain rfl := Option.some.inj ho
   have d9 := Hd.out 9 (by kernel_rfl)
   change a.tmps[32]?.getD undef = .pointer (some ⟨g, 0, none⟩) at d9
   clear Hd Hb
   refine Does.of rfl ?_
   go_simp
   refine (hG.1.pick _ (by have := HC.out.2.2.2 L; omega) (by decide)).mono ?_; rintro e w6 ⟨x, rfl, x0, x1, hd6, hg6⟩
   replace x1 := x1 (by decide)
   obtain ⟨x, rfl⟩ := Int.eq_ofNat_of_zero_le x0
   exact HK.out _ _ ⟨x, rfl, by omega⟩ ⟨by rw [HC.out.2.2.1 L HL.out.1]; exact hd6, grown_trans hG.2 hg6⟩ (fun j u _ _ _ h => dCallsParseR_keep h hg6 hlt)
  | 11, _ =>
   obtain rfl := Option.some.inj ho
   have d8 := Hd.out 8 (by kernel_rfl)
   change a.tmps[31]?.getD undef = .int .i64 k at d8
   have d10 := Hd.out 10 (by kernel_rfl)
   change ∃ x : Nat, a.tmps[33]?.getD undef = .int .i64 x ∧ _ at d10
   obtain ⟨x10, d10, h10⟩ := d10
   clear Hd Hb
   have w1 : IntKind.i64.wrap ((k : Int) + x10) = (k : Int) + x10 := IntWalk.i64_in _ (by omega)
   refine Does.of rfl ?_
   go_simp
   exact HK.out _ _ ⟨x10, rfl, h10⟩ (Z.out _ _ _ (by decide) (by decide) hG) (fun j u _ _ _ h => h)
  | 12, _ =>
   obtain rfl := Option.some.inj ho
   have d7 := Hd.out 7 (by kernel_rfl)
   change a.tmps[30]?.getD undef = .string s at d7
   have d11 := Hd.out 11 (by kernel_rfl)
   change ∃ x : Nat, a.tmps[34]?.getD undef = .int .i64 ((k : Int) + x) ∧ _ at d11
   obtain ⟨x11, d11, h11⟩ := d11
   clear Hd Hb
   have i1 : (0 : Int) ≤ (k : Int) + x11 := by omega
   have i2 : (k : Int) + x11 ≤ s.size := by omega
   refine Does.of rfl ?_
   go_simp
   exact HK.out _ _ ⟨_, rfl, by simp only [ByteArray.size_extract]; omega⟩ (Z.out _ _ _ (by decide) (by decide) hG) (fun j u _ _ _ h => h)
  | 13, _ =>
   obtain rfl := Option.some.inj ho
   have d6 := Hd.out 6 (by kernel_rfl)
   change ∃ t : ByteArray, a.tmps[29]?.getD undef = .string t ∧ _ at d6
   obtain ⟨t6, d6, h6⟩ := d6
   have d12 := Hd.out 12 (by kernel_rfl)
   change ∃ t : ByteArray, a.tmps[35]?.getD undef = .string t ∧ _ at d12
   obtain ⟨t12, d12, h12⟩ := d12
   clear Hd Hb
   have n1 : ¬ 9223372036854775807 < t6.size + t12.size := by omega
   refine Does.of rfl ?_
   go_simp
   exact HK.out _ _ ⟨t6 ++ t12, rfl, by rw [ByteArray.size_append]; omega⟩ (Z.out _ _ _ (by decide) (by decide) hG) (fun j u _ _ _ h => h)
 ·intro vs wx hR L hL hG
  have q13 := hR 13 (by decide)
  change ∃ t : ByteArray, vs 13 = .string t ∧ _ at q13
  obtain ⟨t13, q13, h13⟩ := q13
  clear hR
  simp only [fillAt, dstOf, List.range, List.range.loop, List.foldl_cons, List.foldl_nil, q13]
  simp
  generalize vs 0 = y0
  generalize vs 1 = y1
  generalize vs 2 = y2
  generalize vs 3 = y3
  generalize vs 4 = y4
  generalize vs 5 = y5
  generalize vs 6 = y6
  generalize vs 7 = y7
  generalize vs 8 = y8
  generalize vs 9 = y9
  generalize vs 10 = y10
  generalize vs 11 = y11
  generalize vs 12 = y12
  have B := Lib.hid hG.1.2.1
  clear hG q13 Z HC
  go_wp2_with fail
  go_ret
  exact ⟨⟨t13, rfl, by omega⟩, B.out⟩
end Go.Proofs.YtjacdlekgdnndaaGreatDoor
set_option linter.unusedVariables false
namespace Go.Proofs.YtjacdlekgdnndaaGreatDoor
open Go.RowKit
def infoCs (x : InfoV) : List Value := [.int .i64 x.k, .string x.g, .int .i64 x.r]
theorem infoCs_len (x : InfoV) : (infoCs x).length = 3 := rfl
def InfoV.val (x : InfoV) : Value := .agg #[.int .i64 x.k, .string x.g, .int .i64 x.r]
def cachedCs (x : CachedV) : List Value := [.int .i64 x.e, .int .i64 x.p, .int .i64 x.f, .bool x.w]
theorem cachedCs_len (x : CachedV) : (cachedCs x).length = 4 := rfl
def CachedV.val (x : CachedV) : Value := .agg #[.int .i64 x.e, .int .i64 x.p, .int .i64 x.f, .bool x.w]
def strCs (s : ByteArray) : List Value := [.string s]
theorem strCs_len (s : ByteArray) : (strCs s).length = 1 := rfl
def oneCs (v : Value) : List Value := [v]
theorem oneCs_len (v : Value) : (oneCs v).length = 1 := rfl
def pairCs (p : Value × Int) : List Value := [p.1, .int .i64 p.2]
theorem pairCs_len (p : Value × Int) : (pairCs p).length = 2 := rfl
def RdF {α : Type} (sz : Nat) (cs : α → List Value) (w : World) (v : Value) (xs : List α) : Prop := Rd w v sz xs.length (flat cs xs)
def OwnF {α : Type} (lo e sz : Nat) (cs : α → List Value) (w : World) (v : Value) (xs : List α) : Prop := w.ownsRow lo e sz v xs.length (flat cs xs)
section
variable {α : Type} {sz lo e : Nat} {cs : α → List Value} {w w' : World} {v : Value} {xs : List α}
theorem RdF.below (h : RdF sz cs w v xs) (hb : Below w.heap.size w w') : RdF sz cs w' v xs := Rd.below h hb
theorem OwnF.rd (h : OwnF lo e sz cs w v xs) : RdF sz cs w v xs := Rd.of_owns h
theorem OwnF.below (h : OwnF lo e sz cs w v xs) (hb : Below w.heap.size w w') : OwnF lo e sz cs w' v xs := ownsRow_below h hb
theorem OwnF.grown {row : Option Nat} (h : OwnF lo e sz cs w v xs) (hg : w.grownBy w' row) (hne : v.ownBlock = none ∨ v.ownBlock ≠ row) : OwnF lo e sz cs w' v xs := own_grown h hg hne
theorem OwnF.lower {lo' : Nat} (h : OwnF lo e sz cs w v xs) (hl : lo' ≤ lo) : OwnF lo' e sz cs w v xs := own_loV h hl
theorem RdF.shape (h : RdF sz cs w v xs) : ∃ a cap, v = .slice a xs.length cap ∧ xs.length ≤ cap ∧ cap ≤ maxLen := Rd.shape h
theorem RdF.open (hs : ∀ x, (cs x).length = sz) (hsz : 0 < sz) (h : RdF sz cs w v xs) : ∃ a cap, v = .slice a xs.length cap ∧ xs.length ≤ cap ∧ cap ≤ maxLen ∧ AtF sz cs w a xs := by
 obtain ⟨a, cap, rfl, h1, h2⟩ := Rd.shape h
 exact ⟨a, cap, rfl, h1, h2, AtF.of hs hsz h⟩
end
abbrev RdInfos (w : World) (v : Value) (xs : List InfoV) : Prop := RdF 3 infoCs w v xs
abbrev RdCache (w : World) (v : Value) (xs : List CachedV) : Prop := RdF 4 cachedCs w v xs
abbrev RdStrs (w : World) (v : Value) (xs : List ByteArray) : Prop := RdF 1 strCs w v xs
def Both {α β : Type} (R : α → β → Prop) (xs : List α) (ys : List β) : Prop := xs.length = ys.length ∧ ∀ (i : Nat) x y, xs[i]? = some x → ys[i]? = some y → R x y
theorem Both.mono {α β : Type} {R S : α → β → Prop} {xs : List α} {ys : List β} (h : Both R xs ys) (hRS : ∀ x y, R x y → S x y) : Both S xs ys := ⟨h.1, fun i x y hx hy => hRS _ _ (h.2 i x y hx hy)⟩
theorem Both.nil {α β : Type} {R : α → β → Prop} : Both R [] [] := ⟨rfl, fun i x y h => by simp at h⟩
theorem Both.snoc {α β : Type} {R : α → β → Prop} {xs : List α} {ys : List β} {x : α} {y : β} (h : Both R xs ys) (hxy : R x y) : Both R (xs ++ [x]) (ys ++ [y]) := by
 refine ⟨by simp [h.1], fun i a b ha hb => ?_⟩
 by_cases hi : i < xs.length
 ·rw [List.getElem?_append_left hi] at ha
  rw [List.getElem?_append_left (by rw [← h.1]; exact hi)] at hb
  exact h.2 i a b ha hb
 ·have h1 := (List.getElem?_eq_some_iff.1 ha).1
  simp at h1
  obtain rfl : i = xs.length := by omega
  simp at ha
  rw [h.1] at hb
  simp at hb
  subst ha hb
  exact hxy
def RdRows (w : World) (v : Value) (xss : List (List Int)) : Prop := ∃ vs, RdF 1 oneCs w v vs ∧ Both (RdInts w) vs xss
def RdTexts (w : World) (v : Value) (tss : List (List ByteArray)) : Prop := ∃ vs, RdF 1 oneCs w v vs ∧ Both (RdStrs w) vs tss
def RdEnvs (w : World) (v : Value) (es : List EnvV) : Prop := ∃ ps, RdF 2 pairCs w v ps ∧ Both (fun p e => RdStrs w p.1 e.rights ∧ p.2 = e.root) ps es
def RdK (w : World) (m i e c : Value) (k : KernV) : Prop := RdRows w m k.mem ∧ RdInfos w i k.infos ∧ RdEnvs w e k.envs ∧ RdCache w c k.cache
section
variable {w w' : World} {v : Value}
theorem RdRows.below {xss : List (List Int)} (h : RdRows w v xss) (hb : Below w.heap.size w w') : RdRows w' v xss := by
 obtain ⟨vs, h1, h2⟩ := h
 exact ⟨vs, h1.below hb, h2.mono fun _ _ h => RdInts.below h hb⟩
theorem RdTexts.below {tss : List (List ByteArray)} (h : RdTexts w v tss) (hb : Below w.heap.size w w') : RdTexts w' v tss := by
 obtain ⟨vs, h1, h2⟩ := h
 exact ⟨vs, h1.below hb, h2.mono fun _ _ h => RdF.below h hb⟩
theorem RdEnvs.below {es : List EnvV} (h : RdEnvs w v es) (hb : Below w.heap.size w w') : RdEnvs w' v es := by
 obtain ⟨ps, h1, h2⟩ := h
 exact ⟨ps, h1.below hb, h2.mono fun _ _ h => ⟨RdF.below h.1 hb, h.2⟩⟩
theorem RdK.below {m i e c : Value} {k : KernV} (h : RdK w m i e c k) (hb : Below w.heap.size w w') : RdK w' m i e c k := ⟨h.1.below hb, h.2.1.below hb, h.2.2.1.below hb, h.2.2.2.below hb⟩
end
def AllApart (vs : List Value) : Prop := ∀ (i j : Nat) u u', i ≠ j → vs[i]? = some u → vs[j]? = some u' → Apart u u'
theorem AllApart.nil : AllApart [] := fun i j u u' _ h => by simp at h
theorem AllApart.snoc {vs : List Value} {v : Value} (h : AllApart vs) (hv : ∀ u ∈ vs, Apart u v) : AllApart (vs ++ [v]) := by
 intro i j u u' hij hi hj
 have h1 := (List.getElem?_eq_some_iff.1 hi).1
 have h2 := (List.getElem?_eq_some_iff.1 hj).1
 simp at h1 h2
 by_cases hi' : i < vs.length
 ·rw [List.getElem?_append_left hi'] at hi
  by_cases hj' : j < vs.length
  ·rw [List.getElem?_append_left hj'] at hj
   exact h i j u u' hij hi hj
  ·obtain rfl : j = vs.length := by omega
   simp at hj
   subst hj
   exact hv u (List.mem_of_getElem? hi)
 ·obtain rfl : i = vs.length := by omega
  simp at hi
  subst hi
  rw [List.getElem?_append_left (by omega)] at hj
  exact (hv u' (List.mem_of_getElem? hj)).symm
def OwnRows (lo : Nat) (w : World) (v : Value) (vs : List Value) (xss : List (List Int)) : Prop := OwnF lo 38 1 oneCs w v vs ∧ Both (OwnInts lo w) vs xss ∧ AllApart vs
def OwnEnvs (lo : Nat) (w : World) (v : Value) (ps : List (Value × Int)) (es : List EnvV) : Prop := OwnF lo 80 2 pairCs w v ps ∧ Both (fun p e => OwnF lo 9 1 strCs w p.1 e.rights ∧ p.2 = e.root) ps es ∧ AllApart (ps.map (·.1))
theorem OwnRows.rd {lo : Nat} {w : World} {v : Value} {vs : List Value} {xss : List (List Int)} (h : OwnRows lo w v vs xss) : RdRows w v xss := ⟨vs, h.1.rd, h.2.1.mono fun _ _ h => OwnInts.rd h⟩
theorem OwnEnvs.rd {lo : Nat} {w : World} {v : Value} {ps : List (Value × Int)} {es : List EnvV} (h : OwnEnvs lo w v ps es) : RdEnvs w v es := ⟨ps, h.1.rd, h.2.1.mono fun _ _ h => ⟨h.1.rd, h.2⟩⟩
theorem OwnRows.below {lo : Nat} {w w' : World} {v : Value} {vs : List Value} {xss : List (List Int)} (h : OwnRows lo w v vs xss) (hb : Below w.heap.size w w') : OwnRows lo w' v vs xss := ⟨h.1.below hb, h.2.1.mono fun _ _ h => OwnInts.below h hb, h.2.2⟩
theorem OwnEnvs.below {lo : Nat} {w w' : World} {v : Value} {ps : List (Value × Int)} {es : List EnvV} (h : OwnEnvs lo w v ps es) (hb : Below w.heap.size w w') : OwnEnvs lo w' v ps es := ⟨h.1.below hb, h.2.1.mono fun _ _ h => ⟨h.1.below hb, h.2⟩, h.2.2⟩
theorem OwnRows.lower {lo lo' : Nat} {w : World} {v : Value} {vs : List Value} {xss : List (List Int)} (h : OwnRows lo w v vs xss) (hl : lo' ≤ lo) : OwnRows lo' w v vs xss := ⟨h.1.lower hl, h.2.1.mono fun _ _ h => own_loV h hl, h.2.2⟩
theorem OwnEnvs.lower {lo lo' : Nat} {w : World} {v : Value} {ps : List (Value × Int)} {es : List EnvV} (h : OwnEnvs lo w v ps es) (hl : lo' ≤ lo) : OwnEnvs lo' w v ps es := ⟨h.1.lower hl, h.2.1.mono fun _ _ h => ⟨h.1.lower hl, h.2⟩, h.2.2⟩
def OwnK (lo : Nat) (w : World) (m i e c : Value) (k : KernV) : Prop :=
 (∃ vs, OwnRows lo w m vs k.mem) ∧ OwnF lo 89 3 infoCs w i k.infos ∧ (∃ ps, OwnEnvs lo w e ps k.envs) ∧ OwnF lo 94 4 cachedCs w c k.cache
theorem OwnK.rd {lo : Nat} {w : World} {m i e c : Value} {k : KernV} (h : OwnK lo w m i e c k) : RdK w m i e c k := ⟨h.1.choose_spec.rd, h.2.1.rd, h.2.2.1.choose_spec.rd, h.2.2.2.rd⟩
theorem OwnK.below {lo : Nat} {w w' : World} {m i e c : Value} {k : KernV} (h : OwnK lo w m i e c k) (hb : Below w.heap.size w w') : OwnK lo w' m i e c k :=
 ⟨⟨_, h.1.choose_spec.below hb⟩, h.2.1.below hb, ⟨_, h.2.2.1.choose_spec.below hb⟩, h.2.2.2.below hb⟩
theorem own_type {w : World} {lo e sz n : Nat} {v : Value} {xs : List Value} (h : w.ownsRow lo e sz v n xs) : ∀ g, v.ownBlock = some g → ∃ cur, w.heap[g]? = some (.cells cur e (0, 0)) := by
 intro g hg
 rcases h.2 with ⟨rfl, _⟩ | ⟨g', cap, cur, rfl, _, hh, _⟩
 ·simp [Value.ownBlock] at hg
 ·simp [Value.ownBlock] at hg
  subst hg
  exact ⟨cur, hh⟩
theorem apart_type {w : World} {lo lo' e e' sz sz' n n' : Nat} {v v' : Value} {xs xs' : List Value} (h : w.ownsRow lo e sz v n xs) (h' : w.ownsRow lo' e' sz' v' n' xs') (hne : e ≠ e') : Apart v v' := by
 intro g hg hg'
 obtain ⟨c1, h1⟩ := own_type h g hg
 obtain ⟨c2, h2⟩ := own_type h' g hg'
 rw [h1] at h2
 simp at h2
 exact hne h2.2
theorem blk_cells4 {w : World} {g t : Nat} {m i e c : Value} (h : w.heap[g]? = some (.cells #[m, i, e, c] t (0, 0))) : w.cell? ⟨g, 0, none⟩ = some m ∧ w.cell? ⟨g, 1, none⟩ = some i ∧ w.cell? ⟨g, 2, none⟩ = some e ∧ w.cell? ⟨g, 3, none⟩ = some c :=
 ⟨cell_of_row w g 0 _ _ _ h, cell_of_row w g 1 _ _ _ h, cell_of_row w g 2 _ _ _ h, cell_of_row w g 3 _ _ _ h⟩
theorem blk_frozen {w : World} {g t : Nat} {cs : Array Value} (h : w.heap[g]? = some (.cells cs t (0, 0))) : ∀ j, w.frozen? ⟨g, j, none⟩ = false := fun j => frozen_of_row w g j _ _ h
theorem blk_lt {w : World} {g : Nat} {o : Obj} (h : w.heap[g]? = some o) : g < w.heap.size := (Array.getElem?_eq_some_iff.1 h).1
theorem blk_below {w w' : World} {g : Nat} {o : Obj} (h : w.heap[g]? = some o) (hb : Below w.heap.size w w') : w'.heap[g]? = some o := (hb.block g (blk_lt h)).trans h
theorem blk_set4 {w : World} {g t : Nat} {m i e c m' i' e' c' : Value} (h : w.heap[g]? = some (.cells #[m, i, e, c] t (0, 0))) :
 ((((w.setCell ⟨g, 0, none⟩ m').setCell ⟨g, 1, none⟩ i').setCell ⟨g, 2, none⟩ e').setCell ⟨g, 3, none⟩ c').heap[g]? = some (.cells #[m', i', e', c'] t (0, 0)) := by
 have h0 := heap_setCell_same w g 0 _ t m' h
 have h1 := heap_setCell_same _ g 1 _ t i' h0
 have h2 := heap_setCell_same _ g 2 _ t e' h1
 have h3 := heap_setCell_same _ g 3 _ t c' h2
 simpa using h3
theorem own_far {w w' : World} {lo e sz n g T : Nat} {v : Value} {xs : List Value} {cur : Array Value} {fr : Nat × Nat} (h : w.ownsRow lo e sz v n xs) (hg : w.grownBy w' (some g)) (hb : w.heap[g]? = some (.cells cur T fr)) (hne : e ≠ T) : w'.ownsRow lo e sz v n xs := by
 refine own_grown h hg ?_
 cases hv : v.ownBlock with
 | none => exact .inl rfl
 | some k =>
  refine .inr fun he => ?_
  simp only [Option.some.injEq] at he
  subst he
  obtain ⟨c1, h1⟩ := own_type h k hv
  rw [h1] at hb
  simp at hb
  exact hne hb.2.1
section
variable {w w' : World} {lo g T : Nat} {v : Value} {cur : Array Value} {fr : Nat × Nat}
theorem OwnF.far {α : Type} {e sz : Nat} {cs : α → List Value} {xs : List α} (h : OwnF lo e sz cs w v xs) (hg : w.grownBy w' (some g)) (hb : w.heap[g]? = some (.cells cur T fr)) (hne : e ≠ T) : OwnF lo e sz cs w' v xs := own_far h hg hb hne
theorem OwnRows.far {vs : List Value} {xss : List (List Int)} (h : OwnRows lo w v vs xss) (hg : w.grownBy w' (some g)) (hb : w.heap[g]? = some (.cells cur T fr)) (h1 : 38 ≠ T) (h2 : 3 ≠ T) : OwnRows lo w' v vs xss :=
 ⟨h.1.far hg hb h1, h.2.1.mono fun _ _ h => own_far h hg hb h2, h.2.2⟩
theorem OwnEnvs.far {ps : List (Value × Int)} {es : List EnvV} (h : OwnEnvs lo w v ps es) (hg : w.grownBy w' (some g)) (hb : w.heap[g]? = some (.cells cur T fr)) (h1 : 80 ≠ T) (h2 : 9 ≠ T) : OwnEnvs lo w' v ps es :=
 ⟨h.1.far hg hb h1, h.2.1.mono fun _ _ h => ⟨h.1.far hg hb h2, h.2⟩, h.2.2⟩
end
theorem OwnRows.kept {w w' : World} {lo lo' e sz n : Nat} {v u : Value} {vs xs : List Value} {xss : List (List Int)} (h : OwnRows lo w v vs xss) (hg : w.grownBy w' u.ownBlock) (hu : w.ownsRow lo' e sz u n xs) (h1 : 38 ≠ e) (h2 : 3 ≠ e) : OwnRows lo w' v vs xss :=
 ⟨own_grown h.1 hg (apart_type h.1 hu h1).ne, h.2.1.mono fun _ _ h => own_grown h hg (apart_type h hu h2).ne, h.2.2⟩
theorem grown_set (w : World) (g j : Nat) (u : Value) : w.grownBy (w.setCell ⟨g, j, none⟩ u) (some g) := ⟨rfl, rfl, rfl, by simp, fun k _ hk => heap_setCell_other w ⟨g, j, none⟩ k u (fun e => hk (by simp [e]))⟩
theorem grown_set' {w0 w : World} {g : Nat} (h : w0.grownBy w (some g)) (j : Nat) (u : Value) : w0.grownBy (w.setCell ⟨g, j, none⟩ u) (some g) := grown_trans h (grown_set w g j u)
end Go.Proofs.YtjacdlekgdnndaaGreatDoor
set_option linter.unusedVariables false
set_option linter.unusedSimpArgs false
namespace Go.Proofs.YtjacdlekgdnndaaGreatDoor
section
variable {α : Type}
theorem getD_lt {l : List α} {i : Nat} {d : α} (h : i < l.length) : l[i]? = some (l.getD i d) := by simp [h]
theorem getD_mem {l : List α} {i : Nat} {d : α} (h : i < l.length) : l.getD i d ∈ l := List.mem_of_getElem? (getD_lt h)
theorem mem_getD {l : List α} {x d : α} (h : x ∈ l) : ∃ i, i < l.length ∧ l.getD i d = x := by
 obtain ⟨i, hi, rfl⟩ := List.getElem_of_mem h
 exact ⟨i, hi, by simp [hi]⟩
theorem getD_set {l : List α} {i j : Nat} {x d : α} : (l.set i x).getD j d = if j = i ∧ i < l.length then x else l.getD j d := by
 simp only [List.getD_eq_getElem?_getD, List.getElem?_set]
 by_cases h : i = j
 ·subst h
  by_cases h2 : i < l.length
  ·simp [h2]
  ·simp [h2]
 ·have h' : ¬ j = i := fun e => h e.symm
  simp [h, h']
theorem modAt_len {l : List α} {i : Nat} {f : α → α} : (modAt l i f).length = l.length := by
 unfold modAt
 split <;> simp
theorem modAt_getD {l : List α} {i j : Nat} {f : α → α} {d : α} : (modAt l i f).getD j d = if j = i ∧ i < l.length then f (l.getD i d) else l.getD j d := by
 unfold modAt
 split
 ·rename_i x hx
  have hi := (List.getElem?_eq_some_iff.1 hx).1
  rw [getD_set]
  have : l.getD i d = x := by simp [hx]
  rw [this]
 ·rename_i hx
  have hi : ¬ i < l.length := by simpa using hx
  simp [hi]
theorem modAt_set {l : List α} {i : Nat} {f : α → α} {d : α} : modAt l i f = l.set i (f (l.getD i d)) := by
 unfold modAt
 split
 ·rename_i x hx
  simp [hx]
 ·rename_i hx
  have hi : l.length ≤ i := by simpa using hx
  rw [List.set_eq_of_length_le hi]
theorem range_all {n : Nat} {p : Nat → Bool} : (List.range n).all p = true ↔ ∀ i, i < n → p i = true := by simp [List.all_eq_true]
theorem any_mem {l : List α} {p : α → Bool} : l.any p = true ↔ ∃ x ∈ l, p x = true := by simp
end
theorem sum_congr {F G : Nat → Nat} {n : Nat} (h : ∀ t, t < n → F t = G t) : ((List.range n).map F).sum = ((List.range n).map G).sum := by
 induction n with
 | zero => rfl
 | succ n ih =>
  rw [List.range_succ, List.map_append, List.map_append, List.sum_append, List.sum_append, ih (fun t ht => h t (by omega))]
  simp [h n (by omega)]
theorem sum_one {F G : Nat → Nat} {n f : Nat} (hf : f < n) (h : ∀ t, t < n → t ≠ f → F t = G t) : ((List.range n).map F).sum + G f = ((List.range n).map G).sum + F f := by
 induction n with
 | zero => omega
 | succ n ih =>
  rw [List.range_succ, List.map_append, List.map_append, List.sum_append, List.sum_append]
  simp only [List.map_cons, List.map_nil, List.sum_cons, List.sum_nil, Nat.add_zero]
  by_cases hn : f = n
  ·subst hn
   rw [sum_congr (fun t ht => h t (by omega) (by omega))]
   omega
  ·have := ih (by omega) (fun t ht hne => h t (by omega) hne)
   have := h n (by omega) (by omega)
   omega
theorem sum_zero {F : Nat → Nat} {n : Nat} : ((List.range n).map F).sum = 0 ↔ ∀ t, t < n → F t = 0 := by
 induction n with
 | zero => simp
 | succ n ih =>
  rw [List.range_succ, List.map_append, List.sum_append]
  simp only [List.map_cons, List.map_nil, List.sum_cons, List.sum_nil, Nat.add_zero]
  constructor
  ·intro h t ht
   by_cases e : t = n
   ·subst e; omega
   ·exact ih.1 (by omega) t (by omega)
  ·intro h
   rw [ih.2 (fun t ht => h t (by omega)), h n (by omega)]
theorem sum_le {F : Nat → Nat} {n c : Nat} (h : ∀ t, t < n → F t ≤ c) : ((List.range n).map F).sum ≤ c * n := by
 induction n with
 | zero => simp
 | succ n ih =>
  rw [List.range_succ, List.map_append, List.sum_append, Nat.mul_succ]
  simp only [List.map_cons, List.map_nil, List.sum_cons, List.sum_nil, Nat.add_zero]
  have := ih (fun t ht => h t (by omega))
  have := h n (by omega)
  omega
theorem sum_le_but {F : Nat → Nat} {n c g : Nat} (hg : g < n) (h : ∀ t, t < n → F t ≤ c) (h0 : F g = 0) : ((List.range n).map F).sum + c ≤ c * n := by
 have h1 := sum_one (F := F) (G := fun t => if t = g then c else F t) hg (fun t ht hne => by simp [hne])
 have h2 := sum_le (F := fun t => if t = g then c else F t) (n := n) (c := c) (fun t ht => by
  by_cases e : t = g
  ·simp [e]
  ·simp only [e, if_false]; exact h t ht)
 simp only [if_true, h0] at h1
 omega
theorem entF_lt {w : Int} (h : entG w = true) : entF w < 12 := by
 simp only [entG, Bool.and_eq_true, decide_eq_true_eq] at h
 unfold entF
 omega
theorem named_mem {r : List Int} {g : Nat} : g ∈ named r ↔ ∃ w ∈ r, entG w = true ∧ entF w = g := by
 simp [named, and_assoc]
theorem named_lt {r : List Int} {g : Nat} (h : g ∈ named r) : g < 12 := by
 obtain ⟨w, _, hw, rfl⟩ := named_mem.1 h
 exact entF_lt hw
def names (g : Nat) (w : Int) : Bool := entG w && decide (entF w = g)
theorem named_count {r : List Int} {g : Nat} : (named r).count g = r.countP (names g) := by
 unfold named
 induction r with
 | nil => rfl
 | cons w r ih =>
  rw [List.filter_cons]
  cases hw : entG w
  ·rw [if_neg (by simp), ih, List.countP_cons]
   simp [names, hw]
  ·rw [if_pos rfl, List.map_cons, List.count_cons, ih, List.countP_cons]
   by_cases h : entF w = g <;> simp [names, hw, h]
theorem named_len {r : List Int} : (named r).length ≤ r.length := by
 unfold named
 rw [List.length_map]
 exact List.length_filter_le _ _
def b2n (b : Bool) : Nat := if b then 1 else 0
theorem countP_set' {p : Int → Bool} {r : List Int} {b : Nat} {w : Int} (hb : b < r.length) : (r.set b w).countP p + b2n (p (r.getD b 0)) = r.countP p + b2n (p w) := by
 induction r generalizing b with
 | nil => simp at hb
 | cons x r ih =>
  cases b with
  | zero =>
   simp only [List.set_cons_zero, List.countP_cons, List.getD_cons_zero, b2n]
   omega
  | succ b =>
   simp only [List.set_cons_succ, List.countP_cons, List.getD_cons_succ]
   have := ih (b := b) (by simpa using hb)
   omega
theorem named_set {r : List Int} {b g : Nat} {w : Int} (hb : b < r.length) : (named (r.set b w)).count g + b2n (names g (r.getD b 0)) = (named r).count g + b2n (names g w) := by
 rw [named_count, named_count]
 exact countP_set' hb
theorem named_set_mem {r : List Int} {b g : Nat} {w : Int} (h : g ∈ named (r.set b w)) : g ∈ named r ∨ (entG w = true ∧ entF w = g) := by
 obtain ⟨x, hx, h1, h2⟩ := named_mem.1 h
 rcases List.mem_or_eq_of_mem_set hx with hx | rfl
 ·exact .inl (named_mem.2 ⟨x, hx, h1, h2⟩)
 ·exact .inr ⟨h1, h2⟩
theorem reach_mem {m : List (List Int)} {root : Int} {f : Nat} : f ∈ reachL m root ↔ 0 ≤ root ∧ (f = root.toNat ∨ f ∈ named (rowAt m root.toNat) ∨ ∃ t, t ∈ named (rowAt m root.toNat) ∧ f ∈ named (rowAt m t)) := by
 unfold reachL
 split
 ·simp; omega
 ·simp; omega
theorem reach_congr {m m' : List (List Int)} {root : Int} (h0 : 0 ≤ root → rowAt m' root.toNat = rowAt m root.toNat) (h1 : 0 ≤ root → ∀ t, t ∈ named (rowAt m root.toNat) → rowAt m' t = rowAt m t) (f : Nat) : f ∈ reachL m' root ↔ f ∈ reachL m root := by
 rw [reach_mem, reach_mem]
 by_cases hr : 0 ≤ root
 ·rw [h0 hr]
  simp only [hr, true_and]
  refine or_congr Iff.rfl (or_congr Iff.rfl (exists_congr fun t => ?_))
  constructor
  ·rintro ⟨a, b⟩; exact ⟨a, by rw [← h1 hr t a]; exact b⟩
  ·rintro ⟨a, b⟩; exact ⟨a, by rw [h1 hr t a]; exact b⟩
 ·simp [hr]
theorem allowed_iff {infos : List InfoV} {fs : List Nat} {rights : List ByteArray} : allowedP infos fs rights = true ↔ ∀ f, f ∈ fs → mayP rights (infoAt infos f).g = true := by simp [allowedP, List.all_eq_true]
theorem walk_congr {m m' : List (List Int)} {root a : Nat} (h0 : rowAt m' root = rowAt m root) (h1 : ∀ t, t ∈ named (rowAt m root) → rowAt m' t = rowAt m t) : walkP m' root a = walkP m root a := by
 have e0 : wdAt m' root (a / 16) = wdAt m root (a / 16) := by unfold wdAt; rw [h0]
 unfold walkP
 rw [e0]
 split
 ·rename_i hg
  have hm : entF (wdAt m root (a / 16)) ∈ named (rowAt m root) := by
   refine named_mem.2 ⟨_, ?_, hg, rfl⟩
   unfold wdAt at hg ⊢
   by_cases hl : a / 16 < (rowAt m root).length
   ·exact getD_mem hl
   ·have : (rowAt m root).getD (a / 16) 0 = 0 := by simp at hl; simp [hl]
    rw [this] at hg
    simp [entG] at hg
  have e1 : wdAt m' (entF (wdAt m root (a / 16))) (a / 4 % 4) = wdAt m (entF (wdAt m root (a / 16))) (a / 4 % 4) := by unfold wdAt; unfold wdAt at hm; rw [h1 _ hm]
  rw [e1]
 ·rfl
theorem wd_named {m : List (List Int)} {f i : Nat} (hg : entG (wdAt m f i) = true) : entF (wdAt m f i) ∈ named (rowAt m f) := by
 refine named_mem.2 ⟨_, ?_, hg, rfl⟩
 unfold wdAt at hg ⊢
 by_cases hl : i < (rowAt m f).length
 ·exact getD_mem hl
 ·have : (rowAt m f).getD i 0 = 0 := by simp at hl; simp [hl]
  rw [this] at hg
  simp [entG] at hg
theorem rowOk_iff {r : List Int} : rowOk r = true ↔ r.length = 4 ∧ ∀ w ∈ r, 0 ≤ w ∧ w ≤ 9999 := by
 simp only [rowOk, Bool.and_eq_true, List.all_eq_true, decide_eq_true_eq, wordOk, inB_iff]
 exact And.comm
theorem memOk_iff {m : List (List Int)} : memOk m = true ↔ m.length = 12 ∧ ∀ f, f < 12 → rowOk (rowAt m f) = true := by
 simp only [memOk, Bool.and_eq_true, List.all_eq_true, decide_eq_true_eq]
 constructor
 ·rintro ⟨h1, h2⟩
  exact ⟨h2, fun f hf => h1 _ (getD_mem (by omega))⟩
 ·rintro ⟨h1, h2⟩
  refine ⟨fun r hr => ?_, h1⟩
  obtain ⟨i, hi, rfl⟩ := mem_getD (d := []) hr
  exact h2 i (by omega)
theorem memOk_set {m : List (List Int)} {f : Nat} {r : List Int} (h : memOk m = true) (hr : rowOk r = true) : memOk (m.set f r) = true := by
 rw [memOk_iff] at h ⊢
 refine ⟨by rw [List.length_set]; exact h.1, fun g hg => ?_⟩
 unfold rowAt
 rw [getD_set]
 split
 ·exact hr
 ·exact h.2 g hg
theorem rowAt_set {m : List (List Int)} {f g : Nat} {r : List Int} : rowAt (m.set f r) g = if g = f ∧ f < m.length then r else rowAt m g := by
 unfold rowAt
 exact getD_set
theorem rowAt_setWd {m : List (List Int)} {f i g : Nat} {w : Int} : rowAt (setWd m f i w) g = if g = f ∧ f < m.length then (rowAt m f).set i w else rowAt m g := by
 unfold setWd rowAt
 exact modAt_getD
theorem setWd_eq {m : List (List Int)} {f i : Nat} {w : Int} : setWd m f i w = m.set f ((rowAt m f).set i w) := modAt_set
theorem rowOk_set {r : List Int} {i : Nat} {w : Int} (h : rowOk r = true) (hw : wordOk w = true) : rowOk (r.set i w) = true := by
 rw [rowOk_iff] at h ⊢
 refine ⟨by rw [List.length_set]; exact h.1, fun x hx => ?_⟩
 rcases List.mem_or_eq_of_mem_set hx with hx | rfl
 ·exact h.2 x hx
 ·exact inB_iff.1 hw
theorem less_eq : ∀ (x y : List UInt8), Op.bytesLess x y = decide (x < y)
 | [], [] => by simp [Op.bytesLess]
 | _ :: _, [] => by simp [Op.bytesLess]
 | [], _ :: _ => by simp [Op.bytesLess]
 | a :: x, b :: y => by
  rw [Op.bytesLess, less_eq x y]
  by_cases h1 : a < b
  ·simp [h1, List.cons_lt_cons_iff]
  ·by_cases h2 : a = b
   ·subst h2; simp [List.cons_lt_cons_iff]
   ·simp [h1, h2, List.cons_lt_cons_iff]
def ltB (a b : ByteArray) : Bool := Op.bytesLess a.toList b.toList
theorem ltB_iff {a b : ByteArray} : ltB a b = true ↔ a.toList < b.toList := by simp [ltB, less_eq]
theorem geB_eq {a b : ByteArray} : geB a b = !ltB a b := rfl
theorem ltB_trans {a b c : ByteArray} (h1 : ltB a b = true) (h2 : ltB b c = true) : ltB a c = true := ltB_iff.2 (List.lt_trans (ltB_iff.1 h1) (ltB_iff.1 h2))
theorem toList_inj {a b : ByteArray} (h : a.toList = b.toList) : a = b := by
 have ha : a.toList = a.data.toList := Lib.toList_data a
 have hb : b.toList = b.data.toList := Lib.toList_data b
 rw [ha, hb] at h
 cases a; cases b
 simp at h
 rw [h]
theorem ltB_of_not {a b : ByteArray} (h : ltB a b = false) (hne : a ≠ b) : ltB b a = true := by
 rw [ltB_iff]
 have h1 : ¬ a.toList < b.toList := by rw [← ltB_iff]; simp [h]
 have h2 : a.toList ≠ b.toList := fun e => hne (toList_inj e)
 have h3 : b.toList ≤ a.toList := List.not_lt.1 h1
 rcases List.le_iff_lt_or_eq.1 h3 with h | h
 ·exact h
 ·exact absurd h.symm h2
theorem rightsOk_iff {ss : List ByteArray} : rightsOk ss = true ↔ (∀ s ∈ ss, rightOk s = true) ∧ ss.Pairwise (fun a b => ltB a b = true) ∧ ss.length ≤ 6 := by
 unfold rightsOk
 simp only [Bool.and_eq_true, decide_eq_true_eq, range_all, stepRight, Bool.or_eq_true, geB_eq, Bool.not_not]
 constructor
 ·rintro ⟨h, hl⟩
  refine ⟨fun s hs => ?_, ?_, hl⟩
  ·obtain ⟨i, hi, rfl⟩ := mem_getD (d := ⟨#[]⟩) hs
   exact (h i hi).1
  ·rw [List.pairwise_iff_getElem]
   have key : ∀ d i, i + 1 + d < ss.length → ltB (nthS ss i) (nthS ss (i + 1 + d)) = true := by
    intro d
    induction d with
    | zero =>
     intro i hi
     rcases (h (i + 1) (by omega)).2 with h' | h'
     ·omega
     ·simpa using h'
    | succ d ih =>
     intro i hi
     have h1 := ih i (by omega)
     rcases (h (i + 1 + (d + 1)) (by omega)).2 with h' | h'
     ·omega
     ·refine ltB_trans h1 ?_
      have e : i + 1 + (d + 1) - 1 = i + 1 + d := by omega
      rw [e] at h'
      exact h'
   intro i j hi hj hij
   have := key (j - i - 1) i (by omega)
   have e : i + 1 + (j - i - 1) = j := by omega
   rw [e] at this
   simpa [nthS, hi, hj] using this
 ·rintro ⟨h1, h2, h3⟩
  refine ⟨fun i hi => ⟨h1 _ (getD_mem hi), ?_⟩, h3⟩
  by_cases h0 : i = 0
  ·exact .inl h0
  ·right
   rw [List.pairwise_iff_getElem] at h2
   have := h2 (i - 1) i (by omega) hi (by omega)
   simpa [nthS, hi, show i - 1 < ss.length by omega] using this
theorem addS_mem {ss : List ByteArray} {s x : ByteArray} : x ∈ addS ss s ↔ x = s ∨ x ∈ ss := by
 unfold addS
 have e := List.takeWhile_append_dropWhile (p := fun x => !geB x s) (l := ss)
 constructor
 ·intro h
  rcases List.mem_append.1 h with h | h
  ·right; rw [← e]; exact List.mem_append_left _ h
  ·rcases List.mem_cons.1 h with h | h
   ·exact .inl h
   ·right; rw [← e]; exact List.mem_append_right _ h
 ·rintro (rfl | h)
  ·simp
  ·rw [← e] at h
   rcases List.mem_append.1 h with h | h
   ·exact List.mem_append_left _ h
   ·exact List.mem_append_right _ (List.mem_cons_of_mem _ h)
theorem mem_takeWhile' {p : ByteArray → Bool} {l : List ByteArray} {x : ByteArray} (h : x ∈ l.takeWhile p) : p x = true := by
 induction l with
 | nil => simp at h
 | cons y l ih =>
  rw [List.takeWhile_cons] at h
  split at h
  ·rename_i hy
   rcases List.mem_cons.1 h with rfl | h
   ·exact hy
   ·exact ih h
  ·simp at h
theorem addS_ok {ss : List ByteArray} {s : ByteArray} (h : rightsOk ss = true) (hs : rightOk s = true) (hn : s ∉ ss) (hl : ss.length ≠ 6) : rightsOk (addS ss s) = true := by
 rw [rightsOk_iff] at h ⊢
 obtain ⟨h1, h2, h3⟩ := h
 have e := List.takeWhile_append_dropWhile (p := fun x => !geB x s) (l := ss)
 refine ⟨fun x hx => ?_, ?_, ?_⟩
 ·rcases addS_mem.1 hx with rfl | hx
  ·exact hs
  ·exact h1 x hx
 ·unfold addS
  rw [← e] at h2
  rw [List.pairwise_append] at h2 ⊢
  obtain ⟨p1, p2, p3⟩ := h2
  have hge : ∀ y ∈ ss.dropWhile (fun x => !geB x s), ltB s y = true := by
   generalize hd : ss.dropWhile (fun x => !geB x s) = l at p2
   cases l with
   | nil => simp
   | cons y l =>
    have hy0 : (!geB y s) = false := by
     have := List.head?_dropWhile_not (fun x => !geB x s) ss
     rw [hd] at this
     simpa using this
    have hym : y ∈ ss := by
     rw [← e, hd]
     exact List.mem_append_right _ (List.mem_cons_self ..)
    have hy : ltB s y = true := ltB_of_not (by simpa [geB_eq] using hy0) (fun e => hn (e ▸ hym))
    intro z hz
    rcases List.mem_cons.1 hz with rfl | hz
    ·exact hy
    ·exact ltB_trans hy ((List.pairwise_cons.1 p2).1 z hz)
  refine ⟨p1, List.pairwise_cons.2 ⟨hge, p2⟩, fun a ha b hb => ?_⟩
  have has : ltB a s = true := by simpa [geB_eq] using mem_takeWhile' ha
  rcases List.mem_cons.1 hb with rfl | hb
  ·exact has
  ·exact p3 a ha b hb
 ·have : (addS ss s).length = ss.length + 1 := by
   unfold addS
   rw [List.length_append, List.length_cons]
   have := congrArg List.length e
   rw [List.length_append] at this
   omega
  omega
theorem filter_ok {ss : List ByteArray} {p : ByteArray → Bool} (h : rightsOk ss = true) : rightsOk (ss.filter p) = true := by
 rw [rightsOk_iff] at h ⊢
 exact ⟨fun s hs => h.1 s (List.mem_filter.1 hs).1, h.2.1.filter _, Nat.le_trans (List.length_filter_le _ _) h.2.2⟩
theorem mayP_iff {rights : List ByteArray} {g : ByteArray} : mayP rights g = true ↔ ∃ s ∈ rights, cov s g = true := by simp [mayP]
theorem mayP_mono {r r' : List ByteArray} {g : ByteArray} (h : ∀ s ∈ r, s ∈ r') (hm : mayP r g = true) : mayP r' g = true := by
 obtain ⟨s, hs, hc⟩ := mayP_iff.1 hm
 exact mayP_iff.2 ⟨s, h s hs, hc⟩
theorem mayP_all (g : ByteArray) : mayP [⟨#[]⟩] g = true := by
 refine mayP_iff.2 ⟨_, List.mem_cons_self .., ?_⟩
 simp [cov]
theorem add_ok {ss : List ByteArray} {s : ByteArray} (h : rightsOk ss = true) (hs : rightOk s = true) : rightsOk (rightsAddP ss s).1 = true := by
 unfold rightsAddP
 split
 ·exact h
 ·rename_i hn
  split
  ·exact h
  ·rename_i hl
   exact addS_ok h hs (fun hm => hn (any_mem.2 ⟨s, hm, by simp⟩)) hl
theorem add_mono {ss : List ByteArray} {s x : ByteArray} (hx : x ∈ ss) : x ∈ (rightsAddP ss s).1 := by
 unfold rightsAddP
 split
 ·exact hx
 ·split
  ·exact hx
  ·exact addS_mem.2 (.inr hx)
theorem cacheOk_iff {c : List CachedV} : cacheOk c = true ↔ (∀ x ∈ c, cachedOk x = true) ∧ c.Pairwise (fun x y => sameCP y.e y.p x = false) ∧ c.length ≤ 4 := by
 unfold cacheOk
 simp only [Bool.and_eq_true, decide_eq_true_eq, range_all, stepCache, Bool.not_eq_true', List.any_eq_false]
 constructor
 ·rintro ⟨h, hl⟩
  refine ⟨fun x hx => ?_, ?_, hl⟩
  ·obtain ⟨i, hi, rfl⟩ := mem_getD (d := ⟨0, 0, 0, false⟩) hx
   exact (h i hi).1
  ·rw [List.pairwise_iff_getElem]
   intro i j hi hj hij
   have h2 := (h j hj).2 c[i] (List.mem_take_iff_getElem.2 ⟨i, by omega, rfl⟩)
   have e : cacheAt c j = c[j] := by simp [cacheAt, hj]
   rw [e] at h2
   simpa using h2
 ·rintro ⟨h1, h2, h3⟩
  refine ⟨fun i hi => ⟨h1 _ (getD_mem hi), fun x hx => ?_⟩, h3⟩
  obtain ⟨j, hj, rfl⟩ := List.mem_take_iff_getElem.1 hx
  rw [List.pairwise_iff_getElem] at h2
  have := h2 j i (by omega) hi (by omega)
  have e : cacheAt c i = c[i] := by simp [cacheAt, hi]
  rw [e]
  simp [this]
theorem dropC_ok {c : List CachedV} {e : Int} (h : cacheOk c = true) : cacheOk (dropC c e) = true := by
 rw [cacheOk_iff] at h ⊢
 unfold dropC
 exact ⟨fun s hs => h.1 s (List.mem_filter.1 hs).1, h.2.1.filter _, Nat.le_trans (List.length_filter_le _ _) h.2.2⟩
theorem dropC_mem {c : List CachedV} {e : Int} {x : CachedV} : x ∈ dropC c e ↔ x ∈ c ∧ x.e ≠ e := by simp [dropC]
theorem drops_ok {c : List CachedV} {es : List Nat} (h : cacheOk c = true) : cacheOk (es.foldl (fun c e => dropC c (e : Nat)) c) = true := by
 induction es generalizing c with
 | nil => exact h
 | cons e es ih => exact ih (dropC_ok h)
theorem drops_mem {c : List CachedV} {es : List Nat} {x : CachedV} : x ∈ es.foldl (fun c e => dropC c (e : Nat)) c ↔ x ∈ c ∧ ∀ e ∈ es, x.e ≠ (e : Int) := by
 induction es generalizing c with
 | nil => simp
 | cons e es ih =>
  rw [List.foldl_cons, ih, dropC_mem]
  simp [and_assoc]
theorem putC_mem {c : List CachedV} {x y : CachedV} (h : y ∈ putC c x) : y = x ∨ y ∈ c := by
 unfold putC at h
 rcases List.mem_append.1 h with h | h
 ·right
  split at h
  ·exact (List.mem_filter.1 (List.mem_of_mem_drop h)).1
  ·exact (List.mem_filter.1 h).1
 ·left; simpa using h
theorem putC_ok {c : List CachedV} {x : CachedV} (h : cacheOk c = true) (hx : cachedOk x = true) : cacheOk (putC c x) = true := by
 have hm := fun y => putC_mem (c := c) (x := x) (y := y)
 rw [cacheOk_iff] at h ⊢
 obtain ⟨h1, h2, h3⟩ := h
 refine ⟨fun y hy => ?_, ?_, ?_⟩
 ·rcases hm y hy with rfl | hy
  ·exact hx
  ·exact h1 y hy
 ·unfold putC
  rw [List.pairwise_append]
  refine ⟨?_, by simp, fun a ha b hb => ?_⟩
  ·split
   ·exact (h2.filter _).drop
   ·exact h2.filter _
  ·obtain rfl : b = x := by simpa using hb
   have ha' : a ∈ c.filter fun y => !sameCP b.e b.p y := by
    split at ha
    ·exact List.mem_of_mem_drop ha
    ·exact ha
   simpa using (List.mem_filter.1 ha').2
 ·unfold putC
  have hl := List.length_filter_le (fun y => !sameCP x.e x.p y) c
  split
  ·rw [List.length_append, List.length_drop]; simp; omega
  ·rw [List.length_append]; simp; omega
end Go.Proofs.YtjacdlekgdnndaaGreatDoor
set_option linter.unusedVariables false
set_option linter.unusedSimpArgs false
namespace Go.Proofs.YtjacdlekgdnndaaGreatDoor
def rootOf (k : KernV) (e : Nat) : Int := (envAt k.envs e).root
def rightsOf (k : KernV) (e : Nat) : List ByteArray := (envAt k.envs e).rights
def kindAt (k : KernV) (f : Nat) : Int := (infoAt k.infos f).k
def KGok (x : InfoV) : Prop := (x.k = 0 ∧ x.g = ⟨#[]⟩) ∨ (1 ≤ x.k ∧ x.k ≤ 3 ∧ rightOk x.g = true)
def cnt (m : List (List Int)) (infos : List InfoV) (g t : Nat) : Nat := if tabK (infoAt infos t).k then (named (rowAt m t)).count g else 0
theorem countP_eq {m : List (List Int)} {infos : List InfoV} {g : Nat} : countP m infos g = ((List.range 12).map (cnt m infos g)).sum := rfl
theorem tabK_iff {k : Int} : tabK k = true ↔ k = 2 ∨ k = 3 := by simp [tabK]
structure KOk (k : KernV) : Prop where
 mem : memOk k.mem = true
 len : k.infos.length = 12
 inf : ∀ f, f < 12 → KGok (infoAt k.infos f)
 cache : cacheOk k.cache = true
 envl : k.envs.length = 3
 rights : ∀ e, e < 3 → rightsOk (rightsOf k e) = true
 roots : ∀ e, e < 3 → rootOf k e = -1 ∨ (0 ≤ rootOf k e ∧ rootOf k e ≤ 11 ∧ kindAt k (rootOf k e).toNat = 3)
 allow : ∀ e, e < 3 → ∀ f, f ∈ reachL k.mem (rootOf k e) → mayP (rightsOf k e) (infoAt k.infos f).g = true
 tabs : ∀ f, f < 12 → tabK (kindAt k f) = true → ∀ w ∈ rowAt k.mem f, (entG w = true ∧ entF w ≠ f ∧ kindAt k (entF w) = kindAt k f - 1) ∨ w = 0
 refs : ∀ f, f < 12 → (infoAt k.infos f).r = (countP k.mem k.infos f : Int) + (rootsP k.envs f : Int)
 trans : ∀ x ∈ k.cache, transOk k x = true
theorem rootsP_eq {envs : List EnvV} (h : envs.length = 3) (g : Nat) : rootsP envs g = b2n (decide ((envAt envs 0).root = (g : Int))) + b2n (decide ((envAt envs 1).root = (g : Int))) + b2n (decide ((envAt envs 2).root = (g : Int))) := by
 match envs, h with
 | [a, b, c], _ =>
  simp only [rootsP, List.countP_cons, List.countP_nil, envAt, b2n]
  simp
  omega
section
variable {k : KernV} (h : KOk k)
include h
theorem KOk.row {f : Nat} (hf : f < 12) : (rowAt k.mem f).length = 4 := (rowOk_iff.1 ((memOk_iff.1 h.mem).2 f hf)).1
theorem KOk.word {f i : Nat} (hf : f < 12) (hi : i < 4) : 0 ≤ wdAt k.mem f i ∧ wdAt k.mem f i ≤ 9999 := (rowOk_iff.1 ((memOk_iff.1 h.mem).2 f hf)).2 _ (getD_mem (by rw [h.row hf]; exact hi))
theorem KOk.named {f g : Nat} (hf : f < 12) (ht : tabK (kindAt k f) = true) (hg : g ∈ named (rowAt k.mem f)) : g < 12 ∧ g ≠ f ∧ kindAt k g = kindAt k f - 1 := by
 obtain ⟨w, hw, h1, rfl⟩ := named_mem.1 hg
 rcases h.tabs f hf ht w hw with ⟨_, a, b⟩ | rfl
 ·exact ⟨entF_lt h1, a, b⟩
 ·simp [entG] at h1
theorem KOk.root_kind {e : Nat} (he : e < 3) (hr : 0 ≤ rootOf k e) : (rootOf k e).toNat < 12 ∧ kindAt k (rootOf k e).toNat = 3 := by
 rcases h.roots e he with a | ⟨a, b, c⟩
 ·omega
 ·exact ⟨by omega, c⟩
theorem KOk.low_kind {e t : Nat} (he : e < 3) (hr : 0 ≤ rootOf k e) (ht : t ∈ Go.Proofs.YtjacdlekgdnndaaGreatDoor.named (rowAt k.mem (rootOf k e).toNat)) : t < 12 ∧ kindAt k t = 2 := by
 obtain ⟨a, b⟩ := h.root_kind he hr
 have := h.named a (by rw [b]; rfl) ht
 exact ⟨this.1, by omega⟩
theorem KOk.data_kind {e t f : Nat} (he : e < 3) (hr : 0 ≤ rootOf k e) (ht : t ∈ Go.Proofs.YtjacdlekgdnndaaGreatDoor.named (rowAt k.mem (rootOf k e).toNat)) (hf : f ∈ Go.Proofs.YtjacdlekgdnndaaGreatDoor.named (rowAt k.mem t)) : f < 12 ∧ kindAt k f = 1 := by
 obtain ⟨a, b⟩ := h.low_kind he hr ht
 have := h.named a (by rw [b]; rfl) hf
 exact ⟨this.1, by omega⟩
theorem KOk.reach_lt {e f : Nat} (he : e < 3) (hf : f ∈ reachL k.mem (rootOf k e)) : f < 12 ∧ 1 ≤ kindAt k f := by
 obtain ⟨hr, h1⟩ := reach_mem.1 hf
 rcases h1 with rfl | h1 | ⟨t, ht, h1⟩
 ·have := h.root_kind he hr; exact ⟨this.1, by omega⟩
 ·have := h.low_kind he hr h1; exact ⟨this.1, by omega⟩
 ·have := h.data_kind he hr ht h1; exact ⟨this.1, by omega⟩
theorem KOk.cnt_zero {g : Nat} (hg : g < 12) : cnt k.mem k.infos g g = 0 := by
 unfold cnt
 split
 ·rename_i ht
  rw [List.count_eq_zero]
  intro hm
  exact (h.named hg ht hm).2.1 rfl
 ·rfl
theorem KOk.cnt_le {g t : Nat} (ht : t < 12) : cnt k.mem k.infos g t ≤ 4 := by
 unfold cnt
 split
 ·have h1 : (Go.Proofs.YtjacdlekgdnndaaGreatDoor.named (rowAt k.mem t)).count g ≤ _ := List.count_le_length
  have h2 := named_len (r := rowAt k.mem t)
  rw [h.row ht] at h2
  omega
 ·omega
theorem KOk.count_le {g : Nat} (hg : g < 12) : countP k.mem k.infos g ≤ 44 := by
 have : ((List.range 12).map (cnt k.mem k.infos g)).sum + 4 ≤ 4 * 12 := sum_le_but hg (fun t ht => h.cnt_le (g := g) ht) (h.cnt_zero hg)
 rw [countP_eq]
 omega
theorem KOk.refs_le {f : Nat} (hf : f < 12) : 0 ≤ (infoAt k.infos f).r ∧ (infoAt k.infos f).r ≤ 47 := by
 have h1 := h.count_le hf
 have h2 : rootsP k.envs f ≤ 3 := by
  have := List.countP_le_length (p := fun e : EnvV => decide (e.root = (f : Int))) (l := k.envs)
  rw [h.envl] at this
  exact this
 rw [h.refs f hf]
 omega
theorem KOk.unused {f : Nat} (hf : f < 12) (h0 : (infoAt k.infos f).r = 0) : (∀ t, t < 12 → tabK (kindAt k t) = true → f ∉ Go.Proofs.YtjacdlekgdnndaaGreatDoor.named (rowAt k.mem t)) ∧ ∀ e, e < 3 → rootOf k e ≠ (f : Int) := by
 have h1 := h.refs f hf
 have h2 : countP k.mem k.infos f = 0 := by omega
 have h3 : rootsP k.envs f = 0 := by omega
 rw [countP_eq, sum_zero] at h2
 constructor
 ·intro t ht htab hm
  have := h2 t ht
  unfold cnt kindAt at *
  rw [if_pos htab, List.count_eq_zero] at this
  exact this hm
 ·intro e he
  rw [rootsP_eq h.envl] at h3
  unfold b2n at h3
  have : e = 0 ∨ e = 1 ∨ e = 2 := by omega
  intro hr
  unfold rootOf at hr
  rcases this with rfl | rfl | rfl <;> simp [hr] at h3
theorem KOk.free_unused {f : Nat} (hf : f < 12) (h0 : kindAt k f = 0) : (infoAt k.infos f).r = 0 := by
 rw [h.refs f hf]
 have h2 : countP k.mem k.infos f = 0 := by
  rw [countP_eq, sum_zero]
  intro t ht
  unfold cnt
  split
  ·rename_i htab
   rw [List.count_eq_zero]
   intro hm
   have := (h.named ht htab hm).2.2
   have : kindAt k t = 2 ∨ kindAt k t = 3 := tabK_iff.1 htab
   omega
  ·rfl
 have h3 : rootsP k.envs f = 0 := by
  rw [rootsP_eq h.envl]
  have key : ∀ e, e < 3 → b2n (decide ((envAt k.envs e).root = (f : Int))) = 0 := by
   intro e he
   unfold b2n
   by_cases hr : (envAt k.envs e).root = (f : Int)
   ·exfalso
    have : rootOf k e = (f : Int) := hr
    have := h.root_kind he (by omega)
    rw [‹rootOf k e = (f : Int)›] at this
    simp at this
    omega
   ·simp [hr]
  rw [key 0 (by omega), key 1 (by omega), key 2 (by omega)]
 omega
theorem KOk.walk_data {e a : Nat} (he : e < 3) (hr : 0 ≤ rootOf k e) (hw : (walkP k.mem (rootOf k e).toNat a).1 = 0) : (walkP k.mem (rootOf k e).toNat a).2.1 < 12 ∧ kindAt k (walkP k.mem (rootOf k e).toNat a).2.1 = 1 ∧ (walkP k.mem (rootOf k e).toNat a).2.1 ∈ reachL k.mem (rootOf k e) := by
 unfold walkP at hw ⊢
 split at hw
 ·rename_i h1
  split at hw
  ·rename_i h2
   rw [if_pos h1, if_pos h2]
   have m1 := wd_named h1
   have m2 := wd_named h2
   have := h.data_kind he hr m1 m2
   exact ⟨this.1, this.2, reach_mem.2 ⟨hr, .inr (.inr ⟨_, m1, m2⟩)⟩⟩
  ·simp at hw
 ·simp at hw
end
theorem infoOk_of {x : InfoV} (h : KGok x) (h0 : 0 ≤ x.r) (h1 : x.r ≤ 50) (hz : x.k = 0 → x.r = 0) : infoOk x = true := by
 rcases h with ⟨a, b⟩ | ⟨a, b, c⟩
 ·have : x = InfoV.zero := by
   obtain ⟨k, g, r⟩ := x
   simp at a b hz
   subst a b
   simp [InfoV.zero, hz rfl]
  simp [infoOk, this]
 ·simp [infoOk, inB, a, b, c, h0, h1]
theorem infoOk_kg {x : InfoV} (h : infoOk x = true) : KGok x := by
 unfold infoOk at h
 simp only [Bool.or_eq_true, decide_eq_true_eq, Bool.and_eq_true, inB_iff] at h
 rcases h with rfl | ⟨⟨⟨a, b⟩, c⟩, _⟩
 ·exact .inl ⟨rfl, rfl⟩
 ·exact .inr ⟨a, b, c⟩
theorem infosOk_iff {l : List InfoV} : infosOk l = true ↔ l.length = 12 ∧ ∀ f, f < 12 → infoOk (infoAt l f) = true := by
 simp only [infosOk, Bool.and_eq_true, List.all_eq_true, decide_eq_true_eq]
 constructor
 ·rintro ⟨h1, h2⟩
  exact ⟨h2, fun f hf => h1 _ (getD_mem (by omega))⟩
 ·rintro ⟨h1, h2⟩
  refine ⟨fun r hr => ?_, h1⟩
  obtain ⟨i, hi, rfl⟩ := mem_getD (d := InfoV.zero) hr
  exact h2 i (by omega)
theorem goodW_iff {infos : List InfoV} {f : Nat} {kind : Int} {rights : List ByteArray} {w : Int} : goodW infos f kind rights w = true ↔ (entG w = true ∧ entF w ≠ f ∧ (infoAt infos (entF w)).k = kind - 1 ∧ mayP rights (infoAt infos (entF w)).g = true) ∨ (entG w = false ∧ w = 0) := by
 unfold goodW
 cases h : entG w <;> simp [and_assoc]
theorem goodP_iff {m : List (List Int)} {infos : List InfoV} {f : Nat} {kind : Int} {rights : List ByteArray} : goodP m infos f kind rights = true ↔ ∀ w ∈ rowAt m f, goodW infos f kind rights w = true := by simp [goodP, List.all_eq_true]
theorem env_cases {envs : List EnvV} (h : envs.length = 3) {p : EnvV → Bool} : envs.all p = true ↔ ∀ e, e < 3 → p (envAt envs e) = true := by
 rw [List.all_eq_true]
 constructor
 ·intro hp e he
  exact hp _ (getD_mem (by omega))
 ·intro hp x hx
  obtain ⟨i, hi, rfl⟩ := mem_getD (d := ⟨[], 0⟩) hx
  exact hp i (by omega)
theorem kernOk_iff {k : KernV} : kernOk k = true ↔ KOk k := by
 unfold kernOk
 simp only [Bool.and_eq_true, range_all]
 constructor
 ·rintro ⟨⟨⟨⟨⟨⟨h1, h2⟩, h3⟩, h4⟩, h5⟩, h6⟩, h7⟩
  unfold envsOk at h4
  simp only [Bool.and_eq_true, decide_eq_true_eq] at h4
  obtain ⟨h4, hl⟩ := h4
  rw [env_cases hl] at h4
  rw [infosOk_iff] at h2
  have hE : ∀ e, e < 3 → rightsOk (rightsOf k e) = true ∧ (rootOf k e = -1 ∨ (0 ≤ rootOf k e ∧ rootOf k e ≤ 11) ∧ kindAt k (rootOf k e).toNat = 3) ∧ allowedP k.infos (reachL k.mem (rootOf k e)) (rightsOf k e) = true := by
   intro e he
   have := h4 e he
   unfold envOk at this
   simp only [Bool.and_eq_true, Bool.or_eq_true, decide_eq_true_eq, inB_iff] at this
   exact ⟨this.1.1, this.1.2, this.2⟩
  refine ⟨h1, h2.1, fun f hf => infoOk_kg (h2.2 f hf), h3, hl, fun e he => (hE e he).1, fun e he => ?_, fun e he => allowed_iff.1 (hE e he).2.2, fun f hf ht w hw => ?_, fun f hf => ?_, fun x hx => List.all_eq_true.1 h7 x hx⟩
  ·rcases (hE e he).2.1 with a | ⟨⟨a, b⟩, c⟩
   ·exact .inl a
   ·exact .inr ⟨a, b, c⟩
  ·have := h5 f hf
   unfold tableOk at this
   unfold kindAt at ht
   rw [ht, Bool.not_true, Bool.false_or, goodP_iff] at this
   rcases goodW_iff.1 (this w hw) with ⟨a, b, c, _⟩ | ⟨_, a⟩
   ·exact .inl ⟨a, b, c⟩
   ·exact .inr a
  ·have := h6 f hf
   simpa [refOk] using this
 ·intro h
  refine ⟨⟨⟨⟨⟨⟨h.mem, ?_⟩, h.cache⟩, ?_⟩, fun f hf => ?_⟩, fun f hf => ?_⟩, List.all_eq_true.2 h.trans⟩
  ·rw [infosOk_iff]
   refine ⟨h.len, fun f hf => infoOk_of (h.inf f hf) (h.refs_le hf).1 (by have := (h.refs_le hf).2; omega) (fun h0 => h.free_unused hf h0)⟩
  ·unfold envsOk
   simp only [Bool.and_eq_true, decide_eq_true_eq]
   refine ⟨?_, h.envl⟩
   rw [env_cases h.envl]
   intro e he
   unfold envOk
   simp only [Bool.and_eq_true, Bool.or_eq_true, decide_eq_true_eq, inB_iff]
   refine ⟨⟨h.rights e he, ?_⟩, allowed_iff.2 (h.allow e he)⟩
   rcases h.roots e he with a | ⟨a, b, c⟩
   ·exact .inl a
   ·exact .inr ⟨⟨a, b⟩, c⟩
  ·unfold tableOk
   simp only [Bool.or_eq_true, Bool.not_eq_true']
   cases ht : tabK (infoAt k.infos f).k
   ·exact .inl rfl
   ·right
    rw [goodP_iff]
    intro w hw
    rw [goodW_iff]
    rcases h.tabs f hf ht w hw with ⟨a, b, c⟩ | rfl
    ·exact .inl ⟨a, b, c, mayP_all _⟩
    ·exact .inr ⟨rfl, rfl⟩
  ·simp [refOk, h.refs f hf]
theorem infoAt_set {l : List InfoV} {f g : Nat} {x : InfoV} : infoAt (l.set f x) g = if g = f ∧ f < l.length then x else infoAt l g := getD_set
theorem infoAt_mod {l : List InfoV} {f g : Nat} {u : InfoV → InfoV} : infoAt (modAt l f u) g = if g = f ∧ f < l.length then u (infoAt l f) else infoAt l g := modAt_getD
theorem envAt_mod {l : List EnvV} {f g : Nat} {u : EnvV → EnvV} : envAt (modAt l f u) g = if g = f ∧ f < l.length then u (envAt l f) else envAt l g := modAt_getD
theorem KOk.data {k : KernV} (h : KOk k) {f : Nat} (hf : f < 12) (hk : kindAt k f = 0 ∨ kindAt k f = 1) {row : List Int} (hrow : rowOk row = true) {x : InfoV} (hx : KGok x) (hx1 : x.k = 0 ∨ x.k = 1) (hr : x.r = (infoAt k.infos f).r)
 (hsame : (x.k = kindAt k f ∧ x.g = (infoAt k.infos f).g) ∨ (infoAt k.infos f).r = 0) {cache : List CachedV} (hc : cacheOk cache = true) (ht : ∀ y ∈ cache, transOk k y = true) : KOk ⟨k.mem.set f row, k.infos.set f x, k.envs, cache⟩ := by
 have hml := (memOk_iff.1 h.mem).1
 have hrow' : ∀ g, g ≠ f → rowAt (k.mem.set f row) g = rowAt k.mem g := fun g hg => by rw [rowAt_set, if_neg (by rintro ⟨a, _⟩; exact hg a)]
 have hinf' : ∀ g, g ≠ f → infoAt (k.infos.set f x) g = infoAt k.infos g := fun g hg => by rw [infoAt_set, if_neg (by rintro ⟨a, _⟩; exact hg a)]
 have hinff : infoAt (k.infos.set f x) f = x := by rw [infoAt_set, if_pos ⟨rfl, by rw [h.len]; exact hf⟩]
 have htab : ∀ t, tabK (infoAt (k.infos.set f x) t).k = true → t ≠ f ∧ tabK (kindAt k t) = true := by
  intro t ht
  by_cases e : t = f
  ·subst e
   rw [hinff, tabK_iff] at ht
   omega
  ·rw [hinf' t e] at ht
   exact ⟨e, ht⟩
 have hnf : ∀ t, tabK (kindAt k t) = true → t ≠ f := by
  intro t ht e
  subst e
  rw [tabK_iff] at ht
  omega
 have hkeep : ∀ t g, t < 12 → tabK (kindAt k t) = true → g ∈ Go.Proofs.YtjacdlekgdnndaaGreatDoor.named (rowAt k.mem t) → (infoAt (k.infos.set f x) g).k = kindAt k g ∧ (infoAt (k.infos.set f x) g).g = (infoAt k.infos g).g := by
  intro t g ht htb hg
  by_cases e : g = f
  ·subst e
   rw [hinff]
   rcases hsame with hs | h0
   ·exact hs
   ·exact absurd hg ((h.unused hf h0).1 t ht htb)
  ·rw [hinf' g e]; exact ⟨rfl, rfl⟩
 have hroot : ∀ e, e < 3 → 0 ≤ rootOf k e → (rootOf k e).toNat ≠ f := fun e he h0 => hnf _ (by rw [(h.root_kind he h0).2]; rfl)
 have hlow : ∀ e, e < 3 → 0 ≤ rootOf k e → ∀ t, t ∈ Go.Proofs.YtjacdlekgdnndaaGreatDoor.named (rowAt k.mem (rootOf k e).toNat) → t ≠ f := fun e he h0 t ht => hnf _ (by rw [(h.low_kind he h0 ht).2]; rfl)
 have hreach : ∀ e, e < 3 → ∀ g, g ∈ reachL (k.mem.set f row) (rootOf k e) ↔ g ∈ reachL k.mem (rootOf k e) := fun e he => reach_congr (fun h0 => hrow' _ (hroot e he h0)) (fun h0 t ht => hrow' _ (hlow e he h0 t ht))
 refine ⟨memOk_set h.mem hrow, by simp [h.len], fun g hg => ?_, hc, h.envl, h.rights, fun e he => ?_, fun e he g hg => ?_, fun t ht htb w hw => ?_, fun g hg => ?_, fun y hy => ?_⟩
 ·by_cases e : g = f
  ·subst e; rw [hinff]; exact hx
  ·rw [hinf' g e]; exact h.inf g hg
 ·rcases h.roots e he with a | ⟨a, b, c⟩
  ·exact .inl a
  ·refine .inr ⟨a, b, ?_⟩
   show (infoAt (k.infos.set f x) (rootOf k e).toNat).k = 3
   rw [hinf' _ (hroot e he a)]
   exact c
 ·have hg' := (hreach e he g).1 hg
  have hm := h.allow e he g hg'
  show mayP (rightsOf k e) (infoAt (k.infos.set f x) g).g = true
  obtain ⟨h0, h1⟩ := reach_mem.1 hg'
  have hrk := h.root_kind he h0
  have e : (infoAt (k.infos.set f x) g).g = (infoAt k.infos g).g := by
   rcases h1 with rfl | h1 | ⟨t, h1, h2⟩
   ·rw [hinf' _ (hroot e he h0)]
   ·exact (hkeep _ g hrk.1 (by rw [hrk.2]; rfl) h1).2
   ·have hlk := h.low_kind he h0 h1
    exact (hkeep _ g hlk.1 (by rw [hlk.2]; rfl) h2).2
  rw [e]
  exact hm
 ·obtain ⟨hne, htb'⟩ := htab t htb
  rw [show rowAt (k.mem.set f row) t = rowAt k.mem t from hrow' t hne] at hw
  rcases h.tabs t ht htb' w hw with ⟨a, b, c⟩ | rfl
  ·refine .inl ⟨a, b, ?_⟩
   have := (hkeep t (entF w) ht htb' (named_mem.2 ⟨w, hw, a, rfl⟩)).1
   show (infoAt (k.infos.set f x) (entF w)).k = (infoAt (k.infos.set f x) t).k - 1
   rw [this, hinf' t hne]
   exact c
  ·exact .inr rfl
 ·have hcount : countP (k.mem.set f row) (k.infos.set f x) g = countP k.mem k.infos g := by
   rw [countP_eq, countP_eq]
   refine sum_congr fun t ht => ?_
   unfold cnt
   by_cases e : t = f
   ·subst e
    rw [hinff, if_neg (by rw [tabK_iff]; omega), if_neg (by rw [tabK_iff]; unfold kindAt at hk; omega)]
   ·rw [hinf' t e, hrow' t e]
  show (infoAt (k.infos.set f x) g).r = (countP (k.mem.set f row) (k.infos.set f x) g : Int) + (rootsP k.envs g : Int)
  rw [hcount, ← h.refs g hg]
  by_cases e : g = f
  ·subst e; rw [hinff, hr]
  ·rw [hinf' g e]
 ·have h1 := ht y hy
  have hyc := (cacheOk_iff.1 hc).1 y hy
  unfold cachedOk at hyc
  simp only [Bool.and_eq_true, inB_iff] at hyc
  have he : y.e.toNat < 3 := by omega
  unfold transOk at h1 ⊢
  simp only [Bool.and_eq_true, decide_eq_true_eq] at h1 ⊢
  refine ⟨h1.1, ?_⟩
  have hw := walk_congr (m := k.mem) (m' := k.mem.set f row) (root := (rootOf k y.e.toNat).toNat) (a := 4 * y.p.toNat) (hrow' _ (hroot _ he h1.1)) (fun t ht => hrow' _ (hlow _ he h1.1 t ht))
  exact hw.trans h1.2
theorem refer_len {infos : List InfoV} {fs : List Nat} {n : Int} : (referP infos fs n).length = infos.length := by
 unfold referP
 induction fs generalizing infos with
 | nil => rfl
 | cons f fs ih => rw [List.foldl_cons, ih, modAt_len]
theorem refer_at {infos : List InfoV} {fs : List Nat} {n : Int} {g : Nat} (hg : g < infos.length) : infoAt (referP infos fs n) g = { infoAt infos g with r := (infoAt infos g).r + n * (fs.count g : Int) } := by
 unfold referP
 induction fs generalizing infos with
 | nil => simp
 | cons f fs ih =>
  rw [List.foldl_cons, ih (by rw [modAt_len]; exact hg), infoAt_mod, List.count_cons]
  by_cases e : g = f
  ·subst e
   rw [if_pos ⟨rfl, hg⟩]
   simp [addR]
   rw [Int.mul_add]
   omega
  ·rw [if_neg (by rintro ⟨a, _⟩; exact e a)]
   have e' : ¬ f = g := fun a => e a.symm
   simp [e']
theorem KOk.retype {k : KernV} (h : KOk k) {f : Nat} (hf : f < 12) (h0 : (infoAt k.infos f).r = 0) {kind n : Int} (hk1 : 1 ≤ kind) (hk3 : kind ≤ 3) (hfk : kindAt k f ≠ 0)
 (hn : (n = 1 ∧ tabK (kindAt k f) = false ∧ tabK kind = true) ∨ (n = -1 ∧ tabK (kindAt k f) = true ∧ tabK kind = false))
 (hgood : tabK kind = true → ∀ w ∈ rowAt k.mem f, (entG w = true ∧ entF w ≠ f ∧ kindAt k (entF w) = kind - 1) ∨ w = 0) :
 KOk { k with infos := modAt (referP k.infos (Go.Proofs.YtjacdlekgdnndaaGreatDoor.named (rowAt k.mem f)) n) f (setK kind) } := by
 obtain ⟨u1, u2⟩ := h.unused hf h0
 have hl : (referP k.infos (Go.Proofs.YtjacdlekgdnndaaGreatDoor.named (rowAt k.mem f)) n).length = 12 := by rw [refer_len, h.len]
 have hat : ∀ g, g < 12 → infoAt (modAt (referP k.infos (Go.Proofs.YtjacdlekgdnndaaGreatDoor.named (rowAt k.mem f)) n) f (setK kind)) g = { (infoAt k.infos g) with k := if g = f then kind else kindAt k g, r := (infoAt k.infos g).r + n * ((Go.Proofs.YtjacdlekgdnndaaGreatDoor.named (rowAt k.mem f)).count g : Int) } := by
  intro g hg
  rw [infoAt_mod, hl]
  by_cases e : g = f
  ·subst e
   rw [if_pos ⟨rfl, hf⟩, refer_at (by rw [h.len]; exact hg)]
   simp [setK]
  ·rw [if_neg (by rintro ⟨a, _⟩; exact e a), refer_at (by rw [h.len]; exact hg)]
   simp [e, kindAt]
 have hself : f ∉ Go.Proofs.YtjacdlekgdnndaaGreatDoor.named (rowAt k.mem f) := by
  intro hm
  rcases hn with ⟨_, _, c⟩ | ⟨_, b, _⟩
  ·obtain ⟨w, hw, h1, h2⟩ := named_mem.1 hm
   rcases hgood c w hw with ⟨_, a, _⟩ | rfl
   ·exact a h2
   ·simp [entG] at h1
  ·exact u1 f hf b hm
 refine ⟨h.mem, by rw [modAt_len]; exact hl, fun g hg => ?_, h.cache, h.envl, h.rights, fun e he => ?_, fun e he g hg => ?_, fun t ht htb w hw => ?_, fun g hg => ?_, h.trans⟩
 ·show KGok (infoAt (modAt _ f (setK kind)) g)
  rw [hat g hg]
  by_cases e : g = f
  ·subst e
   rcases h.inf g hg with ⟨a, b⟩ | ⟨a, b, c⟩
   ·exact absurd a hfk
   ·right; simp; exact ⟨hk1, hk3, c⟩
  ·simp only [e, if_false]
   exact h.inf g hg
 ·rcases h.roots e he with a | ⟨a, b, c⟩
  ·exact .inl a
  ·refine .inr ⟨a, b, ?_⟩
   show (infoAt (modAt _ f (setK kind)) (rootOf k e).toNat).k = 3
   rw [hat _ (by omega)]
   have : (rootOf k e).toNat ≠ f := fun e' => u2 e he (by omega)
   simp only [this, if_false]
   exact c
 ·show mayP (rightsOf k e) (infoAt (modAt _ f (setK kind)) g).g = true
  have := h.allow e he g hg
  rw [hat _ (h.reach_lt he hg).1]
  exact this
 ·have htb2 : tabK (infoAt (modAt (referP k.infos (Go.Proofs.YtjacdlekgdnndaaGreatDoor.named (rowAt k.mem f)) n) f (setK kind)) t).k = true := htb
  rw [hat t ht] at htb2
  show (entG w = true ∧ entF w ≠ t ∧ (infoAt (modAt (referP k.infos (Go.Proofs.YtjacdlekgdnndaaGreatDoor.named (rowAt k.mem f)) n) f (setK kind)) (entF w)).k = (infoAt (modAt (referP k.infos (Go.Proofs.YtjacdlekgdnndaaGreatDoor.named (rowAt k.mem f)) n) f (setK kind)) t).k - 1) ∨ w = 0
  rw [hat t ht]
  by_cases e : t = f
  ·subst e
   simp only [if_true] at htb2
   rcases hgood htb2 w hw with ⟨a, b, c⟩ | rfl
   ·refine .inl ⟨a, b, ?_⟩
    rw [hat _ (entF_lt a)]
    simp only [if_true, b, if_false]
    exact c
   ·exact .inr rfl
  ·simp only [e, if_false] at htb2
   rcases h.tabs t ht htb2 w hw with ⟨a, b, c⟩ | rfl
   ·refine .inl ⟨a, b, ?_⟩
    rw [hat _ (entF_lt a)]
    have : entF w ≠ f := fun e' => u1 t ht htb2 (named_mem.2 ⟨w, hw, a, e'⟩)
    simp only [this, if_false, e]
    exact c
   ·exact .inr rfl
 ·show (infoAt (modAt (referP k.infos (Go.Proofs.YtjacdlekgdnndaaGreatDoor.named (rowAt k.mem f)) n) f (setK kind)) g).r = (countP k.mem (modAt (referP k.infos (Go.Proofs.YtjacdlekgdnndaaGreatDoor.named (rowAt k.mem f)) n) f (setK kind)) g : Int) + (rootsP k.envs g : Int)
  rw [hat g hg]
  have hsum := sum_one (F := cnt k.mem (modAt (referP k.infos (Go.Proofs.YtjacdlekgdnndaaGreatDoor.named (rowAt k.mem f)) n) f (setK kind)) g) (G := cnt k.mem k.infos g) hf (fun t ht hne => by
   unfold cnt
   rw [hat t ht]
   simp only [hne, if_false]
   rfl)
  rw [← countP_eq, ← countP_eq] at hsum
  have c1 : cnt k.mem (modAt (referP k.infos (Go.Proofs.YtjacdlekgdnndaaGreatDoor.named (rowAt k.mem f)) n) f (setK kind)) g f = if tabK kind then (Go.Proofs.YtjacdlekgdnndaaGreatDoor.named (rowAt k.mem f)).count g else 0 := by
   unfold cnt
   rw [hat f hf]
   simp
  have c2 : cnt k.mem k.infos g f = if tabK (kindAt k f) then (Go.Proofs.YtjacdlekgdnndaaGreatDoor.named (rowAt k.mem f)).count g else 0 := rfl
  rw [c1, c2] at hsum
  have := h.refs g hg
  rcases hn with ⟨rfl, a, b⟩ | ⟨rfl, a, b⟩
  ·rw [a, b] at hsum
   simp at hsum ⊢
   omega
  ·rw [a, b] at hsum
   simp at hsum ⊢
   omega
end Go.Proofs.YtjacdlekgdnndaaGreatDoor
