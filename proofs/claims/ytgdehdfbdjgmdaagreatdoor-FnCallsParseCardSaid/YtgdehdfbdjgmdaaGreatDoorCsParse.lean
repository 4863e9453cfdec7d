/-
  Walks: calls read out of a text, by the reference and by the program. Condition (the program): some variables of the library lie as laid.
-/
import Derived.Test.YtgdehdfbdjgmdaaGreatDoorCsText
set_option linter.unusedVariables false
set_option linter.unusedSimpArgs false
namespace Go.Proofs.YtgdehdfbdjgmdaaGreatDoor
open Go.RowKit

/-- What reading a text gives: the calls whose text it is, if there are any. -/
def ParsedS (s : ByteArray) (xs : List CallV) (ok : Bool) : Prop := (ok = true ∧ listFit xs = true ∧ callsB xs = s) ∨ (ok = false ∧ xs = [] ∧ ∀ ys : List CallV, listFit ys = true → callsB ys ≠ s)

/-- What a function that reads calls returns. -/
def CsRes (s : ByteArray) (lo : Nat) (e : Ending) (w' : World) : Prop := ∃ v xs ok, e = .returned (.tuple #[v, .bool ok]) ∧ OwnCalls lo w' v xs ∧ ParsedS s xs ok

theorem callL_free {y : CallV} (h : fitsC y = true) : ∀ x ∈ callL y, x ≠ 59 := by
  obtain ⟨k, e, a, b, c, hx, h1, h2, h3, h4, h5, h6, h7, h8⟩ := fits_ranges h
  exact txt_free (by rw [hx]; simpa using h2) h8
theorem callL_ne (y : CallV) : callL y ≠ [] := txt_ne
theorem cut_pre {ys : List CallV} (h : ∀ y ∈ ys, fitsC y = true) (hne : ys ≠ []) : cutB 59 (preB ys) = ys.map callB := by
  have e : (preB ys).data.toList = Lib.join (ys.map callL) [59] := rfl
  unfold cutB
  rw [e, cutL_join (by simpa using hne) (fun w hw => by obtain ⟨y, hy, rfl⟩ := List.mem_map.1 hw; exact callL_free (h y hy)), List.map_map]
  rfl
theorem pre_cut {s : ByteArray} {xs : List CallV} (h : xs.map callB = cutB 59 s) : preB xs = s := by
  have h2 : xs.map callL = cutL 59 s.data.toList := by
    have h3 : (xs.map callB).map (·.data.toList) = (cutB 59 s).map (·.data.toList) := by rw [h]
    unfold cutB at h3
    rw [List.map_map, List.map_map] at h3
    have e1 : ((fun x : ByteArray => x.data.toList) ∘ callB) = callL := rfl
    have e2 : ((fun x : ByteArray => x.data.toList) ∘ ofL) = id := rfl
    rwa [e1, e2, List.map_id] at h3
  unfold preB callsL
  rw [h2, join_cutL]
theorem pre_ne {ys : List CallV} (hne : ys ≠ []) : preB ys ≠ ⟨#[]⟩ := by
  intro e
  have h2 : callsL ys = [] := by
    have := congrArg (fun x : ByteArray => x.data.toList) e
    exact this
  cases ys with
  | nil => exact hne rfl
  | cons y ys =>
    unfold callsL at h2
    rw [List.map_cons, Lib.join_cons] at h2
    exact callL_ne y (List.append_eq_nil_iff.1 h2).1
theorem callsB_fit {xs : List CallV} (h : listFit xs = true) : callsB xs = preB xs := by simp [callsB, h]
/-- The lines of the text of some calls are their texts. -/
theorem lines_of {s : ByteArray} {ys : List CallV} (hs : s ≠ ⟨#[]⟩) (h : listFit ys = true) (e : callsB ys = s) : cutB 59 s = ys.map callB := by
  rw [callsB_fit h] at e
  have hne : ys ≠ [] := by
    rintro rfl
    exact hs (e.symm.trans pre_nil)
  rw [← e]
  exact cut_pre (listFit_iff.1 h).1 hne
theorem parsedS_line {s : ByteArray} {k : Nat} (hs : s ≠ ⟨#[]⟩) (hk : k < (cutB 59 s).length) (h : ∀ y : CallV, fitsC y = true → callB y ≠ nthS (cutB 59 s) k) : ∀ ys : List CallV, listFit ys = true → callsB ys ≠ s := by
  intro ys hf e
  have hl := lines_of hs hf e
  rw [hl, List.length_map] at hk
  have hy : ys[k]? = some ys[k] := List.getElem?_eq_getElem hk
  refine h ys[k] ((listFit_iff.1 hf).1 _ (List.getElem_mem hk)) ?_
  rw [hl]
  simp [nthS, hk]
theorem parsedS_long {s : ByteArray} (hs : s ≠ ⟨#[]⟩) (h : 12 < (cutB 59 s).length) : ∀ ys : List CallV, listFit ys = true → callsB ys ≠ s := by
  intro ys hf e
  rw [lines_of hs hf e, List.length_map] at h
  have := (listFit_iff.1 hf).2
  omega
theorem parsedS_done {s : ByteArray} {xs : List CallV} (hf : ∀ x ∈ xs, fitsC x = true) (hl : xs.length ≤ 12) (h : xs.map callB = cutB 59 s) : ParsedS s xs true := by
  have hf' := listFit_iff.2 ⟨hf, hl⟩
  exact .inl ⟨rfl, hf', by rw [callsB_fit hf']; exact pre_cut h⟩
theorem parsedS_empty : ParsedS ⟨#[]⟩ [] true := .inl ⟨rfl, rfl, by rw [callsB_fit rfl]; exact pre_nil⟩
theorem map_callB_inj : ∀ {xs ys : List CallV}, (∀ x ∈ xs, fitsC x = true) → (∀ y ∈ ys, fitsC y = true) → xs.map callB = ys.map callB → xs = ys
  | [], [], _, _, _ => rfl
  | [], y :: ys, _, _, h => by simp at h
  | x :: xs, [], _, _, h => by simp at h
  | x :: xs, y :: ys, h1, h2, h => by
    simp only [List.map_cons, List.cons.injEq] at h
    rw [callB_inj (h1 x (by simp)) (h2 y (by simp)) h.1, map_callB_inj (fun z hz => h1 z (List.mem_cons_of_mem _ hz)) (fun z hz => h2 z (List.mem_cons_of_mem _ hz)) h.2]
theorem callsB_inj {xs ys : List CallV} (hx : listFit xs = true) (hy : listFit ys = true) (h : callsB xs = callsB ys) : xs = ys := by
  by_cases hs : callsB ys = ⟨#[]⟩
  · have hs' := h.trans hs
    rw [callsB_fit hx] at hs'
    rw [callsB_fit hy] at hs
    by_cases h1 : xs = []
    · by_cases h2 : ys = []
      · rw [h1, h2]
      · exact absurd hs (pre_ne h2)
    · exact absurd hs' (pre_ne h1)
  · have e1 := lines_of hs hx h
    have e2 := lines_of hs hy rfl
    exact map_callB_inj (listFit_iff.1 hx).1 (listFit_iff.1 hy).1 (e1.symm.trans e2)
theorem ParsedS.uniq {s : ByteArray} {x y : List CallV} {a b : Bool} (h : ParsedS s x a) (h' : ParsedS s y b) : x = y ∧ a = b := by
  rcases h with ⟨rfl, h1, h2⟩ | ⟨rfl, h1, h2⟩ <;> rcases h' with ⟨rfl, h3, h4⟩ | ⟨rfl, h3, h4⟩
  · exact ⟨callsB_inj h1 h3 (h2.trans h4.symm), rfl⟩
  · exact absurd h2 (h4 x h1)
  · exact absurd h4 (h2 y h3)
  · exact ⟨h1.trans h3.symm, rfl⟩
theorem cut_len (a : UInt8) (s : ByteArray) : (cutB a s).length ≤ s.size + 1 := by
  unfold cutB
  rw [List.length_map]
  have := cutL_len_le a s.data.toList
  have e : s.data.toList.length = s.size := by simp
  omega
theorem lines_step {s : ByteArray} {k : Nat} {xs : List CallV} {x : CallV} (hk : k < (cutB 59 s).length) (h : xs.map callB = (cutB 59 s).take k) (hx : callB x = nthS (cutB 59 s) k) : (xs ++ [x]).map callB = (cutB 59 s).take (k + 1) := by
  rw [List.map_append, h, take_one (nthS_lt hk), List.map_cons, List.map_nil, hx]
theorem lines_len {s : ByteArray} {k : Nat} {xs : List CallV} (hk : k ≤ (cutB 59 s).length) (h : xs.map callB = (cutB 59 s).take k) : xs.length = k := by
  have := congrArg List.length h
  rw [List.length_map, List.length_take] at this
  omega
theorem fits_snoc {xs : List CallV} {x : CallV} (h : ∀ y ∈ xs, fitsC y = true) (hx : fitsC x = true) : ∀ y ∈ xs ++ [x], fitsC y = true := by
  intro y hy
  rcases List.mem_append.1 hy with hy | hy
  · exact h y hy
  · rw [List.mem_singleton.1 hy]; exact hx

theorem own_type {w : World} {lo e sz n : Nat} {v : Value} {xs : List Value} (h : w.ownsRow lo e sz v n xs) : ∀ g, v.ownBlock = some g → ∃ cur, w.heap[g]? = some (.cells cur e (0, 0)) := by
  intro g hg
  rcases h.2 with ⟨rfl, _⟩ | ⟨g', cap, cur, rfl, _, hh, _⟩
  · simp [Value.ownBlock] at hg
  · simp [Value.ownBlock] at hg
    subst hg
    exact ⟨cur, hh⟩
/-- Rows of different elements lie apart. -/
theorem apart_type {w : World} {lo lo' e e' sz sz' n n' : Nat} {v v' : Value} {xs xs' : List Value} (h : w.ownsRow lo e sz v n xs) (h' : w.ownsRow lo' e' sz' v' n' xs') (hne : e ≠ e') : Apart v v' := by
  intro g hg hg'
  obtain ⟨c1, h1⟩ := own_type h g hg
  obtain ⟨c2, h2⟩ := own_type h' g hg'
  rw [h1] at h2
  simp at h2
  exact hne h2.2

set_option maxRecDepth 100000 in
set_option maxHeartbeats 4000000 in
theorem CallsParse_spec (s : ByteArray) (w : World) (hs : s.size ≤ 1048577) :
    Calls Tryz.prog 6 #[.string s] w fun e w' => CsRes s w.heap.size e w' ∧ Below w.heap.size w w' := by
  have hO := Lib.hid (ownsRow_empty w 30 6)
  have hB := Lib.hid (below1 w (.cells #[] 30))
  by_cases h0 : s = ⟨#[]⟩
  · subst h0
    have cut0 : cutB 59 ⟨#[]⟩ = [⟨#[]⟩] := rfl
    go_enter Tryz.func6, Tryz.ntmps6
    go_wp2_with fail
    refine (l43Cut_59 ⟨#[]⟩ _ hs).mono ?_; rintro e w1 ⟨v, rfl, ho, b1⟩
    have hO1 := Lib.hid (OwnCalls.below (xs := []) hO.out b1)
    have hB1 := Lib.hid (hB.out.trans (b1.mono hB.out.size))
    rw [cut0] at ho
    obtain ⟨a, cap, rfl, _, _, _⟩ := ho.rd.open
    clear ho b1
    go_wp2_with fail
    refine wp_loop_rounds 1 ?_; rw [rounds_succ]
    go_wp2_with fail
    go_ret2
    exact ⟨⟨_, [], true, rfl, hO1.out, parsedS_empty⟩, hB1.out⟩
  have hse : s.toList.isEmpty = false := by
    rw [Bool.eq_false_iff]
    intro e
    exact h0 ((isEmpty_iff s).1 e)
  have Hk := Lib.hid (fun (k : Nat) (hk : k < (cutB 59 s).length) (h : ∀ y : CallV, fitsC y = true → callB y ≠ nthS (cutB 59 s) k) => parsedS_line h0 hk h)
  have Hl := Lib.hid (fun (h : 12 < (cutB 59 s).length) => parsedS_long h0 h)
  have Hs := Lib.hid (fun k => Nat.le_trans (piece_size 59 s k) hs)
  have hcl := cut_len 59 s
  have hcl' : (cutB 59 s).length ≤ 1048578 := by omega
  clear hcl h0
  go_enter Tryz.func6, Tryz.ntmps6
  go_wp2_with fail
  refine (l43Cut_59 s _ hs).mono ?_; rintro e w1 ⟨v, rfl, ho, b1⟩
  have hO1 := Lib.hid (OwnCalls.below (xs := []) hO.out b1)
  have hB1 := Lib.hid (hB.out.trans (b1.mono hB.out.size))
  obtain ⟨a, cap, rfl, hnc, hcm, hA⟩ := ho.rd.open
  have ho' := own_loV ho (lo' := w.heap.size) hB.out.size
  have HS := Lib.hid (show OwnStrs w.heap.size w1 (.slice a (cutB 59 s).length cap) (cutB 59 s) from ho')
  clear ho b1 hA ho'
  unfold maxLen at hcm
  go_wp2_with fail
  go_loopw [4, 6] (fun o i wr => ∃ (k : Nat) (xs : List CallV), k ≤ (cutB 59 s).length ∧ i = .int .i64 k ∧ xs.map callB = (cutB 59 s).take k ∧ (∀ x ∈ xs, fitsC x = true) ∧ OwnCalls w.heap.size wr o xs ∧ Below w.heap.size w wr ∧ OwnStrs w.heap.size wr (.slice a (cutB 59 s).length cap) (cutB 59 s)) (fun _ i _ => (cutB 59 s).length - (intOf i).toNat)
  case atStart => exact ⟨0, [], Nat.zero_le _, rfl, by simp, fun x hx => by simp at hx, hO1.out, hB1.out, HS.out⟩
  case round =>
    obtain ⟨k, xs, hk, rfl, hm, hf, hown, hbel, hb1⟩ := hrel
    have Hm := Lib.hid hm
    have Hf := Lib.hid hf
    have Ho := Lib.hid hown
    have Hb := Lib.hid hbel
    have H1 := Lib.hid hb1
    have hxl := lines_len hk hm
    obtain ⟨ao, co, rfl, _, _, _⟩ := hown.rd.open
    by_cases hlt : k < (cutB 59 s).length
    · obtain ⟨a', cap', hae, _, _, hA⟩ := hb1.rd.open
      obtain ⟨b, off, rfl, hbl, D⟩ := hA k hlt
      simp only [Value.slice.injEq] at hae
      obtain ⟨rfl, _, rfl⟩ := hae
      clear hm hf hown hbel hb1 hA
      go_wp2_with fail
      refine (CallParse_spec _ _ (Hs.out k)).mono ?_; rintro e w2 ⟨⟨x, ok, rfl, hp⟩, b2⟩
      have O2 := Lib.hid (Ho.out.below b2)
      have B2 := Lib.hid (Hb.out.trans (b2.mono Hb.out.size))
      have H2 := Lib.hid (H1.out.below b2)
      have B3 := Lib.hid (B2.out.trans ((below1 w2 (.cells x.cells 30)).mono B2.out.size))
      have H3 := Lib.hid (H2.out.below (below1 w2 (.cells x.cells 30)))
      have O3 := Lib.hid (O2.out.below (below1 w2 (.cells x.cells 30)))
      clear D b2
      rcases hp with ⟨rfl, hfx, hbx⟩ | ⟨rfl, rfl, hno⟩
      · have S := Lib.hid (lines_step hlt Hm.out hbx)
        have Sf := Lib.hid (fits_snoc Hf.out hfx)
        clear hfx hbx
        have o3 := O3.out
        have hsz := B3.out.size
        unfold OwnCalls at o3
        have Ef : callCells (xs ++ [x]) = callCells xs ++ callCs x := by simp only [callCells, flat_append, flat_one]
        have HEf := Lib.hid Ef
        clear Ef
        obtain ⟨xk, xe, xa, xb, xc, xn⟩ := x
        simp only [CallV.val, CallV.cells] at o3 hsz B3 H3 ⊢
        have hOr := o3
        clear o3
        go_wp2_with (at_builtin; go_must (refine wp_append (lo := w.heap.size) (n := xs.length) (xs := callCells xs) (m := 1) (news := callCs ⟨xk, xe, xa, xb, xc, xn⟩) rfl rfl 30 _ 6 56 Tryz.underlying24 Tryz.infoCall rfl (by decide) rfl (ownsRow_below hOr (below1 _ _)) rfl (Rd.newsAt _ (CallV.mk xk xe xa xb xc xn).cells _ 6 1 _ (by simp [CallV.cells]) rfl (by simp [maxLen])) (by simp [callCs, CallV.cells, Value.oneCell']) (by unfold maxLen; omega) (by omega) (by simp at hsz ⊢; omega) ?_; intro o' w4 g1 g2 g3))
        go_roundw
        case rel =>
          refine ⟨k + 1, xs ++ [⟨xk, xe, xa, xb, xc, xn⟩], by omega, by go_num, S.out, Sf.out, ?_, B3.out.trans (((below1 _ _).mono hsz).trans g3), ?_⟩
          · unfold OwnCalls
            rw [HEf.out, List.length_append]
            exact g1
          · have h4 := OwnStrs.below H3.out (below1 _ (.cells (CallV.mk xk xe xa xb xc xn).cells 30))
            exact own_grown h4 g2 (apart_type h4 (ownsRow_below hOr (below1 _ (.cells (CallV.mk xk xe xa xb xc xn).cells 30))) (by decide)).ne
        case measure => simp [intOf]; omega
      · have P := Lib.hid (Hk.out k hlt hno)
        have Q := Lib.hid (below1 (w2.alloc (.cells CallV.zero.cells 30)) (.cells #[] 30))
        have hsz := B3.out.size
        have qo := own_loV (ownsRow_empty (w2.alloc (.cells CallV.zero.cells 30)) 30 6) hsz
        rw [World.size_alloc] at qo
        have QO := Lib.hid (show OwnCalls w.heap.size _ (.slice (some ⟨w2.heap.size + 1, 0, none⟩) 0 0) [] from qo)
        clear qo
        simp only [CallV.val, CallV.cells, CallV.zero] at Q QO hsz B3 ⊢
        go_wp2_with fail
        go_ret2
        exact ⟨⟨_, [], false, rfl, QO.out, .inr ⟨rfl, rfl, P.out⟩⟩, B3.out.trans (Q.out.mono hsz)⟩
    · obtain rfl : k = (cutB 59 s).length := by omega
      rw [List.take_of_length_le (Nat.le_refl _)] at hm
      by_cases h12 : xs.length ≤ 12
      · have P := Lib.hid (parsedS_done hf h12 hm)
        have t12 : ¬ (12 : Int) < xs.length := by omega
        have Hxl := Lib.hid hxl
        clear hm hf hown hbel hb1 hxl h12
        go_wp2_with fail
        go_ret2
        exact ⟨⟨_, xs, true, rfl, Ho.out, P.out⟩, Hb.out⟩
      · have P := Lib.hid (Hl.out (by omega))
        have t12 : (12 : Int) < xs.length := by omega
        have Q := Lib.hid (below1 wr (.cells #[] 30))
        have QO := Lib.hid ((ownsRow_empty wr 30 6))
        have hsz := Hb.out.size
        have Hxl := Lib.hid hxl
        clear hm hf hown hbel hb1 hxl h12
        go_wp2_with fail
        go_ret2
        exact ⟨⟨_, [], false, rfl, own_loV QO.out hsz, .inr ⟨rfl, rfl, P.out⟩⟩, Hb.out.trans (Q.out.mono hsz)⟩
end Go.Proofs.YtgdehdfbdjgmdaaGreatDoor
