/-
  Walks: calls read out of a text, by the program. Condition: some variables of the library lie as laid.
-/
import Derived.Test.YtgdehdfbdjgmdaaGreatDoorCsParse
set_option linter.unusedVariables false
set_option linter.unusedSimpArgs false
namespace Go.Proofs.YtgdehdfbdjgmdaaGreatDoor
open Go.RowKit

set_option maxRecDepth 100000 in
set_option maxHeartbeats 4000000 in
theorem CallsParse_impl (s : ByteArray) (w : World) (hs : s.size ≤ 1048577) (ht : PTabs w) :
    Calls Tryz.prog 5 #[.string s] w fun e w' => CsRes s w.heap.size e w' ∧ Below w.heap.size w w' := by
  have Ht := Lib.hid ht
  by_cases h0 : s = ⟨#[]⟩
  · subst h0
    go_enter Tryz.func5, Tryz.ntmps5
    go_wp2_with fail
    go_ret2
    exact ⟨⟨_, [], true, rfl, ⟨rfl, .inl ⟨rfl, rfl⟩⟩, parsedS_empty⟩, Below.refl _ _⟩
  have hse : s.toList.isEmpty = false := by
    rw [Bool.eq_false_iff]
    intro e
    exact h0 ((isEmpty_iff s).1 e)
  have Hk := Lib.hid (fun (k : Nat) (hk : k < (cutB 59 s).length) (h : ∀ y : CallV, fitsC y = true → callB y ≠ nthS (cutB 59 s) k) => parsedS_line h0 hk h)
  have Hl := Lib.hid (fun (h : 12 < (cutB 59 s).length) => parsedS_long h0 h)
  have Hs := Lib.hid (fun k => Nat.le_trans (piece_size 59 s k) hs)
  have hcl := cut_len 59 s
  have hcl' : (cutB 59 s).length ≤ 1048578 := by omega
  clear hcl h0
  go_enter Tryz.func5, Tryz.ntmps5
  go_wp2_with fail
  refine (Split_any s 59 _ hs Ht.out).mono ?_; rintro e w1 ⟨v, rfl, ho, b1⟩
  have hB1 := Lib.hid b1
  obtain ⟨a, cap, rfl, hnc, hcm, hA⟩ := ho.rd.open
  have ho' := own_loV ho (lo' := w.heap.size) (Nat.le_refl _)
  have HS := Lib.hid (show OwnStrs w.heap.size w1 (.slice a (cutB 59 s).length cap) (cutB 59 s) from ho')
  clear ho b1 hA ho'
  unfold maxLen at hcm
  by_cases h12 : 12 < (cutB 59 s).length
  · have P := Lib.hid (Hl.out h12)
    have t12 : (12 : Int) < (cutB 59 s).length := by omega
    clear h12
    go_wp2_with fail
    go_ret2
    exact ⟨⟨_, [], false, rfl, ⟨rfl, .inl ⟨rfl, rfl⟩⟩, .inr ⟨rfl, rfl, P.out⟩⟩, hB1.out⟩
  have t12 : ¬ (12 : Int) < (cutB 59 s).length := by omega
  go_wp2_with fail
  go_loopw [5, 19] (fun o i wr => ∃ (k : Nat) (xs : List CallV), k ≤ (cutB 59 s).length ∧ i = .int .i64 k ∧ xs.map callB = (cutB 59 s).take k ∧ (∀ x ∈ xs, fitsC x = true) ∧ OwnCalls w.heap.size wr o xs ∧ Below w.heap.size w wr ∧ OwnStrs w.heap.size wr (.slice a (cutB 59 s).length cap) (cutB 59 s)) (fun _ i _ => (cutB 59 s).length - (intOf i).toNat)
  case atStart => exact ⟨0, [], Nat.zero_le _, rfl, by simp, fun x hx => by simp at hx, ⟨rfl, .inl ⟨rfl, rfl⟩⟩, hB1.out, HS.out⟩
  case round =>
    obtain ⟨k, xs, hk, rfl, hm, hf, hown, hbel, hb1⟩ := hrel
    have Hm := Lib.hid hm
    have Hf := Lib.hid hf
    have Ho := Lib.hid hown
    have Hb := Lib.hid hbel
    have H1 := Lib.hid hb1
    have hxl := lines_len hk hm
    obtain ⟨ao, co, rfl, _, _, _⟩ := hown.rd.open
    by_cases hlt : k < (cutB 59 s).length
    · obtain ⟨a', cap', hae, _, _, hA⟩ := hb1.rd.open
      obtain ⟨b, off, rfl, hbl, D⟩ := hA k hlt
      simp only [Value.slice.injEq] at hae
      obtain ⟨rfl, _, rfl⟩ := hae
      clear hm hf hown hbel hb1 hA
      go_wp2_with fail
      refine (CallParse_impl _ _ (Hs.out k) (Ht.out.below Hb.out)).mono ?_; rintro e w2 ⟨⟨x, ok, rfl, hp⟩, b2⟩
      have O2 := Lib.hid (Ho.out.below b2)
      have B2 := Lib.hid (Hb.out.trans (b2.mono Hb.out.size))
      have H2 := Lib.hid (H1.out.below b2)
      have B3 := Lib.hid (B2.out.trans ((below1 w2 (.cells x.cells 30)).mono B2.out.size))
      have H3 := Lib.hid (H2.out.below (below1 w2 (.cells x.cells 30)))
      have O3 := Lib.hid (O2.out.below (below1 w2 (.cells x.cells 30)))
      clear D b2
      rcases hp with ⟨rfl, hfx, hbx⟩ | ⟨rfl, rfl, hno⟩
      · have S := Lib.hid (lines_step hlt Hm.out hbx)
        have Sf := Lib.hid (fits_snoc Hf.out hfx)
        clear hfx hbx
        have o3 := O3.out
        have hsz := B3.out.size
        unfold OwnCalls at o3
        have Ef : callCells (xs ++ [x]) = callCells xs ++ callCs x := by simp only [callCells, flat_append, flat_one]
        have HEf := Lib.hid Ef
        clear Ef
        obtain ⟨xk, xe, xa, xb, xc, xn⟩ := x
        simp only [CallV.val, CallV.cells] at o3 hsz B3 H3 ⊢
        have hOr := o3
        clear o3
        go_wp2_with (at_builtin; go_must (refine wp_append (lo := w.heap.size) (n := xs.length) (xs := callCells xs) (m := 1) (news := callCs ⟨xk, xe, xa, xb, xc, xn⟩) rfl rfl 30 _ 6 56 Tryz.underlying24 Tryz.infoCall rfl (by decide) rfl (ownsRow_below hOr (below1 _ _)) rfl (Rd.newsAt _ (CallV.mk xk xe xa xb xc xn).cells _ 6 1 _ (by simp [CallV.cells]) rfl (by simp [maxLen])) (by simp [callCs, CallV.cells, Value.oneCell']) (by unfold maxLen; omega) (by omega) (by simp at hsz ⊢; omega) ?_; intro o' w4 g1 g2 g3))
        go_roundw
        case rel =>
          refine ⟨k + 1, xs ++ [⟨xk, xe, xa, xb, xc, xn⟩], by omega, by go_num, S.out, Sf.out, ?_, B3.out.trans (((below1 _ _).mono hsz).trans g3), ?_⟩
          · unfold OwnCalls
            rw [HEf.out, List.length_append]
            exact g1
          · have h4 := OwnStrs.below H3.out (below1 _ (.cells (CallV.mk xk xe xa xb xc xn).cells 30))
            exact own_grown h4 g2 (apart_type h4 (ownsRow_below hOr (below1 _ (.cells (CallV.mk xk xe xa xb xc xn).cells 30))) (by decide)).ne
        case measure => simp [intOf]; omega
      · have P := Lib.hid (Hk.out k hlt hno)
        simp only [CallV.val, CallV.cells, CallV.zero] at B3 ⊢
        go_wp2_with fail
        go_ret2
        exact ⟨⟨_, [], false, rfl, ⟨rfl, .inl ⟨rfl, rfl⟩⟩, .inr ⟨rfl, rfl, P.out⟩⟩, B3.out⟩
    · obtain rfl : k = (cutB 59 s).length := by omega
      rw [List.take_of_length_le (Nat.le_refl _)] at hm
      have P := Lib.hid (parsedS_done hf (by omega) hm)
      clear hm hf hown hbel hb1 hxl
      go_wp2_with fail
      go_ret2
      exact ⟨⟨_, xs, true, rfl, Ho.out, P.out⟩, Hb.out⟩
end Go.Proofs.YtgdehdfbdjgmdaaGreatDoor
