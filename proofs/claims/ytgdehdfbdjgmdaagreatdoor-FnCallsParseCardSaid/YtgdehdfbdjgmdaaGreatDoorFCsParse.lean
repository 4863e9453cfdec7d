/-
  The law laws.FnCallsParse returns true for every drawn text. Conditions: some variables of the library lie as laid.
-/
import Derived.Test.YtgdehdfbdjgmdaaGreatDoorFCsOne
import Derived.Test.YtgdehdfbdjgmdaaGreatDoorDrPs
set_option linter.unusedVariables false
set_option linter.unusedSimpArgs false
namespace Go.Proofs.YtgdehdfbdjgmdaaGreatDoor
open Go.RowKit

set_option maxRecDepth 100000 in
set_option maxHeartbeats 4000000 in
theorem fnCallsParse.walkR (v : Value) (bs : List Int) (w : World) (h : RdBytes w v bs) (ht : PTabs w) :
    Calls Tryz.prog 3 #[v] w fun e w' => e = .returned (.bool true) ∧ Below w.heap.size w w' := by
  obtain ⟨a, c, hv, hc, hcm, _⟩ := h.open
  subst hv
  unfold maxLen at hcm
  have Ht := Lib.hid ht; clear ht
  by_cases hl : 1048576 < bs.length
  · have t0 : (1048576 : Int) < bs.length := by omega
    go_enter Tryz.func3, Tryz.ntmps3
    go_wp2_with fail
    go_ret
    exact ⟨rfl, Below.refl _ _⟩
  have t0 : ¬ (1048576 : Int) < bs.length := by omega
  go_enter Tryz.func3, Tryz.ntmps3
  go_wp2_with fail
  refine (DrawCallsParse_any _ bs _ h).mono ?_; rintro e w1 ⟨⟨s, rfl, hs⟩, b1⟩
  have hs' : s.size ≤ 1048577 := by omega
  have B1 := Lib.hid b1
  clear b1
  go_wp2_with fail
  refine (CallsParse_impl s _ hs' (Ht.out.below B1.out)).mono ?_; rintro e w2 ⟨⟨v2, xs0, ok0, rfl, o2, hp⟩, b2⟩
  have B2 := Lib.hid (B1.out.trans (b2.mono B1.out.size))
  have Hp := Lib.hid hp
  have R2 := Lib.hid o2.rd
  obtain ⟨a2, c2, rfl, _, _, _⟩ := o2.rd.open
  clear b2 hp o2
  go_wp2_with fail
  refine (CallsParse_spec s _ hs').mono ?_; rintro e w3 ⟨⟨v3, xs, ok, rfl, o3, hp3⟩, b3⟩
  obtain ⟨rfl, rfl⟩ := hp3.uniq Hp.out
  have B3 := Lib.hid (B2.out.trans (b3.mono B2.out.size))
  have R3 := Lib.hid (R2.out.below b3)
  have R4 := Lib.hid o3.rd
  obtain ⟨a3, c3, rfl, _, _, _⟩ := o3.rd.open
  clear b3 hp3 o3 R2
  have E := Lib.hid (fun w' (hb : Below w3.heap.size w3 w') => sameCallList_same _ _ xs w' (R3.out.below hb) (R4.out.below hb))
  rcases Hp.out with ⟨rfl, hf, ht⟩ | ⟨rfl, rfl, _⟩
  · have hall := (listFit_iff.1 hf).1
    have hlen := (listFit_iff.1 hf).2
    have Hall := Lib.hid hall
    have S := Lib.hid (show preB (xs.take xs.length) = s by rw [List.take_of_length_le (Nat.le_refl _), ← callsB_fit hf]; exact ht)
    have hsm : SmallC xs := fun x hm => by
      obtain ⟨_, _, _, _, _, _, _, _, _, _, _, _, h7, _⟩ := fits_ranges (hall x hm)
      exact Nat.le_trans h7 (by decide)
    have Hsm := Lib.hid hsm
    have T := Lib.hid (fun w' (hb : Below w3.heap.size w3 w') h => CallsText_impl _ xs w' (R3.out.below hb) hsm h)
    rw [ht] at T
    clear hf ht hall hsm
    go_wp2_with fail
    refine (E.out _ (Below.refl _ _)).mono ?_; rintro e w4 ⟨rfl, b4⟩
    have hB4 := Lib.hid b4
    clear b4
    obtain ⟨_, _, he, _, hcm2, H0⟩ := (R3.out.below hB4.out).open
    simp only [Value.slice.injEq, true_and] at he
    obtain ⟨rfl, rfl⟩ := he
    unfold maxLen at hcm2
    go_wp2_with fail
    go_loopw [8, 9] (fun o i wr => ∃ k : Nat, k ≤ xs.length ∧ i = .int .i64 k ∧ o = .string (preB (xs.take k)) ∧ Below w4.heap.size w4 wr) (fun _ i _ => xs.length - (intOf i).toNat)
    case atStart => exact ⟨0, Nat.zero_le _, rfl, by rw [List.take_zero, pre_nil], Below.refl _ _⟩
    case round =>
      obtain ⟨k, hk, rfl, rfl, hbel⟩ := hrel
      have Hb := Lib.hid hbel
      by_cases hlt : k < xs.length
      · obtain ⟨x, hx⟩ : ∃ x, xs[k]? = some x := ⟨_, List.getElem?_eq_getElem hlt⟩
        have hm := List.mem_of_getElem? hx
        have T := Lib.hid (fun w h => CallText_impl x w (Hsm.out x hm) h)
        have ht : textB x = callB x := by simp [textB, Hall.out x hm]
        rw [ht] at T
        have hz := pre_size (take_fit (k := k) Hall.out)
        rw [List.length_take] at hz
        have hzx := callB_size (Hall.out x hm)
        have hi : (k : Int) < xs.length := by omega
        obtain ⟨b, off, rfl, D0, D1, D2, D3, D4, D5⟩ := H0.six hbel hx
        have HT := Lib.hid (Ht.out.below (B3.out.trans ((hB4.out.trans (Hb.out.mono hB4.out.size)).mono B3.out.size))).1
        by_cases hk0 : k = 0
        · have N := Lib.hid (pre_first (hk0 ▸ hx))
          have N0 := Lib.hid (show preB (xs.take k) = ⟨#[]⟩ by rw [hk0, List.take_zero, pre_nil])
          have t0 : ¬ (0 : Int) < k := by omega
          have Hk0 := Lib.hid hk0
          clear hbel hk0 hx hm ht
          obtain ⟨xk, xe, xa, xb, xc, xn⟩ := x
          simp only [CallV.val, CallV.cells] at T D0 D1 D2 D3 D4 D5
          generalize hcb : callB ⟨xk, xe, xa, xb, xc, xn⟩ = cb at T N hzx
          have n1 : ¬ 9223372036854775807 < (preB (xs.take k)).size + cb.size := by omega
          clear hcb
          go_wp2_with fail
          refine (T.out _ HT.out).mono ?_; rintro e w6 ⟨rfl, b6⟩
          have Hb2 := Lib.hid (Hb.out.trans (b6.mono Hb.out.size))
          clear D0 D1 D2 D3 D4 D5 b6
          go_wp2_with fail
          go_roundw
          case rel => exact ⟨k + 1, by omega, by go_num, by rw [N0.out, show k + 1 = 1 by have := Hk0.out; omega, N.out, empty_app], Hb2.out⟩
          case measure => simp [intOf]; omega
        · have N := Lib.hid (pre_step hx (by omega))
          have t0 : (0 : Int) < k := by omega
          clear hbel hk0 hx hm ht
          obtain ⟨xk, xe, xa, xb, xc, xn⟩ := x
          simp only [CallV.val, CallV.cells] at T D0 D1 D2 D3 D4 D5
          generalize hcb : callB ⟨xk, xe, xa, xb, xc, xn⟩ = cb at T N hzx
          have n0 : ¬ 9223372036854775807 < (preB (xs.take k)).size + 1 := by omega
          have n1 : ¬ 9223372036854775807 < (preB (xs.take k)).size + 1 + cb.size := by omega
          clear hcb
          go_wp2_with fail
          refine (T.out _ HT.out).mono ?_; rintro e w6 ⟨rfl, b6⟩
          have Hb2 := Lib.hid (Hb.out.trans (b6.mono Hb.out.size))
          clear D0 D1 D2 D3 D4 D5 b6
          go_wp2_with fail
          go_roundw
          case rel => exact ⟨k + 1, by omega, by go_num, by rw [N.out], Hb2.out⟩
          case measure => simp [intOf]; omega
      · obtain rfl : k = xs.length := by omega
        have hB := hB4.out.trans (hbel.mono hB4.out.size)
        have HB := Lib.hid (B3.out.trans (hB.mono B3.out.size))
        have hB := Lib.hid hB
        rw [S.out]
        have hq := sameSelf s
        clear hbel H0
        go_wp2_with fail
        refine (T.out _ hB.out (Ht.out.below HB.out).1).mono ?_; rintro e w6 ⟨rfl, b6⟩
        go_wp2_with fail
        go_ret
        exact ⟨rfl, HB.out.trans (b6.mono HB.out.size)⟩
  · go_wp2_with fail
    refine (E.out _ (Below.refl _ _)).mono ?_; rintro e w4 ⟨rfl, b4⟩
    have hB4 := Lib.hid b4
    clear b4
    go_wp2_with fail
    refine (E.out _ hB4.out).mono ?_; rintro e w5 ⟨rfl, b5⟩
    go_wp2_with fail
    go_ret
    exact ⟨rfl, B3.out.trans ((hB4.out.trans (b5.mono hB4.out.size)).mono B3.out.size)⟩
end Go.Proofs.YtgdehdfbdjgmdaaGreatDoor
