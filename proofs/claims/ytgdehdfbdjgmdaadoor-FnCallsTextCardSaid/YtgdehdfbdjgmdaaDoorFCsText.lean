/-
  The law laws.FnCallsText returns true for every drawn list of calls. Conditions: some variables of the library lie as laid.
-/
import Derived.Test.YtgdehdfbdjgmdaaDoorFCsOne
import Derived.Test.YtgdehdfbdjgmdaaDoorDrCs
set_option linter.unusedVariables false
set_option linter.unusedSimpArgs false
namespace Go.Proofs.YtgdehdfbdjgmdaaDoor
open Go.RowKit

def fineP (xs : List CallV) (k : Nat) : Bool := decide (xs.length ≤ 12) && (xs.take k).all fitsC
theorem fine_step {xs : List CallV} {k : Nat} {x : CallV} (hx : xs[k]? = some x) : fineP xs (k + 1) = (fineP xs k && fitsC x) := by
  unfold fineP
  rw [take_one hx, List.all_append, Bool.and_assoc]
  simp
theorem fine_end (xs : List CallV) : fineP xs xs.length = listFit xs := by
  unfold fineP listFit
  rw [List.take_of_length_le (Nat.le_refl _), Bool.and_comm]
theorem callsB_size (xs : List CallV) : (callsB xs).size ≤ 500 := by
  unfold callsB
  split
  · next hf =>
    have h1 := listFit_iff.1 hf
    have := pre_size h1.1
    omega
  · exact Nat.zero_le _

set_option maxRecDepth 100000 in
set_option maxHeartbeats 4000000 in
theorem fnCallsText.walkR (v : Value) (bs : List Int) (w : World) (h : RdBytes w v bs) (ht : PTabs w) :
    Calls Tryd.prog 12 #[v] w fun e w' => e = .returned (.bool true) ∧ Below w.heap.size w w' := by
  obtain ⟨a, c, hv, hc, hcm, _⟩ := h.open
  subst hv
  unfold maxLen at hcm
  have Ht := Lib.hid ht; clear ht
  by_cases hl : 1048576 < bs.length
  · have t0 : (1048576 : Int) < bs.length := by omega
    go_enter Tryd.func12, Tryd.ntmps12
    go_wp2_with fail
    go_ret
    exact ⟨rfl, Below.refl _ _⟩
  have t0 : ¬ (1048576 : Int) < bs.length := by omega
  go_enter Tryd.func12, Tryd.ntmps12
  go_wp2_with fail
  refine (DrawCallsText_any _ bs _ h).mono ?_; rintro e w1 ⟨⟨v1, xs, rfl, r1, hx, hxl⟩, b1⟩
  have hsm : SmallC xs := fun x hm => Nat.le_trans (hx x hm) (by decide)
  have R1 := Lib.hid r1
  have B1 := Lib.hid b1
  have Hsm := Lib.hid hsm
  obtain ⟨a1, c1, rfl, _, hcm1, H0⟩ := r1.open
  have hz := callsB_size xs
  clear r1 b1 hsm hx
  go_wp2_with fail
  refine (CallsText_impl _ xs _ R1.out Hsm.out (Ht.out.below B1.out).1).mono ?_; rintro e w2 ⟨rfl, b2⟩
  have B2 := Lib.hid (B1.out.trans (b2.mono B1.out.size))
  have R2 := Lib.hid (R1.out.below b2)
  clear b2 R1
  go_wp2_with fail
  refine (CallsText_spec _ xs _ R2.out Hsm.out).mono ?_; rintro e w3 ⟨rfl, b3⟩
  have B3 := Lib.hid (B2.out.trans (b3.mono B2.out.size))
  have R3 := Lib.hid (R2.out.below b3)
  clear b3 R2 H0
  obtain ⟨_, _, he, _, _, H0⟩ := R3.out.open
  simp only [Value.slice.injEq, true_and] at he
  obtain ⟨rfl, rfl⟩ := he
  have hq := sameSelf (callsB xs)
  have P := Lib.hid (show (listFit xs = true → ParsedS (callsB xs) xs true) ∧ (listFit xs = false → callsB xs = ⟨#[]⟩) from ⟨fun hf => .inl ⟨rfl, hf, rfl⟩, fun hf => by simp [callsB, hf]⟩)
  generalize callsB xs = q at hq P hz ⊢
  have F0 := Lib.hid (show decide ((xs.length : Int) ≤ 12) = fineP xs 0 by simp [fineP]; omega)
  go_wp2_with fail
  go_loopw [6, 7] (fun f i wr => ∃ k : Nat, k ≤ xs.length ∧ i = .int .i64 k ∧ f = .bool (fineP xs k) ∧ Below w3.heap.size w3 wr) (fun _ i _ => xs.length - (intOf i).toNat)
  case atStart => exact ⟨0, Nat.zero_le _, rfl, by rw [← F0.out], Below.refl _ _⟩
  case round =>
    obtain ⟨k, hk, rfl, rfl, hbel⟩ := hrel
    have Hb := Lib.hid hbel
    by_cases hlt : k < xs.length
    · obtain ⟨x, hx⟩ : ∃ x, xs[k]? = some x := ⟨_, List.getElem?_eq_getElem hlt⟩
      obtain ⟨b, off, rfl, D0, D1, D2, D3, D4, D5⟩ := H0.six hbel hx
      have F := Lib.hid (fun w => CallFits_impl x w (Hsm.out x (List.mem_of_getElem? hx)))
      have St := Lib.hid (fine_step hx)
      clear hx hbel
      cases hf : fineP xs k
      · rw [hf] at St
        have St := Lib.hid (show fineP xs (k + 1) = false by rw [St.out]; rfl)
        clear hf
        go_wp2_with fail
        go_roundw
        case rel => exact ⟨k + 1, by omega, by go_num, by rw [St.out], Hb.out⟩
        case measure => simp [intOf]; omega
      · rw [hf] at St
        have St := Lib.hid (show fineP xs (k + 1) = fitsC x by rw [St.out]; rfl)
        clear hf
        obtain ⟨xk, xe, xa, xb, xc, xn⟩ := x
        simp only [CallV.val, CallV.cells] at F D0 D1 D2 D3 D4 D5
        generalize fitsC ⟨xk, xe, xa, xb, xc, xn⟩ = f at F St
        go_wp2_with fail
        refine (F.out _).mono ?_; rintro e w5 ⟨rfl, b5⟩
        have Hb5 := Lib.hid (Hb.out.trans (b5.mono Hb.out.size))
        clear D0 D1 D2 D3 D4 D5 b5
        go_wp2_with fail
        go_roundw
        case rel => exact ⟨k + 1, by omega, by go_num, by rw [St.out], Hb5.out⟩
        case measure => simp [intOf]; omega
    · obtain rfl : k = xs.length := by omega
      have hB : Below w.heap.size w wr := B3.out.trans (hbel.mono B3.out.size)
      have HB := Lib.hid hB
      have R := Lib.hid (R3.out.below hbel)
      have C := Lib.hid (fun w h => CallsParse_impl q w (by omega) h)
      rw [fine_end]
      clear hbel hB Hb H0
      cases hf : listFit xs
      · have hq0 := P.out.2 hf
        subst hq0
        clear hf P
        have e0 : ((⟨#[]⟩ : ByteArray).toList.isEmpty) = true := (isEmpty_iff _).2 rfl
        go_wp2_with fail
        refine (C.out _ (Ht.out.below HB.out)).mono ?_; rintro e w6 ⟨⟨v6, ys, ok, rfl, o6, p6⟩, b6⟩
        obtain ⟨rfl, rfl⟩ := p6.uniq parsedS_empty
        have B6 := Lib.hid (HB.out.trans (b6.mono HB.out.size))
        obtain ⟨a6, c6, rfl, _, _, _⟩ := o6.rd.open
        clear o6 p6 b6
        go_wp2_with fail
        go_ret
        exact ⟨rfl, B6.out⟩
      · have Px := Lib.hid (P.out.1 hf)
        clear hf P
        go_wp2_with fail
        refine (C.out _ (Ht.out.below HB.out)).mono ?_; rintro e w6 ⟨⟨v6, ys, ok, rfl, o6, p6⟩, b6⟩
        obtain ⟨rfl, rfl⟩ := p6.uniq Px.out
        have B6 := Lib.hid (HB.out.trans (b6.mono HB.out.size))
        have R6 := Lib.hid o6.rd
        have R7 := Lib.hid (R.out.below b6)
        obtain ⟨a6, c6, rfl, _, _, _⟩ := o6.rd.open
        clear o6 p6 b6
        go_wp2_with fail
        refine (sameCallList_same _ _ _ _ R6.out R7.out).mono ?_; rintro e w7 ⟨rfl, b7⟩
        go_wp2_with fail
        go_ret
        exact ⟨rfl, B6.out.trans (b7.mono B6.out.size)⟩
end Go.Proofs.YtgdehdfbdjgmdaaDoor
