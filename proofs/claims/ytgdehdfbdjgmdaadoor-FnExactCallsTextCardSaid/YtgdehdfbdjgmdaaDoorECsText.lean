/-
  The law laws.FnExactCallsText returns true for every list of calls. Condition: the table of strconv.Itoa lies as laid.
-/
import Derived.Test.YtgdehdfbdjgmdaaDoorCsText
set_option linter.unusedVariables false
namespace Go.Proofs.YtgdehdfbdjgmdaaDoor.fnExactCallsText
open Go.RowKit
open Go.Proofs.YtgdehdfbdjgmdaaDoor

set_option maxHeartbeats 2000000 in
theorem walkR (v : Value) (xs : List CallV) (w : World) (h : RdCalls w v xs ∧ SmallC xs) (ht : Tabs w) :
    Calls Tryd.prog 5 #[v] w fun e w' => e = .returned (.bool true) ∧ Below w.heap.size w w' := by
  obtain ⟨hr, hs⟩ := h
  obtain ⟨a, c, rfl, hc, hcm, _⟩ := hr.open
  have Z := Lib.hid (fun w' (hb : Below w.heap.size w w') => szCallS_any _ xs 1048576 w' (hr.below hb) (by decide) (by decide))
  have C := Lib.hid (fun w' (hb : Below w.heap.size w w') hl => toCallS_any _ xs w' (hr.below hb) hl)
  have Ht := Lib.hid ht
  clear hr ht
  go_enter Tryd.func5, Tryd.ntmps5
  go_wp2_with fail
  refine (Z.out _ (Below.refl _ _)).mono ?_; rintro e w1 ⟨⟨r, rfl, hrl⟩, b1⟩
  by_cases hr0 : r < 0
  · go_wp2_with fail
    go_ret
    exact ⟨rfl, b1⟩
  have hl := hrl (by omega)
  have B1 := Lib.hid b1
  clear hrl b1
  go_wp2_with fail
  refine (C.out _ B1.out hl).mono ?_; rintro e w2 ⟨v2, rfl, o2, b2⟩
  have B2 := Lib.hid (B1.out.trans (b2.mono B1.out.size))
  have R2 := Lib.hid o2.rd
  obtain ⟨a2, c2, rfl, _, _, _⟩ := o2.rd.open
  clear o2 b2
  go_wp2_with fail
  refine (CallsText_spec _ xs _ R2.out hs).mono ?_; rintro e w3 ⟨rfl, b3⟩
  have B3 := Lib.hid (B2.out.trans (b3.mono B2.out.size))
  clear b3 R2
  go_wp2_with fail
  refine (C.out _ B3.out hl).mono ?_; rintro e w4 ⟨v4, rfl, o4, b4⟩
  have B4 := Lib.hid (B3.out.trans (b4.mono B3.out.size))
  have R4 := Lib.hid o4.rd
  obtain ⟨a4, c4, rfl, _, _, _⟩ := o4.rd.open
  clear o4 b4
  go_wp2_with fail
  refine (CallsText_impl _ xs _ R4.out hs (Ht.out.below B4.out)).mono ?_; rintro e w5 ⟨rfl, b5⟩
  have B5 := Lib.hid (B4.out.trans (b5.mono B4.out.size))
  have R5 := Lib.hid (R4.out.below b5)
  clear b5 R4
  have hq := sameSelf (callsB xs)
  generalize callsB xs = q at hq ⊢
  go_wp2_with fail
  refine (C.out _ B5.out hl).mono ?_; rintro e w6 ⟨v6, rfl, o6, b6⟩
  have B6 := Lib.hid (B5.out.trans (b6.mono B5.out.size))
  have R6 := Lib.hid o6.rd
  have R7 := Lib.hid (R5.out.below b6)
  obtain ⟨a6, c6, rfl, _, _, _⟩ := o6.rd.open
  clear o6 b6
  go_wp2_with fail
  refine (eqCallS_same _ _ xs _ R7.out R6.out).mono ?_; rintro e w7 ⟨rfl, b7⟩
  go_wp2_with fail
  go_ret
  exact ⟨rfl, B6.out.trans (b7.mono B6.out.size)⟩
end Go.Proofs.YtgdehdfbdjgmdaaDoor.fnExactCallsText
