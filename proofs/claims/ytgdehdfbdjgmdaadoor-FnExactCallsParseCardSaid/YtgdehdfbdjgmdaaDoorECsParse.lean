/-
  The law laws.FnExactCallsParse returns true for every text. Conditions: some variables of the library lie as laid.
-/
import Derived.Test.YtgdehdfbdjgmdaaDoorCsParsI
import Derived.Test.YtgdehdfbdjgmdaaDoorCsMark
set_option linter.unusedVariables false
set_option linter.unusedSimpArgs false
namespace Go.Proofs.YtgdehdfbdjgmdaaDoor.fnExactCallsParse
open Go.RowKit
open Go.Proofs.YtgdehdfbdjgmdaaDoor

theorem few {s : ByteArray} {xs : List CallV} {ok : Bool} (h : ParsedS s xs ok) : xs.length ≤ 12 := by
  rcases h with ⟨_, h, _⟩ | ⟨_, rfl, _⟩
  · exact (listFit_iff.1 h).2
  · exact Nat.zero_le _

set_option maxRecDepth 100000 in
set_option maxHeartbeats 4000000 in
theorem walkR (s : ByteArray) (w : World) (_ : s.size ≤ maxLen) (ht : PTabs w) :
    Calls Tryd.prog 11 #[.string s] w fun e w' => e = .returned (.bool true) ∧ Below w.heap.size w w' := by
  have Ht := Lib.hid ht; clear ht
  by_cases hl : 1048576 < s.size
  · have t0 : (1048576 : Int) < s.size := by omega
    go_enter Tryd.func11, Tryd.ntmps11
    go_wp2_with fail
    go_ret
    exact ⟨rfl, Below.refl _ _⟩
  have t0 : ¬ (1048576 : Int) < s.size := by omega
  have hs : s.size ≤ 1048577 := by omega
  go_enter Tryd.func11, Tryd.ntmps11
  go_wp2_with fail
  refine (CallsParse_spec s _ hs).mono ?_; rintro e w1 ⟨⟨v1, xs0, ok0, rfl, o1, hp⟩, b1⟩
  have Hp := Lib.hid hp
  have Hf := Lib.hid (few hp)
  have B1 := Lib.hid b1
  have O1 := Lib.hid o1
  have Hl1 := fun k hk => (o1.lt k hk).2
  obtain ⟨a1, c1, rfl, _, _, _⟩ := o1.rd.open
  clear hp b1 o1
  go_wp2_with fail
  refine (CallsParse_impl s _ hs (Ht.out.below B1.out)).mono ?_; rintro e w2 ⟨⟨v2, xs, ok, rfl, o2, hp2⟩, b2⟩
  obtain ⟨rfl, rfl⟩ := hp2.uniq Hp.out
  have B2 := Lib.hid (B1.out.trans (b2.mono B1.out.size))
  have O1 := Lib.hid (O1.out.below b2)
  have O2 := Lib.hid o2
  have l1 := fun k hk => (Nat.lt_of_lt_of_le (Hl1 k hk) (Nat.le_refl _))
  have l2 := fun k hk => (o2.lt k hk).1
  have AP := Lib.hid (apart_lt (v1 := .slice a1 xs.length c1) (v2 := v2) (B := w1.heap.size) l1 l2)
  have G2 := Lib.hid (fun k hk => Nat.le_trans B1.out.size (l2 k hk))
  obtain ⟨a2, c2, rfl, _, _, _⟩ := o2.rd.open
  clear hp2 b2 o2 l1 l2 Hl1
  have hq : (ok != ok) = false := by simp
  have hx := Hf.out
  go_wp2_with fail
  refine (eqCallS_same _ _ xs _ O2.out.rd O1.out.rd).mono ?_; rintro e w3 ⟨rfl, b3⟩
  have B3 := Lib.hid (B2.out.trans (b3.mono B2.out.size))
  have O1 := Lib.hid (O1.out.below b3)
  have O2 := Lib.hid (O2.out.below b3)
  clear b3
  go_wp2_with fail
  refine (markCallS_any _ _ xs 1 _ O2.out (by omega) (by decide) (by decide)).mono ?_; rintro e w4 ⟨rfl, o4, g4⟩
  have B4 := Lib.hid (B3.out.grown g4 B3.out.size G2.out)
  have O1 := Lib.hid (show OwnCalls w.heap.size w4 _ xs from own_grown O1.out g4 AP.out)
  have O4 := Lib.hid o4
  clear o4 g4 O2
  go_wp2_with fail
  refine (heldCallS_any _ xs.length 1 _ O4.out.rd (by omega) (by decide) (by decide)).mono ?_; rintro e w5 ⟨rfl, b5⟩
  have B5 := Lib.hid (B4.out.trans (b5.mono B4.out.size))
  have O1 := Lib.hid (O1.out.below b5)
  have O4 := Lib.hid (O4.out.below b5)
  clear b5
  go_wp2_with fail
  refine (CallsParse_impl s _ hs (Ht.out.below B5.out)).mono ?_; rintro e w6 ⟨⟨v6, ys, ok', rfl, o6, hp6⟩, b6⟩
  obtain ⟨rfl, rfl⟩ := hp6.uniq Hp.out
  have B6 := Lib.hid (B5.out.trans (b6.mono B5.out.size))
  have O1 := Lib.hid (O1.out.below b6)
  have O4 := Lib.hid (O4.out.below b6)
  have O6 := Lib.hid o6
  obtain ⟨a6, c6, rfl, _, _, _⟩ := o6.rd.open
  clear b6 o6 hp6
  go_wp2_with fail
  refine (eqCallS_same _ _ ys _ O6.out.rd O1.out.rd).mono ?_; rintro e w7 ⟨rfl, b7⟩
  have B7 := Lib.hid (B6.out.trans (b7.mono B6.out.size))
  have O4 := Lib.hid (O4.out.below b7)
  clear b7
  go_wp2_with fail
  refine (heldCallS_any _ ys.length 1 _ O4.out.rd (by omega) (by decide) (by decide)).mono ?_; rintro e w8 ⟨rfl, b8⟩
  go_wp2_with fail
  go_ret
  exact ⟨rfl, B7.out.trans (b8.mono B7.out.size)⟩
end Go.Proofs.YtgdehdfbdjgmdaaDoor.fnExactCallsParse
