/-
  A region that draws its order and only reads or makes memory: one proof an operation.
-/
import Derived.Test.YtgdehdfbdjgmdaaGreatDoorReg
set_option linter.unusedVariables false
namespace Go.Proofs.YtgdehdfbdjgmdaaGreatDoor
open Go.RowKit

section
variable {P : Program}
theorem wp_region_grow {id : Nat} {Q : Exit → Act → World → Prop} {a0 : Act} {w0 : World} {l : List Oper} (n : Nat) (hm : P.follows .mixedOrders = true) (hB : postsB l n = true)
    (N : Nat) (hN : a0.tmps.size = N) (hD : dstB l n N = true) (R : Nat → Value → World → Prop) (hmono : ∀ i, i < n → ∀ v w w', Below w.heap.size w w' → R i v w → R i v w')
    (hstep : ∀ i, i < n → ∀ o, l[i]? = some o → ∀ a w, Hid (a.defers = a0.defers ∧ a.tmps.size = a0.tmps.size ∧ ∀ t, (∀ i, i < n → dstOf l i ≠ t) → a.tmps[t]? = a0.tmps[t]?) →
      Hid (∀ j, Region.waitsFor .any l.toArray i j = true → R j (a.tmps[dstOf l j]?.getD undef) w) → Below w0.heap.size w0 w →
      ∀ K : Act → World → Prop, Hid (∀ v w', R i v w' → Below w.heap.size w w' → K (a.put o.dst v) w') → Does P l o a w K Q)
    (htail : ∀ (vs : Nat → Value) w, (∀ i, i < n → R i (vs i) w) → Below w0.heap.size w0 w → wpList P l.toArray Q (l.drop n) { a0 with tmps := fillAt l (List.range n) vs a0.tmps } w) :
    (Code.region id l.toArray true).wp P Q a0 w0 := by
  refine wp_region_posts n hm hB N hN hD R (fun _ w => Below w0.heap.size w0 w) ⟨rfl, rfl, rfl, Nat.le_refl _, fun _ _ => rfl⟩ ?_ (fun vs w h1 _ _ h2 => htail vs w h1 h2)
  intro i hi o ho a w Hb Hd L HL hG K HK
  exact hstep i hi o ho a w Hb Hd hG K (Lib.hid fun v w' h1 h2 => HK.out v w' h1 (hG.trans ⟨h2.os, h2.tape, h2.output, h2.size, fun k hk => h2.block k (Nat.lt_of_lt_of_le hk hG.size)⟩) (fun j u _ hj _ h => hmono j hj u w w' h2 h))
end

theorem getSlot {a : Act} {t : Nat} {v : Value} (h : a.tmps[t]?.getD undef = v) : a.tmps.getD t undef = v := by
  rw [Array.getD_eq_getD_getElem?]; exact h
end Go.Proofs.YtgdehdfbdjgmdaaGreatDoor
