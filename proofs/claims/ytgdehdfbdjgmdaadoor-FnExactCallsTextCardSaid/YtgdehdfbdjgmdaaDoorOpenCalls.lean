/-
  An argument that is a slice of calls, opened (door seats).
-/
import Derived.Test.YtgdehdfbdjgmdaaDoorOpenCall
import Derived.Test.YtgdehdfbdjgmdaaDoorOpen
import Derived.Test.YtgdehdfbdjgmdaaDoorCallS
set_option linter.unusedSimpArgs false
namespace Go.Proofs.YtgdehdfbdjgmdaaDoor
open Go.RowKit Go.ChangeShapes Go.WideShapes Go.Deep

section
variable {H : Type} {enc : TypeId × Value → H} {W : World} {base : Nat} {spare : Nat → Bool} {held : Bool}
set_option maxRecDepth 100000 in
theorem open_calls {b0 : Nat} {r : Reach} {v : Value} {d : DataW H} {p : List MemPlace} (hv : Value.okWide Tryd.prog W r b0 33 v) (h : DataW.Trod enc Tryd.prog W base spare held 33 v d p) : ∃ xs, RdCalls W v xs ∧ SmallC xs := by
  obtain ⟨xs, hr⟩ := open_flat (α := { x : CallV // x.nm.size ≤ maxLen }) (cs := fun x => callCs x.val) (fun x => callCs_len x.val) (by decide) Tryd.underlying33 (by kernel_rfl) hv h (fun n l y h => by
    obtain ⟨c, hc, hs⟩ := call_of h
    exact ⟨⟨c, hs⟩, hc⟩)
  refine ⟨xs.map (·.val), ?_, fun x hx => ?_⟩
  · unfold RdCalls
    rw [List.length_map]
    have e : flat callCs (xs.map (·.val)) = flat (fun x : { x : CallV // x.nm.size ≤ maxLen } => callCs x.val) xs := by simp [flat, List.flatMap_map]
    show Rd W v 6 xs.length (flat callCs _)
    rw [e]
    exact hr
  · obtain ⟨y, _, rfl⟩ := List.mem_map.1 hx
    exact y.property
end
end Go.Proofs.YtgdehdfbdjgmdaaDoor
