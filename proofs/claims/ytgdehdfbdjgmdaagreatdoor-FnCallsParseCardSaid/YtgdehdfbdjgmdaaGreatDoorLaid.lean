/-
  What the listed tables give the walks.
-/
import Derived.Test.YtgdehdfbdjgmdaaGreatDoorCTextA
import Derived.Lib.LaidTab
import Derived.Lib.LaidU8
set_option linter.unusedVariables false
namespace Go.Proofs.YtgdehdfbdjgmdaaGreatDoor
open Go.RowKit

theorem tabs_of {w : World} {laid : List (String × DataW Unit)} (hL : laidMet Tryz.prog laid w) (hm : ("internal/strconv.uint64pow10", Lib.tabData .u64 Lib.pow10Tab) ∈ laid) : Tabs w := by
  obtain ⟨g, t, cs, fuel, p, hg, ht, hvar, hd⟩ := Lib.laidMet.reads hL hm
  refine Lib.tabBelow_of_tabIs ?_
  obtain rfl : t = 123 := by
    have h1 : Tryz.prog.globalNamed "internal/strconv.uint64pow10" = some 5 := by kernel_rfl
    obtain rfl := Option.some.inj (h1.symm.trans hg)
    have h2 : (Tryz.prog.globals[5]?).map (·.type) = some 123 := by kernel_rfl
    exact (Option.some.inj (h2.symm.trans ht)).symm
  unfold Lib.TabIs
  rw [hvar, ← Lib.cells_of_tab Tryz.underlying123 Tryz.underlying96 (by kernel_rfl) (by kernel_rfl) hd]
end Go.Proofs.YtgdehdfbdjgmdaaGreatDoor
