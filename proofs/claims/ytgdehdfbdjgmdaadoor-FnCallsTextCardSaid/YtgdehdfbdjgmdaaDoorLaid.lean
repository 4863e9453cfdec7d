/-
  What the listed tables give the walks.
-/
import Derived.Test.YtgdehdfbdjgmdaaDoorCTextA
import Derived.Lib.LaidTab
import Derived.Lib.LaidU8
set_option linter.unusedVariables false
namespace Go.Proofs.YtgdehdfbdjgmdaaDoor
open Go.RowKit

theorem tabs_of {w : World} {laid : List (String × DataW Unit)} (hL : laidMet Tryd.prog laid w) (hm : ("internal/strconv.uint64pow10", Lib.tabData .u64 Lib.pow10Tab) ∈ laid) : Tabs w := by
  obtain ⟨g, t, cs, fuel, p, hg, ht, hvar, hd⟩ := Lib.laidMet.reads hL hm
  refine Lib.tabBelow_of_tabIs ?_
  obtain rfl : t = 128 := by
    have h1 : Tryd.prog.globalNamed "internal/strconv.uint64pow10" = some 3 := by kernel_rfl
    obtain rfl := Option.some.inj (h1.symm.trans hg)
    have h2 : (Tryd.prog.globals[3]?).map (·.type) = some 128 := by kernel_rfl
    exact (Option.some.inj (h2.symm.trans ht)).symm
  unfold Lib.TabIs
  rw [hvar, ← Lib.cells_of_tab Tryd.underlying128 Tryd.underlying109 (by kernel_rfl) (by kernel_rfl) hd]
end Go.Proofs.YtgdehdfbdjgmdaaDoor
