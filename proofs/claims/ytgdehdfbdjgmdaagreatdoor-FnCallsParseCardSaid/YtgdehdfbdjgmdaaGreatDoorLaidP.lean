/-
  What the listed variables and the world's shape give the walks that read a call.
-/
import Derived.Test.YtgdehdfbdjgmdaaGreatDoorLaid
import Derived.Test.YtgdehdfbdjgmdaaGreatDoorLib
import Derived.LaidLaws
import Derived.Handed
set_option linter.unusedVariables false
namespace Go
section
variable {H : Type} {enc : TypeId × Value → H}
/-- As the library's wrap for a row with listed variables; the contract is handed the world's shape, too. -/
theorem returnsInHanded_of_listed_shaped {a : Assume} {C : Checked} {os : Os} {f : FuncId} {fn : Func} {s : ChangeSpec} {conds : List PathCond} {apart fresh handsOn again : Bool} {X : World → Array Value → Prop}
    (hX : ∀ (w w' : World) (args : Array Value), w.heap = w'.heap → X w args → X w' args)
    (own : ownKnob C.prog.godebug = none) (started : os.Started) (noInit : C.prog.inits.idxOf? f = none) (hfn : C.prog.funcs[f]? = some fn)
    (witness : ∃ (w : World) (tape : Tape) (i : Input), w.os = os ∧ (w.forCall tape i).Shaped C.prog ∧ i.vars = [] ∧ Input.okWide C.prog (w.forCall tape i) .any w.heap.size f i ∧
      ((s.pre enc C.prog fn conds apart (w.forCall tape i).memory i.args ∧ X (w.forCall tape i).memory i.args) ∧ sizedMet enc C.prog fn (OpenSpec.ofChange s) apart (w.forCall tape i).memory i.args) ∧ a.holds C.prog (lone (Frame.enter C.prog f i.args .normal) [] (w.forCall tape i)))
    (contract : ∀ (W : World) (base : Nat) (args : Array Value) (ds gs : List (DataW H)) (before : List MemPlace),
      (∀ (j : Nat) t v, fn.params[j]? = some t → args[j]? = some v → Value.okWide C.prog W .any base t v) →
      DataW.Whole enc C.prog fn.params.toList s.vars apart W args.toList ds gs before → X W args → W.ShapedOpen C.prog →
      Calls C.prog f args W fun e W' => ∃ v, e = .returned v ∧ s.post enc C.prog fn apart fresh handsOn again W args v W') :
    ReturnsInHanded a C os f .any (fun w args => (s.pre enc C.prog fn conds apart w args ∧ X w args) ∧ sizedMet enc C.prog fn (OpenSpec.ofChange s) apart w args) (s.post enc C.prog fn apart fresh handsOn again) := by
  refine returnsInHanded_of_calls own started noInit witness ?_
  intro w tape i _ hsh _ hok hpre _
  obtain ⟨_, _, _, fn', hfn', _, _, _, _, hval⟩ := hok
  obtain rfl : fn' = fn := Option.some.inj (hfn'.symm.trans hfn)
  obtain ⟨⟨⟨ds, gs, before, hw, _⟩, hx⟩, _⟩ := hpre
  refine (contract (w.forCall tape i) w.heap.size i.args ds gs before hval (DataW.Whole.of_heap (w' := w.forCall tape i) (by rfl) hw) (hX _ _ _ (by rfl) hx) hsh).mono fun e W' ⟨v, he, hp⟩ => ?_
  subst he
  exact ChangeSpec.post_blind hp
end
end Go
namespace Go.Proofs.YtgdehdfbdjgmdaaGreatDoor
open Go.RowKit

def errSynData {H : Type} : DataW H := .iface "*errors.errorString" (.ptr (.agg [.lit (.string [105, 110, 118, 97, 108, 105, 100, 32, 115, 121, 110, 116, 97, 120])]))
def errRngData {H : Type} : DataW H := .iface "*errors.errorString" (.ptr (.agg [.lit (.string [118, 97, 108, 117, 101, 32, 111, 117, 116, 32, 111, 102, 32, 114, 97, 110, 103, 101])]))

theorem iface_var {w : World} {n nm : String} {d : DataW Unit} {g : Nat} (hr : Lib.VarReads Tryz.prog w n (.iface nm d)) (hgn : Tryz.prog.globalNamed n = some g) (hty : (Tryz.prog.globals[g]?).map (·.type) = some 52) : ∃ t p, w.cell? ⟨g, 0, none⟩ = some (.iface t p) := by
  obtain ⟨g', t, cs, fuel, p, hg, ht, hvar, hd⟩ := hr
  obtain rfl := Option.some.inj (hgn.symm.trans hg)
  obtain rfl : t = 52 := (Option.some.inj (hty.symm.trans ht)).symm
  obtain ⟨f1, u, v, hcs, _⟩ := iface_of_trod Tryz.underlying52 hd
  have h0 := World.var?_cell hg hvar 0
  obtain ⟨l⟩ := cs
  simp only at hcs
  subst hcs
  exact ⟨u, v, by simpa using h0⟩

theorem ptabs_of {w : World} {laid : List (String × DataW Unit)} (hL : laidMet Tryz.prog laid w) (hsh : w.ShapedOpen Tryz.prog) (h1 : ("internal/strconv.uint64pow10", Lib.tabData .u64 Lib.pow10Tab) ∈ laid) (h2 : ("strconv.ErrSyntax", errSynData) ∈ laid) (h3 : ("strconv.ErrRange", errRngData) ∈ laid) : PTabs w :=
  ⟨tabs_of hL h1, Tryz.laysM146.s1_3 w hsh, iface_var (Lib.laidMet.reads hL h2) (by kernel_rfl) (by kernel_rfl), iface_var (Lib.laidMet.reads hL h3) (by kernel_rfl) (by kernel_rfl)⟩
end Go.Proofs.YtgdehdfbdjgmdaaGreatDoor
