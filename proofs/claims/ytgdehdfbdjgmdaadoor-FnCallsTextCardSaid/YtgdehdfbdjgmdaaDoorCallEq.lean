/-
  A call is equal to itself, as the program's == sees it.
-/
import Derived.Test.YtgdehdfbdjgmdaaDoorCallS
import Derived.Laws.StructEq
set_option linter.unusedVariables false
namespace Go.Proofs.YtgdehdfbdjgmdaaDoor
open Go.RowKit

theorem Tryd.structCall : Tryd.prog.underlying 26 = some (.struct (Tryd.prog.fieldsOf 26)) := by kernel_rfl
theorem eqlCall_same (k e a b c : Int) (nm : ByteArray) (w : World) :
    (binOp .eql 26 (.agg #[.int .i64 k, .int .i64 e, .int .i64 a, .int .i64 b, .int .i64 c, .string nm]) (.agg #[.int .i64 k, .int .i64 e, .int .i64 a, .int .i64 b, .int .i64 c, .string nm])).run Tryd.prog w = .ok (.bool true) w := by
  rw [run_eql_struct, run_equalIn_agg _ _ _ _ _ Tryd.structCall (by kernel_rfl)]
  simp [Program.fieldsOf, Tryd.underlying26, Op.eqFields, go_sem]
theorem neqCall_same (k e a b c : Int) (nm : ByteArray) (w : World) :
    (binOp .neq 26 (.agg #[.int .i64 k, .int .i64 e, .int .i64 a, .int .i64 b, .int .i64 c, .string nm]) (.agg #[.int .i64 k, .int .i64 e, .int .i64 a, .int .i64 b, .int .i64 c, .string nm])).run Tryd.prog w = .ok (.bool false) w := by
  rw [run_neq_struct, run_equalIn_agg _ _ _ _ _ Tryd.structCall (by kernel_rfl)]
  simp [Program.fieldsOf, Tryd.underlying26, Op.eqFields, go_sem]
theorem guardCall (op : BinOp) (x y : Operand) (xs ys : Array Value) (w : World) : (eqGuard op 26 x y (.agg xs) (.agg ys)).run Tryd.prog w = .ok () w := run_eqGuard_agg w op _ x y xs ys (by kernel_rfl)
end Go.Proofs.YtgdehdfbdjgmdaaDoor
