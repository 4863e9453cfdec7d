/-
  A call is equal to itself, as the program's == sees it.
-/
import Derived.Test.YtgdehdfbdjgmdaaGreatDoorCallS
import Derived.Laws.StructEq
set_option linter.unusedVariables false
namespace Go.Proofs.YtgdehdfbdjgmdaaGreatDoor
open Go.RowKit

theorem Tryz.structCall : Tryz.prog.underlying 30 = some (.struct (Tryz.prog.fieldsOf 30)) := by kernel_rfl
theorem eqlCall_same (k e a b c : Int) (nm : ByteArray) (w : World) :
    (binOp .eql 30 (.agg #[.int .i64 k, .int .i64 e, .int .i64 a, .int .i64 b, .int .i64 c, .string nm]) (.agg #[.int .i64 k, .int .i64 e, .int .i64 a, .int .i64 b, .int .i64 c, .string nm])).run Tryz.prog w = .ok (.bool true) w := by
  rw [run_eql_struct, run_equalIn_agg _ _ _ _ _ Tryz.structCall (by kernel_rfl)]
  simp [Program.fieldsOf, Tryz.underlying30, Op.eqFields, go_sem]
theorem neqCall_same (k e a b c : Int) (nm : ByteArray) (w : World) :
    (binOp .neq 30 (.agg #[.int .i64 k, .int .i64 e, .int .i64 a, .int .i64 b, .int .i64 c, .string nm]) (.agg #[.int .i64 k, .int .i64 e, .int .i64 a, .int .i64 b, .int .i64 c, .string nm])).run Tryz.prog w = .ok (.bool false) w := by
  rw [run_neq_struct, run_equalIn_agg _ _ _ _ _ Tryz.structCall (by kernel_rfl)]
  simp [Program.fieldsOf, Tryz.underlying30, Op.eqFields, go_sem]
theorem guardCall (op : BinOp) (x y : Operand) (xs ys : Array Value) (w : World) : (eqGuard op 30 x y (.agg xs) (.agg ys)).run Tryz.prog w = .ok () w := run_eqGuard_agg w op _ x y xs ys (by kernel_rfl)
end Go.Proofs.YtgdehdfbdjgmdaaGreatDoor
