/-
A struct built inside a region that draws its order: what it yields, by one row.
No condition.
-/
import Derived.Test.YtcmbnkmbaghkdaaDoorG1
import Derived.OrdersHeld
import Derived.Laws.Tables
namespace Go.Proofs.YtcmbnkmbaghkdaaDoor
open Go.RowKit

theorem yieldsIf_build {P : Program} {ops : Array Oper} {S : World → Prop} {op : Oper} {a : Act} (hw : Region.wanted op (yielded ops a.tmps) = true) (t : TypeId) (parts : Array (Nat × Operand)) (ho : op.op = .build t parts)
    (cells : Array Value) (h : P.built t (parts.map fun (i, x) => (i, a.eval x)).toList = some cells) : YieldsIf P ops S op (.agg cells) a :=
  .inl ⟨hw, fun w _ => by
    unfold execOp
    simp only [ho, run_build w t _ cells h, Sem.run_bind, Sem.run_pure, Result.andThen_ok]⟩
end Go.Proofs.YtcmbnkmbaghkdaaDoor
