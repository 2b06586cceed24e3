/-
A law's error as a value: nil, or a number of api.
-/
import Derived.Test.YtcakcfeipfjmpaaDoorProg
import Derived.WalkKit
import Derived.Lib.Hide
namespace Go.Proofs.YtcakcfeipfjmpaaDoor
open Go.RowKit
/-- A law's error: nil, or an api.Errno. -/
def errV (n : Nat) : Value := if n = 0 then .nilIface else .iface 109 (.int .i64 (n : Int))
end Go.Proofs.YtcakcfeipfjmpaaDoor
