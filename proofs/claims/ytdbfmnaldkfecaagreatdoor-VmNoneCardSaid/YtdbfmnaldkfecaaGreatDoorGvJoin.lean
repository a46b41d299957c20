/-
  VmNone: what its functions are answered in place by, name, and lead to: off the list of the functions that it can come to.
-/
import Derived.Test.YtdbfmnaldkfecaaGreatDoorGvClosB
import Derived.Test.YtdbfmnaldkfecaaGreatDoorGdJoin
set_option linter.all false
namespace Go.Proofs.Gd
open Go.Proofs.YtdbfmnaldkfecaaGreatDoor
open Go Go.AB
set_option maxRecDepth 100000
theorem inPlace3 : (Rows.vmNoneRow.inPlace == seen3.reverse.filterMap fun g => (funcP Tryz.prog g).bind fun fn => if fn.ours || fn.body.isNone || fn.name == "runtime.NumGoroutine" then some fn.name else none) = true := by kernel_rfl
theorem unfollowed3 : (seen3.reverse.any fun g => (funcP Tryz.prog g).any fun fn => match fn.body with | some c => c.unfollowed | none => entryCalls fn) = true := by kernel_rfl
theorem named3 : (Rows.vmNoneRow.named == (((seen3.reverse.flatMap fun g => ((funcP Tryz.prog g).bind (·.body)).elim [] Code.globalsNamed).eraseDups).filterMap (fun g => (Tryz.prog.globals[g]?).map (·.name)) ++
   seen3.reverse.filterMap fun g => (funcP Tryz.prog g).bind fun fn => if fn.body.isNone then entryReads.lookup fn.name else none).eraseDups) = true := by kernel_rfl
end Go.Proofs.Gd
