/-
  InspectNil: what its functions are answered in place by, name, and lead to: off the list of the functions that it can come to.
-/
import Derived.Test.YtdbfmnaldkfecaaGreatDoorGdClosB
import Derived.Test.YtdbfmnaldkfecaaGreatDoorGdFacts
import Derived.Test.YtdbfmnaldkfecaaGreatDoorRows
set_option linter.all false
namespace Go.Proofs.Gd
open Go.Proofs.YtdbfmnaldkfecaaGreatDoor
open Go Go.AB
set_option maxRecDepth 100000
theorem funcP_fun (P : Program) : funcP P = fun g => P.funcs[g]? := by
  letI : Base := ⟨#[], fun _ => .nilIface, fun _ => rfl, fun _ _ h => by cases h⟩
  funext g
  exact funcP_eq P g
theorem inPlace_by {P : Program} {f : FuncId} {L : List Nat} (h : P.closure f = L) : P.inPlace f = L.filterMap fun g => (funcP P g).bind fun fn => if fn.ours || fn.body.isNone || fn.name == "runtime.NumGoroutine" then some fn.name else none := by
  unfold Program.inPlace
  rw [h, funcP_fun]
theorem unfollowed_by {P : Program} {f : FuncId} {L : List Nat} (h : P.closure f = L) : P.unfollowed f = L.any fun g => (funcP P g).any fun fn => match fn.body with | some c => c.unfollowed | none => entryCalls fn := by
  unfold Program.unfollowed
  rw [h, funcP_fun]
  rfl
theorem varsNamed_by {P : Program} {f : FuncId} {L : List Nat} (h : P.closure f = L) : P.varsNamed f = (((L.flatMap fun g => ((funcP P g).bind (·.body)).elim [] Code.globalsNamed).eraseDups).filterMap (fun g => (P.globals[g]?).map (·.name)) ++
   L.filterMap fun g => (funcP P g).bind fun fn => if fn.body.isNone then entryReads.lookup fn.name else none).eraseDups := by
  unfold Program.varsNamed
  rw [h, funcP_fun]
theorem inPlace4 : (Rows.inspectNilRow.inPlace == seen4.reverse.filterMap fun g => (funcP Tryz.prog g).bind fun fn => if fn.ours || fn.body.isNone || fn.name == "runtime.NumGoroutine" then some fn.name else none) = true := by kernel_rfl
theorem unfollowed4 : (seen4.reverse.any fun g => (funcP Tryz.prog g).any fun fn => match fn.body with | some c => c.unfollowed | none => entryCalls fn) = true := by kernel_rfl
theorem named4 : (Rows.inspectNilRow.named == (((seen4.reverse.flatMap fun g => ((funcP Tryz.prog g).bind (·.body)).elim [] Code.globalsNamed).eraseDups).filterMap (fun g => (Tryz.prog.globals[g]?).map (·.name)) ++
   seen4.reverse.filterMap fun g => (funcP Tryz.prog g).bind fun fn => if fn.body.isNone then entryReads.lookup fn.name else none).eraseDups) = true := by kernel_rfl
theorem stops4 : (Tryz.prog.funcs.toList.all fun fn => (Stop.rowOf fn).isNone || !fn.norace) = true := by kernel_rfl
end Go.Proofs.Gd
