/-
  InspectNil: the closed facts of its row, each by the kernel, the great ones by their twins.
-/
import Derived.Test.YtdbfmnaldkfecaaGreatDoorGdJoin
import Derived.Test.YtdbfmnaldkfecaaGreatDoorGdTypes
import Derived.ProofKit
set_option linter.all false
namespace Go.Proofs.YtdbfmnaldkfecaaGreatDoor
open Go Gd
set_option maxRecDepth 100000
theorem fWf : Rows.inspectNilRow.wf (OpenSpec.ofChange Rows.inspectNilSpec) = true := by kernel_rfl
theorem fRead : (Tryz.f4.params.all (Tryz.prog.readableRec ·)) = true := by kernel_rfl
theorem fTie : namedTie Tryz.prog Rows.inspectNilRow.named Rows.inspectNilSpec.vars = true := by kernel_rfl
theorem fStops : ((Rows.inspectNilRow.stops == []) && (Tryz.prog.stops == []) && (Rows.inspectNilRow.knobs == []) && (Tryz.prog.stopKnobs == [])) = true := by kernel_rfl
theorem fIn : (Rows.inspectNilRow.inPlace == Tryz.prog.inPlace 4) = true := by rw [inPlace_by closure4]; exact inPlace4
theorem unf : Tryz.prog.unfollowed 4 = true := by rw [unfollowed_by closure4]; exact unfollowed4
theorem fUn : (Rows.inspectNilRow.unfollowed == Tryz.prog.unfollowed 4) = true := by rw [unf]; rfl
theorem fRec : (Rows.inspectNilRow.recurses == Tryz.prog.recurses 4) = true := by unfold Program.recurses; rw [unf]; rfl
theorem fNamed : (Rows.inspectNilRow.named == Tryz.prog.varsNamed 4) = true := by rw [varsNamed_by closure4]; exact named4
theorem fHeard : Tryz.prog.stopsHeard = true := by unfold Program.stopsHeard; rw [← Array.all_toList]; exact stops4
theorem laysList : (Tryz.prog.funcs.toList.any fun fn => fn.body.isNone && (fn.name == "runtime.SetFinalizer" || fn.name == "runtime.AddCleanup" || fn.origin == "runtime.AddCleanup")) = false := by kernel_rfl
theorem lays : Tryz.prog.laysLater = false := by unfold Program.laysLater; rw [← Array.any_toList]; exact laysList
theorem fEnter : Tryz.prog.mayEnter = true := by
  unfold Program.mayEnter
  rw [lays]
  kernel_rfl
theorem fRest : ((Rows.inspectNilRow.maps == (Tryz.f4.params.toList ++ Rows.inspectNilSpec.plain.varTypes Tryz.prog).any (Tryz.prog.mapsRec ·)) && (Rows.inspectNilRow.ifaces == (Tryz.f4.params.toList ++ Rows.inspectNilSpec.plain.varTypes Tryz.prog).any (Tryz.prog.ifacesRec ·)) &&
  (Rows.inspectNilRow.mapsOut == Tryz.prog.mapsAmong Tryz.f4.resultTypes.toList) && (Rows.inspectNilRow.plainKeys == Tryz.prog.plainKeys)) = true := by kernel_rfl
theorem fNamedOf : Tryz.prog.funcNamed "scripting/scriptinglaw49.InspectNil" = some 4 := funcNamed_of (by kernel_rfl)
theorem closed : joinedFacts Tryz.pinned.checked.prog 4 Tryz.f4 Rows.inspectNilSpec Rows.inspectNilRow = true := by
  show joinedFacts Tryz.prog 4 Tryz.f4 Rows.inspectNilSpec Rows.inspectNilRow = true
  unfold joinedFacts
  rw [fWf, laidOut, mapsRowed_ok, fRead, fTie, fIn, fUn, fRec, fNamed, fHeard, fEnter]
  kernel_rfl
end Go.Proofs.YtdbfmnaldkfecaaGreatDoor
