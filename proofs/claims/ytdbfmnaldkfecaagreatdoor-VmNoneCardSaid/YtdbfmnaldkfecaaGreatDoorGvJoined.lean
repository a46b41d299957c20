/-
  VmNone: the closed facts of its row, each by the kernel, the great ones by their twins.
-/
import Derived.Test.YtdbfmnaldkfecaaGreatDoorGvJoin
import Derived.Test.YtdbfmnaldkfecaaGreatDoorGdTypes
import Derived.Test.YtdbfmnaldkfecaaGreatDoorGdJoined
import Derived.ProofKit
set_option linter.all false
namespace Go.Proofs.YtdbfmnaldkfecaaGreatDoor
open Go Gd
set_option maxRecDepth 100000
theorem vWf : Rows.vmNoneRow.wf (OpenSpec.ofChange Rows.vmNoneSpec) = true := by kernel_rfl
theorem vRead : (Tryz.f3.params.all (Tryz.prog.readableRec ·)) = true := by kernel_rfl
theorem vTie : namedTie Tryz.prog Rows.vmNoneRow.named Rows.vmNoneSpec.vars = true := by kernel_rfl
theorem vIn : (Rows.vmNoneRow.inPlace == Tryz.prog.inPlace 3) = true := by rw [inPlace_by closure3]; exact inPlace3
theorem vunf : Tryz.prog.unfollowed 3 = true := by rw [unfollowed_by closure3]; exact unfollowed3
theorem vUn : (Rows.vmNoneRow.unfollowed == Tryz.prog.unfollowed 3) = true := by rw [vunf]; rfl
theorem vRec : (Rows.vmNoneRow.recurses == Tryz.prog.recurses 3) = true := by unfold Program.recurses; rw [vunf]; rfl
theorem vNamed : (Rows.vmNoneRow.named == Tryz.prog.varsNamed 3) = true := by rw [varsNamed_by closure3]; exact named3
theorem vNamedOf : Tryz.prog.funcNamed "scripting/scriptinglaw44.VmNone" = some 3 := funcNamed_of (by kernel_rfl)
theorem vclosed : joinedFacts Tryz.pinned.checked.prog 3 Tryz.f3 Rows.vmNoneSpec Rows.vmNoneRow = true := by
  show joinedFacts Tryz.prog 3 Tryz.f3 Rows.vmNoneSpec Rows.vmNoneRow = true
  unfold joinedFacts
  rw [vWf, laidOut, mapsRowed_ok, vRead, vTie, vIn, vUn, vRec, vNamed, fHeard, fEnter]
  kernel_rfl
end Go.Proofs.YtdbfmnaldkfecaaGreatDoor
