/-
  InspectNil: the row's statement.
-/
import Derived.Test.YtdbfmnaldkfecaaGreatDoorGdMainW
import Derived.Test.YtdbfmnaldkfecaaGreatDoorGdJoined
set_option linter.all false
namespace Go.Proofs.YtdbfmnaldkfecaaGreatDoor
open Go Gd
set_option maxRecDepth 100000
theorem inspectNil_holds : Rows.InspectNilSaid :=
  OpenClaim.holds_of_wide 4 Tryz.f4 rfl rfl rfl rfl rfl rfl rfl ⟨rfl, rfl, rfl, rfl, rfl⟩ rfl rfl rfl rfl rfl fNamedOf Tryz.func4 closed
    (of_decide_eq_true (by kernel_rfl)) (by unfold Func.isWrapper; first | (rw [if_pos (by decide +kernel)]; kernel_rfl) | (rw [if_neg (by decide +kernel)]; exact ⟨rfl, rfl⟩))
    (fun os started H enc _ => lifted os started H enc)
#print axioms inspectNil_holds
end Go.Proofs.YtdbfmnaldkfecaaGreatDoor
