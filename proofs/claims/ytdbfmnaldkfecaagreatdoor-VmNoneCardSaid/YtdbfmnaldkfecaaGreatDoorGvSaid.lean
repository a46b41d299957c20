/-
  VmNone: the row's statement.
-/
import Derived.Test.YtdbfmnaldkfecaaGreatDoorGvMainW
import Derived.Test.YtdbfmnaldkfecaaGreatDoorGvJoined
set_option linter.all false
namespace Go.Proofs.YtdbfmnaldkfecaaGreatDoor
open Go Gd
set_option maxRecDepth 100000
theorem vmNone_holds : Rows.VmNoneSaid :=
  OpenClaim.holds_of_wide 3 Tryz.f3 rfl rfl rfl rfl rfl rfl rfl ⟨rfl, rfl, rfl, rfl, rfl⟩ rfl rfl rfl rfl rfl vNamedOf Tryz.func3 vclosed
    (of_decide_eq_true (by kernel_rfl)) (by unfold Func.isWrapper; first | (rw [if_pos (by decide +kernel)]; kernel_rfl) | (rw [if_neg (by decide +kernel)]; exact ⟨rfl, rfl⟩))
    (fun os started H enc _ => vlifted os started H enc)
#print axioms vmNone_holds
end Go.Proofs.YtdbfmnaldkfecaaGreatDoor
