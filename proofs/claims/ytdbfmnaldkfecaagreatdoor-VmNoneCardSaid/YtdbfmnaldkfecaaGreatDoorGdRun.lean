/-
  The kernel's runs of the evaluator on the two laws' functions.
-/
import Derived.Test.YtdbfmnaldkfecaaGreatDoorGdEnv
set_option linter.all false
namespace Go.Proofs.Gd
open Go Go.AB
noncomputable def isTrue (x : Ans) : Bool := match x with | .ok (.b b) _ => b | _ => false
theorem of_isTrue {x : Ans} (h : isTrue x = true) : ∃ rh, x = .ok (.b true) rh := by
  unfold isTrue at h
  split at h
  · subst h; exact ⟨_, rfl⟩
  · cases h
end Go.Proofs.Gd
