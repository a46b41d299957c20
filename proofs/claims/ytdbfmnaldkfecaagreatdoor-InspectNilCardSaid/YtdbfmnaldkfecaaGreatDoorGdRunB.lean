/-
  The kernel's run of the evaluator on InspectNil, its eight cells unknown: it answers true.
-/
import Derived.Test.YtdbfmnaldkfecaaGreatDoorGdRun
set_option linter.all false
namespace Go.Proofs.Gd
open Go Go.AB
def opArg : List AV := [.ag [.gp 0 0, .gp 1 0, .gp 2 0, .gp 3 0, .gp 4 0, .gp 5 0, .gp 6 0, .gp 7 0]]
theorem run4 : isTrue ((recA env 100000).callK 4 opArg ⟨0, .e⟩ fun v h => .ok v h) = true := by kernel_rfl
end Go.Proofs.Gd
