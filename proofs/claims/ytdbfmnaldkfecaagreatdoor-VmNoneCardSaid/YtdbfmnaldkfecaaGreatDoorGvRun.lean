/-
  VmNone by the kernel's run of the evaluator: the level below 0, and not below 0; the rest unknown; the small case taken whole.
-/
import Derived.Test.YtdbfmnaldkfecaaGreatDoorGvAwake
set_option linter.all false
namespace Go.Proofs.Gd
open Go Go.AB
set_option maxRecDepth 100000
noncomputable def env2 : Env := envX fun f => match Nat.beq f 21 with
  | true => .mk (memoA awMemo)
  | false => .no
def noneArg (s : Nat) : List AV := [.gp 0 s, .gp 1 0, .ag [.gp 2 0, .gp 3 0, .gp 4 0, .gp 5 0, .gp 6 0]]
theorem noneNeg : isTrue ((recA env2 100000).callK 3 (noneArg 1) ⟨0, .e⟩ fun v h => .ok v h) = true := by kernel_rfl
theorem nonePos : isTrue ((recA env2 100000).callK 3 (noneArg 2) ⟨0, .e⟩ fun v h => .ok v h) = true := by kernel_rfl
end Go.Proofs.Gd
