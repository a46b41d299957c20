/-
  The chapter's small case (scriptinglaw44.awake): true, by the kernel's run of the evaluator; the table of globals is taken whole.
-/
import Derived.Test.YtdbfmnaldkfecaaGreatDoorGvGlob
set_option linter.all false
namespace Go.Proofs.Gd
open Go Go.AB
set_option maxRecDepth 100000
noncomputable def env1 : Env := envX fun f => match Nat.beq f 106 with
  | true => .mk (memoA glMemo)
  | false => .no
def awMemo : Memo := ⟨[], [], .b true, [], []⟩
theorem awFits : MemoFits awMemo [] := ⟨by kernel_rfl, by kernel_rfl, by kernel_rfl, by kernel_rfl, by kernel_rfl, by kernel_rfl⟩
theorem awRun : okB (runM env1 100000 21 awMemo []) = true := by kernel_rfl
end Go.Proofs.Gd
