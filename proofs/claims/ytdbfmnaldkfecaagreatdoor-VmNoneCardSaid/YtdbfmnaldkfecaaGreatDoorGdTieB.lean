/-
  The tie of the listed variables to the program's text, its facts one by one.
-/
import Derived.Test.YtdbfmnaldkfecaaGreatDoorGdTie
import Derived.Test.YtdbfmnaldkfecaaGreatDoorRows
import Derived.KernelRfl
import Derived.LaidByTextLater
import Derived.SevenTiedAt
import Derived.LaidSub
import Derived.LaidOnce
set_option linter.all false
namespace Go.Proofs.YtdbfmnaldkfecaaGreatDoor
open Go Gd
set_option maxRecDepth 100000
theorem tDone (os : Os) (tape : Tape) : varsDone Tryz.prog 58 999 os tape = true := by kernel_rfl
theorem tRead (os : Os) (tape : Tape) : (DataW.laidRun Tryz.prog (varsWorld Tryz.prog 58 999 os tape).memory 8 (tied.map (·.1))).map (·.1) = some tied := by kernel_rfl
end Go.Proofs.YtdbfmnaldkfecaaGreatDoor
