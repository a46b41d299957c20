/-
  The tie of the listed variables to the program's text, its facts one by one.
-/
import Derived.Test.YtdbfmnaldkfecaaGreatDoorGdTie
import Derived.Test.YtdbfmnaldkfecaaGreatDoorRows
import Derived.KernelRfl
import Derived.LaidByTextLater
import Derived.SevenTiedAt
import Derived.LaidSub
import Derived.LaidOnce
set_option linter.all false
namespace Go.Proofs.YtdbfmnaldkfecaaGreatDoor
open Go Gd
set_option maxRecDepth 100000
theorem tBits (os : Os) (tape : Tape) : (DataW.laidRun Tryz.prog (varsWorld Tryz.prog 58 999 os tape).memory 8 (tied.map (·.1))).map (fun x => nodupBits 257 x.2 0 && laidRowsB Tryz.prog (varsWorld Tryz.prog 58 999 os tape).memory x.2) = some true := by kernel_rfl
end Go.Proofs.YtdbfmnaldkfecaaGreatDoor
