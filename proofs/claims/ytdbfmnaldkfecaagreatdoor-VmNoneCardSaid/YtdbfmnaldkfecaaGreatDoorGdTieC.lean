/-
  The tie of the listed variables to the program's text, its facts one by one.
-/
import Derived.Test.YtdbfmnaldkfecaaGreatDoorGdTieB
import Derived.Test.YtdbfmnaldkfecaaGreatDoorGdTieD
import Derived.Test.YtdbfmnaldkfecaaGreatDoorRows
import Derived.KernelRfl
import Derived.LaidByTextLater
import Derived.SevenTiedAt
import Derived.LaidSub
import Derived.LaidOnce
set_option linter.all false
namespace Go.Proofs.YtdbfmnaldkfecaaGreatDoor
open Go Gd
set_option maxRecDepth 100000
theorem tNamed : varsNamedLaterB Tryz.prog (varsId Tryz.prog) tied = true := by rw [tId]; kernel_rfl
theorem tRows (os : Os) (tape : Tape) : (DataW.laidRun Tryz.prog (varsWorld Tryz.prog 58 999 os tape).memory 8 (tied.map (·.1))).map (fun x => decide x.2.Nodup && laidRowsB Tryz.prog (varsWorld Tryz.prog 58 999 os tape).memory x.2) = some true := by
  have h := tBits os tape
  cases hr : DataW.laidRun Tryz.prog (varsWorld Tryz.prog 58 999 os tape).memory 8 (tied.map (·.1)) with
  | none => rw [hr] at h; cases h
  | some x =>
    rw [hr] at h
    simp only [Option.map_some, Option.some.injEq, Bool.and_eq_true] at h ⊢
    exact ⟨decide_eq_true (nodupBits_sound h.1).1, h.2⟩
theorem tie6 : Tryz.prog.laidByTextLater tied [.data, .data, .data, .data, .listed, .data] true :=
  Program.laidByTextLater_by_run 58 8 tWord tWord' tRoot tKinds (by rw [tVars]; rfl) tNamed (fun os tape => by rw [tId]; exact tDone os tape) (fun os tape => by rw [tId]; exact tRead os tape) (fun os tape => by rw [tId]; exact tRows os tape)
end Go.Proofs.YtdbfmnaldkfecaaGreatDoor
