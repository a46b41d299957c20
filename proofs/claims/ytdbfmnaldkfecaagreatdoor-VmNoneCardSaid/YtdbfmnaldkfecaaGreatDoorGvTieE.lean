/-
  VmNone: its row's tie.
-/
import Derived.Test.YtdbfmnaldkfecaaGreatDoorGdTieE
set_option linter.all false
namespace Go.Proofs.YtdbfmnaldkfecaaGreatDoor
open Go Gd
set_option maxRecDepth 100000
theorem vrow_tie : Rows.vmNoneRow.laidByTextAt .later Tryz.pinned [.data, .data, .data, .data, .listed, .data, .pinned, .pinned] true :=
  OpenClaim.laidByTextAt_pinned rfl rfl tie6 rfl rfl rfl rfl (fun y hy _e => by
    simp only [Rows.vmNoneRow, List.zip_cons_cons, List.zip_nil_right, List.mem_cons, List.mem_nil_iff, or_false] at hy
    rcases hy with rfl | rfl | rfl | rfl | rfl | rfl | rfl | rfl
    · cases _e
    · cases _e
    · cases _e
    · cases _e
    · cases _e
    · cases _e
    · exact ⟨pinCase, by kernel_rfl⟩
    · exact ⟨pinFirst, by kernel_rfl⟩) fits1
end Go.Proofs.YtdbfmnaldkfecaaGreatDoor
