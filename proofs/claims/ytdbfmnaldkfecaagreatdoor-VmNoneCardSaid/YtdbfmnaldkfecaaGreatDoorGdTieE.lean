/-
  The evaluator (abstract runs of a loaded program's code) and its soundness: part GdTieE.
-/
import Derived.Test.YtdbfmnaldkfecaaGreatDoorGdTieC
import Derived.KernelRfl
import Derived.LaidByTextLater
import Derived.SevenTiedAt
import Derived.LaidSub
import Derived.LaidOnce
set_option linter.all false
namespace Go.Proofs.YtdbfmnaldkfecaaGreatDoor
open Go Gd
set_option maxRecDepth 100000
theorem pinCase : Tryz.prog.pinnedFits "unicode.CaseRanges" = true := by
  unfold Program.pinnedFits
  rw [tVars]
  kernel_rfl
theorem pinFirst : Tryz.prog.pinnedFits "unicode/utf8.first" = true := by
  unfold Program.pinnedFits
  rw [tVars]
  kernel_rfl
theorem noOwnUnsafe : Tryz.prog.headLifts.contains "ownunsafe" = false := by kernel_rfl
theorem fits1 : Tryz.prog.listedFits [("math/bits.deBruijn32tab", Rows.laid_math_bits_deBruijn32tab), ("math/bits.deBruijn64tab", Rows.laid_math_bits_deBruijn64tab), ("internal/strconv.uint64pow10", Rows.laid_internal_strconv_uint64pow10), ("unicode/utf8.acceptRanges", Rows.laid_unicode_utf8_acceptRanges), ("unicode.White_Space", Rows.laid_unicode_White_Space), ("strings.asciiSpace", Rows.laid_strings_asciiSpace), ("unicode.CaseRanges", Rows.laid_unicode_CaseRanges), ("unicode/utf8.first", Rows.laid_unicode_utf8_first)] = true := by
  unfold Program.listedFits
  rw [noOwnUnsafe]
  kernel_rfl
theorem row_tie : Rows.inspectNilRow.laidByTextAt .later Tryz.pinned [.data, .data, .data, .data, .listed, .data, .pinned, .pinned] true :=
  OpenClaim.laidByTextAt_pinned rfl rfl tie6 rfl rfl rfl rfl (fun y hy _e => by
    simp only [Rows.inspectNilRow, List.zip_cons_cons, List.zip_nil_right, List.mem_cons, List.mem_nil_iff, or_false] at hy
    rcases hy with rfl | rfl | rfl | rfl | rfl | rfl | rfl | rfl
    · cases _e
    · cases _e
    · cases _e
    · cases _e
    · cases _e
    · cases _e
    · exact ⟨pinCase, by kernel_rfl⟩
    · exact ⟨pinFirst, by kernel_rfl⟩) fits1
end Go.Proofs.YtdbfmnaldkfecaaGreatDoor
