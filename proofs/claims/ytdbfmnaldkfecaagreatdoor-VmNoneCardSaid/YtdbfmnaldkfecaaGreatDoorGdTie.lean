/-
  The tie of the listed variables to the program's text, its facts one by one.
-/
import Derived.Test.YtdbfmnaldkfecaaGreatDoorGdFacts
import Derived.Test.YtdbfmnaldkfecaaGreatDoorRows
import Derived.KernelRfl
import Derived.LaidByTextLater
import Derived.SevenTiedAt
import Derived.LaidSub
import Derived.LaidOnce
set_option linter.all false
namespace Go.Proofs.YtdbfmnaldkfecaaGreatDoor
open Go Gd
set_option maxRecDepth 100000
def tied : List (String × DataW Unit) := [("math/bits.deBruijn32tab", Rows.laid_math_bits_deBruijn32tab), ("math/bits.deBruijn64tab", Rows.laid_math_bits_deBruijn64tab), ("internal/strconv.uint64pow10", Rows.laid_internal_strconv_uint64pow10), ("unicode/utf8.acceptRanges", Rows.laid_unicode_utf8_acceptRanges), ("unicode.White_Space", Rows.laid_unicode_White_Space), ("strings.asciiSpace", Rows.laid_strings_asciiSpace)]
theorem tWord : Tryz.prog.worded (varsWordLater true) = true := worded_of (by kernel_rfl)
theorem tWord' : Tryz.prog.worded (varsWordLater !true) = false := worded_of (by kernel_rfl)
theorem tRoot : Tryz.prog.worded rootWordLater = true := worded_of (by kernel_rfl)
theorem tVars : Tryz.prog.funcNamed "gosem.cut.vars" = some 999 := funcNamed_of (by kernel_rfl)
theorem tId : varsId Tryz.prog = 999 := by unfold varsId; rw [tVars]; rfl
theorem tKinds : tied.map (fun x => Tryz.prog.kindOfLater x.1) = ([.data, .data, .data, .data, .listed, .data] : List LaidKind).map some := by kernel_rfl
end Go.Proofs.YtdbfmnaldkfecaaGreatDoor
