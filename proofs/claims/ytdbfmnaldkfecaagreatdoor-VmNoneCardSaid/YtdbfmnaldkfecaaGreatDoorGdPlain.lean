/-
  DERIVED: THE SHELF's CONTRACTS AT THIS DUMP, IN PLAIN WORDS (tools/lay-plain.mjs out of 'TryzShelf.lean', which tools/lay-shelf.mjs wrote): THE SAME DECLARATIONS UNDER THE SAME NAMES: 'import', 'namespace', 'open', 'def', 'theorem' AND NOTHING ELSE: no command of the shelf's: FOR A HAND-IN. Each laying: the table of numbers ('.._ren') and one theorem, a field a fact of the dump's own or the kernel's comparison; each contract: ONE APPLICATION.
-/
import Derived.Shelf.Strings.Fields
import Derived.Test.YtdbfmnaldkfecaaGreatDoorProg
set_option linter.all false
namespace Go.Proofs
open Go.Shelf
def Tryz.lays157_ren : Go.Shelf.Ren := ⟨fun | 157 => 400 | 229 => 517 | 199 => 518 | 261 => 651 | 311 => 795 | 312 => 796 | n => n, fun | 9 => 9 | 31 => 53 | 3 => 3 | 5 => 5 | 4 => 4 | 119 => 657 | 0 => 0 | 40 => 659 | 152 => 757 | 21 => 21 | 154 => 759 | 51 => 256 | 141 => 761 | 196 => 835 | 193 => 832 | 198 => 838 | 49 => 836 | 194 => 833 | 201 => 841 | 226 => 888 | 46 => 184 | 227 => 889 | n => n, fun | 0 => 1 | 6 => 3 | n => n⟩
theorem Tryz.lays157 : Go.Proofs.Lays.n157 Tryz.prog Tryz.lays157_ren := {
  mixed := by kernel_rfl
  f157 := Tryz.func400.trans (congrArg some (by kernel_rfl))
  f199 := Tryz.func518.trans (congrArg some (by kernel_rfl))
  f229 := Tryz.func517.trans (congrArg some (by kernel_rfl))
  f261 := Tryz.func651.trans (congrArg some (by kernel_rfl))
  f311 := Tryz.func795.trans (congrArg some (by kernel_rfl))
  f312 := Tryz.func796.trans (congrArg some (by kernel_rfl))
  t0 := Tryz.underlying0
  a0 := Tryz.isAgg0
  z0 := Tryz.sizeOf0
  v0 := Tryz.zeroValue0
  t3 := Tryz.underlying3
  a3 := Tryz.isAgg3
  z3 := Tryz.sizeOf3
  v3 := Tryz.zeroValue3
  t4 := Tryz.underlying4
  a4 := Tryz.isAgg4
  z4 := Tryz.sizeOf4
  v4 := Tryz.zeroValue4
  t5 := Tryz.underlying5
  a5 := Tryz.isAgg5
  z5 := Tryz.sizeOf5
  v5 := Tryz.zeroValue5
  t9 := Tryz.underlying9
  a9 := Tryz.isAgg9
  z9 := Tryz.sizeOf9
  v9 := Tryz.zeroValue9
  t21 := Tryz.underlying21
  a21 := Tryz.isAgg21
  z21 := Tryz.sizeOf21
  v21 := Tryz.zeroValue21
  t31 := Tryz.underlying53
  a31 := Tryz.isAgg53
  z31 := Tryz.sizeOf53
  v31 := Tryz.zeroValue53
  t40 := Tryz.underlying659
  a40 := Tryz.isAgg659
  z40 := Tryz.sizeOf659
  v40 := Tryz.zeroValue659
  t46 := Tryz.underlying184
  a46 := Tryz.isAgg184
  z46 := Tryz.sizeOf184
  v46 := Tryz.zeroValue184
  t49 := Tryz.underlying836
  a49 := Tryz.isAgg836
  z49 := Tryz.sizeOf836
  v49 := Tryz.zeroValue836
  t51 := Tryz.underlying256
  a51 := Tryz.isAgg256
  z51 := Tryz.sizeOf256
  v51 := Tryz.zeroValue256
  t119 := Tryz.underlying657
  a119 := Tryz.isAgg657
  z119 := Tryz.sizeOf657
  t141 := Tryz.underlying761
  a141 := Tryz.isAgg761
  z141 := Tryz.sizeOf761
  v141 := Tryz.zeroValue761
  t152 := Tryz.underlying757
  a152 := Tryz.isAgg757
  z152 := Tryz.sizeOf757
  v152 := Tryz.zeroValue757
  t154 := Tryz.underlying759
  a154 := Tryz.isAgg759
  z154 := Tryz.sizeOf759
  v154 := Tryz.zeroValue759
  t193 := Tryz.underlying832
  a193 := Tryz.isAgg832
  z193 := Tryz.sizeOf832
  v193 := Tryz.zeroValue832
  t194 := Tryz.underlying833
  a194 := Tryz.isAgg833
  z194 := Tryz.sizeOf833
  v194 := Tryz.zeroValue833
  t196 := Tryz.underlying835
  a196 := Tryz.isAgg835
  z196 := Tryz.sizeOf835
  v196 := Tryz.zeroValue835
  t198 := Tryz.underlying838
  a198 := Tryz.isAgg838
  z198 := Tryz.sizeOf838
  v198 := Tryz.zeroValue838
  t201 := Tryz.underlying841
  a201 := Tryz.isAgg841
  z201 := Tryz.sizeOf841
  v201 := Tryz.zeroValue841
  t226 := Tryz.underlying888
  a226 := Tryz.isAgg888
  z226 := Tryz.sizeOf888
  v226 := Tryz.zeroValue888
  t227 := Tryz.underlying889
  a227 := Tryz.isAgg889
  z227 := Tryz.sizeOf889
  v227 := Tryz.zeroValue889
  g0 := by kernel_rfl
  g6 := by kernel_rfl }
open Go.RowKit Go.Lib in
/-- strings.Fields, the table by 'Lib.TabIs' (as strings.TrimSpace's contract). 'hg': the table's number, by its name: at a dump 'by kernel_rfl'. (LAID: no walk: one application.) -/
theorem Tryz.strings_Fields (s : ByteArray) (w : World) (hs : s.size < 4294967281) (hascii : ∀ (j : Nat) b, s.data.toList[j]? = some b → b.toNat < 128) (htab : Lib.TabIs Tryz.prog w "strings.asciiSpace" .u8 Lib.asciiSpaceTab) :
    Calls Tryz.prog 400 #[.string s] w fun e w' =>
      e = .returned (.slice (some ⟨w.heap.size, 0, none⟩) (Lib.fields s.data.toList).length (Lib.fields s.data.toList).length) ∧ w' = w.alloc (.cells ((Lib.fields s.data.toList).map fun l => Value.string ⟨l.toArray⟩).toArray 9) := Any.strings_Fields Tryz.lays157 (by kernel_rfl) (by kernel_rfl) s w hs hascii htab
end Go.Proofs
