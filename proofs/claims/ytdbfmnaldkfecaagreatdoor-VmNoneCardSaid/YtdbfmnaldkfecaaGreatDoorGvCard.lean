/-
  VmNone: the tied card.
-/
import Derived.Test.YtdbfmnaldkfecaaGreatDoorGvSaid
import Derived.Test.YtdbfmnaldkfecaaGreatDoorGvTieE
import Derived.Test.YtdbfmnaldkfecaaGreatDoorGdCardG
import Derived.Test.YtdbfmnaldkfecaaGreatDoorCards
import Derived.SevenTiedAt
set_option linter.all false
namespace Go.Proofs.YtdbfmnaldkfecaaGreatDoor
open Go Gd AB
set_option maxRecDepth 100000
theorem vgoesL : (seen3.reverse.any fun g => (funcP Tryz.prog g).any Func.goes) = false := by kernel_rfl
theorem vgoes : Tryz.prog.goes 3 = false := goes_of closure3 vgoesL goesList
theorem vwfText : Rows.vmNoneRow.wfByText (OpenSpec.ofChange Rows.vmNoneSpec) = true := by kernel_rfl
theorem vstartIs : Rows.vmNoneRow.start = .entering := rfl
theorem vfuncIs : Rows.vmNoneRow.func = "scripting/scriptinglaw44.VmNone" := rfl
theorem vgoesBy : false = Rows.vmNoneRow.goesBy Tryz.pinned.checked.prog :=
  goesBy_of (f := 3) vstartIs (by rw [progEq, vfuncIs]; exact vNamedOf) (by rw [progEq]; exact vgoes)
theorem vfunc {f : FuncId} {fn : Func} (hf : Tryz.pinned.checked.prog.funcNamed Rows.vmNoneRow.func = some f) (hfn : Tryz.pinned.checked.prog.funcs[f]? = some fn) : fn.params = ([3, 3, 25] : List TypeId).toArray := by
  rw [progEq, vfuncIs] at hf
  rw [progEq] at hfn
  obtain rfl : f = 3 := (Option.some.inj (vNamedOf.symm.trans hf)).symm
  obtain rfl : fn = Tryz.f3 := (Option.some.inj (Tryz.func3.symm.trans hfn)).symm
  exact Tryz.params3
theorem vmNone_card : Rows.VmNoneCardSaid :=
  Claim7.holds_tied_plain_at .later [] [.data, .data, .data, .data, .listed, .data, .pinned, .pinned] true (true, "3b825bfa2ebb92d8b32d11b6432dac38f9085f4fece7c964400eb2d373d32c5f") true vmNone_holds (fun _ h => by cases h) vwfText (fun _ h => by cases h) vrow_tie vstartIs ⟨rfl, rfl⟩ mainIs' rfl
    (fun f fn hf hfn => ⟨looksIs, stands (l := [3, 3, 25]) (by decide) fn (vfunc hf hfn)⟩)
    vgoesBy
#print axioms vmNone_card
end Go.Proofs.YtdbfmnaldkfecaaGreatDoor
