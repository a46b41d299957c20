/-
  InspectNil: the tied card.
-/
import Derived.Test.YtdbfmnaldkfecaaGreatDoorGdSaid
import Derived.Test.YtdbfmnaldkfecaaGreatDoorGdTieE
import Derived.Test.YtdbfmnaldkfecaaGreatDoorGdCardG
import Derived.Test.YtdbfmnaldkfecaaGreatDoorCards
import Derived.SevenTiedAt
set_option linter.all false
namespace Go.Proofs.YtdbfmnaldkfecaaGreatDoor
open Go Gd AB
set_option maxRecDepth 100000
theorem igoesL : (seen4.reverse.any fun g => (funcP Tryz.prog g).any Func.goes) = false := by kernel_rfl
theorem igoes : Tryz.prog.goes 4 = false := goes_of closure4 igoesL goesList
theorem iwfText : Rows.inspectNilRow.wfByText (OpenSpec.ofChange Rows.inspectNilSpec) = true := by kernel_rfl
theorem istartIs : Rows.inspectNilRow.start = .entering := rfl
theorem ifuncIs : Rows.inspectNilRow.func = "scripting/scriptinglaw49.InspectNil" := rfl
theorem igoesBy : false = Rows.inspectNilRow.goesBy Tryz.pinned.checked.prog :=
  goesBy_of (f := 4) istartIs (by rw [progEq, ifuncIs]; exact fNamedOf) (by rw [progEq]; exact igoes)
theorem ifunc {f : FuncId} {fn : Func} (hf : Tryz.pinned.checked.prog.funcNamed Rows.inspectNilRow.func = some f) (hfn : Tryz.pinned.checked.prog.funcs[f]? = some fn) : fn.params = ([67] : List TypeId).toArray := by
  rw [progEq, ifuncIs] at hf
  rw [progEq] at hfn
  obtain rfl : f = 4 := (Option.some.inj (fNamedOf.symm.trans hf)).symm
  obtain rfl : fn = Tryz.f4 := (Option.some.inj (Tryz.func4.symm.trans hfn)).symm
  exact Tryz.params4
theorem inspectNil_card : Rows.InspectNilCardSaid :=
  Claim7.holds_tied_plain_at .later [] [.data, .data, .data, .data, .listed, .data, .pinned, .pinned] true (true, "3b825bfa2ebb92d8b32d11b6432dac38f9085f4fece7c964400eb2d373d32c5f") true inspectNil_holds (fun _ h => by cases h) iwfText (fun _ h => by cases h) row_tie istartIs ⟨rfl, rfl⟩ mainIs' rfl
    (fun f fn hf hfn => ⟨looksIs, stands (l := [67]) (by decide) fn (ifunc hf hfn)⟩)
    igoesBy
#print axioms inspectNil_card
end Go.Proofs.YtdbfmnaldkfecaaGreatDoor
