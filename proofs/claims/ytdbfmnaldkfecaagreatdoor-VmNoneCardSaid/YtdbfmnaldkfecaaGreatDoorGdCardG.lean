/-
  The closed facts of the cards, the great ones by their twins.
-/
import Derived.Test.YtdbfmnaldkfecaaGreatDoorGdFacts
import Derived.Test.YtdbfmnaldkfecaaGreatDoorRows
import Derived.SevenTiedAt
set_option linter.all false
namespace Go.Proofs.YtdbfmnaldkfecaaGreatDoor
open Go Gd AB
set_option maxRecDepth 100000
def looksFn (P : Program) (fn : Func) : Bool := match fn.body with | some c => c.looks P | none => false
theorem looks_of {P : Program} (h : (P.funcs.toList.any (looksFn P)) = true) : P.looks [] = true := by
  obtain ⟨fn, hm, hF⟩ := List.any_eq_true.1 h
  obtain ⟨i, hi, rfl⟩ := List.mem_iff_getElem.1 hm
  unfold Program.looks
  refine List.any_eq_true.2 ⟨i, by simpa using hi, ?_⟩
  have hi' : i < P.funcs.size := by simpa using hi
  rw [Array.getElem?_eq_getElem hi']
  simp only [Array.getElem_toList] at hF
  exact hF
theorem funcP_fun' (P : Program) : funcP P = fun g => P.funcs[g]? := by
  letI : Base := ⟨#[], fun _ => .nilIface, fun _ => rfl, fun _ _ h => by cases h⟩
  funext g
  exact funcP_eq P g
theorem goes_of {P : Program} {f : FuncId} {L : List Nat} (h : P.closure f = L) (h1 : (L.any fun g => (funcP P g).any Func.goes) = false) (h2 : P.funcs.toList.any Func.goes = false) : P.goes f = false := by
  unfold Program.goes
  rw [h, ← Array.any_toList, h2, Bool.and_false, Bool.or_false, ← h1, funcP_fun']
theorem looksAll : Tryz.prog.looks [] = true := looks_of (by kernel_rfl)
theorem goesList : Tryz.prog.funcs.toList.any Func.goes = false := by kernel_rfl
theorem mainIs_ok : Tryz.prog.mainIs = some (true, "3b825bfa2ebb92d8b32d11b6432dac38f9085f4fece7c964400eb2d373d32c5f".toList) := by kernel_rfl
theorem goesBy_of {c : OpenClaim} {P : Program} {f : FuncId} (hs : c.start = .entering) (hf : P.funcNamed c.func = some f) (hg : P.goes f = false) : false = c.goesBy P := by
  unfold OpenClaim.goesBy Program.goesAt Program.goesFrom
  rw [hs, hf]
  simp only [Option.any_some, hg, Bool.or_false]
theorem progEq : Tryz.pinned.checked.prog = Tryz.prog := rfl
theorem looksIs : true = Tryz.pinned.checked.prog.looks [] := by rw [progEq]; exact looksAll.symm
theorem mainIs' : Tryz.pinned.checked.prog.mainIs = some (true, "3b825bfa2ebb92d8b32d11b6432dac38f9085f4fece7c964400eb2d373d32c5f".toList) := by rw [progEq]; exact mainIs_ok
theorem stand67 : ([67, 3, 25].all fun u => !Tryz.prog.wantsStandIn u) = true := by kernel_rfl
theorem stands {l : List TypeId} (hl : ∀ t ∈ l, t ∈ [67, 3, 25]) (fn : Func) (hp : fn.params = l.toArray) : ∀ (j : Nat) t, fn.params[j]? = some t → Tryz.pinned.checked.prog.wantsStandIn t = false := fun j t ht => by
  rw [progEq]
  rw [hp] at ht
  have hm : t ∈ l := by simpa using Array.mem_of_getElem? ht
  simpa using List.all_eq_true.1 stand67 t (hl t hm)
end Go.Proofs.YtdbfmnaldkfecaaGreatDoor
