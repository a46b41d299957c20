/-
  Closed facts of a program by lists: what the form asks by places of an array is asked by one walk over the list.
-/
import Derived.Test.YtdbfmnaldkfecaaGreatDoorAb5
import Derived.JoinedOf
import Derived.LaidByTextLater
set_option linter.all false
namespace Go.Proofs.Gd
open Go Go.AB
/-- The places at which a list's functions bear the name. -/
def namedAt (name : String) : List Func → Nat → List Nat
  | [], _ => []
  | fn :: l, i => if fn.name == name then i :: namedAt name l (i + 1) else namedAt name l (i + 1)
theorem namedAt_eq (name : String) (l : List Func) : ∀ (r : List Func), ((List.range' r.length l.length).filter fun i => ((r ++ l)[i]?).any (·.name == name)) = namedAt name l r.length := by
  induction l with
  | nil => intro r; rfl
  | cons x l ih =>
    intro r
    have h1 : (r ++ x :: l)[r.length]? = some x := by simp
    have h2 := ih (r ++ [x])
    rw [List.append_assoc, List.length_append] at h2
    rw [List.length_cons, List.range'_succ, List.filter_cons, h1]
    simp only [Option.any_some]
    rw [namedAt]
    have h3 : r.length + 1 = r.length + [x].length := rfl
    rw [h3, ← h2]
    rfl
theorem funcNamed_of {P : Program} {name : String} {i : Nat} (h : namedAt name P.funcs.toList 0 = [i]) : P.funcNamed name = some i := by
  have h1 := namedAt_eq name P.funcs.toList []
  rw [List.length_nil, h, ← List.range_eq_range'] at h1
  unfold Program.funcNamed
  have h2 : ((List.range P.funcs.size).filter fun i => (P.funcs[i]?).any (·.name == name)) = [i] := by
    rw [← h1]
    simp
  rw [h2]
theorem worded_of {P : Program} {word : String} {b : Bool} (h : (P.funcs.toList.any fun fn => fn.body.isNone && fn.name == word) = b) : P.worded word = b := by
  unfold Program.worded
  rw [← Array.any_toList]
  exact h
end Go.Proofs.Gd
