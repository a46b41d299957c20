/-
  What the rows of both laws share: the table of white space; numbers and texts; readings that hang on the cells alone.
-/
import Derived.Test.YtdbfmnaldkfecaaGreatDoorGdRun
import Derived.Test.YtdbfmnaldkfecaaGreatDoorRows
import Derived.ProofKit
import Derived.OpenShut
import Derived.LaidMore
import Derived.Lay
import Derived.Carry
import Derived.Lib.LaidTab
import Derived.Stop.LaidErr
import Derived.SevenTiedAt
import Derived.Stop.Joined
set_option linter.all false
namespace Go.Proofs.YtdbfmnaldkfecaaGreatDoor
open Go.ChangeShapes Go.WideShapes Go.ChangeAt Go.RowKit Go.AB
set_option maxRecDepth 100000

theorem own : ownKnob Tryz.prog.godebug = none := by kernel_rfl
theorem asciiData : (Rows.laid_strings_asciiSpace : DataW Unit) = Lib.tabData .u8 Lib.asciiSpaceTab := by kernel_rfl
theorem gSpace : Tryz.prog.globalNamed "strings.asciiSpace" = some 1 := by kernel_rfl
theorem tSpace : (Tryz.prog.globals[1]?).map (·.type) = some 657 := by kernel_rfl
/-- The table of white space, off the row's condition. -/
theorem table {W : World} (h : laidMet Tryz.prog Rows.inspectNilRow.laid W) : ∀ c : Nat, c < 256 → W.cell? ⟨1, c, none⟩ = some (.int .u8 (if Lib.isSp (UInt8.ofNat c) then 1 else 0)) := fun c hc => by
  have h6 : laidMet Tryz.prog (("strings.asciiSpace", (Rows.laid_strings_asciiSpace : DataW Unit)) :: [("unicode.CaseRanges", Rows.laid_unicode_CaseRanges), ("unicode/utf8.first", Rows.laid_unicode_utf8_first)]) W := h.tail.tail.tail.tail.tail
  rw [asciiData] at h6
  have ht : Lib.TabIs Tryz.prog W "strings.asciiSpace" .u8 Lib.asciiSpaceTab := Lib.tabIs_of_head gSpace tSpace Tryz.underlying657 Tryz.underlying5 (by kernel_rfl) (by kernel_rfl) h6
  rw [ht.cell gSpace c (by rw [Lib.asciiSpaceTab_length]; exact hc), Lib.asciiSpaceTab_at c hc]

/-- A number or a text: one cell, and no truth value. -/
theorem plain_cell {W : World} {base : Nat} {v : Value} {u : TypeId} (hu : u = 3 ∨ u = 9) (h : Cell.okWide Tryz.prog W .any base u v) : v.oneCell' = true ∧ ∀ b, v ≠ .bool b := by
  rcases hu with rfl | rfl
  · simp only [Cell.okWide, Tryz.underlying3, Cell.ok] at h
    cases v <;> simp_all [Value.oneCell']
  · simp only [Cell.okWide, Tryz.underlying9, Cell.ok] at h
    cases v <;> simp_all [Value.oneCell']
theorem sgn0 {v : Value} : SgnOK 0 v := ⟨(fun h => nomatch h), (fun h => nomatch h)⟩
section
variable {H : Type} {enc : TypeId × Value → H}
theorem mapM_alike {α β : Type} {f g : α → Option β} : ∀ l : List α, (∀ x ∈ l, f x = g x) → l.mapM f = l.mapM g
  | [], _ => rfl
  | x :: l, h => by rw [List.mapM_cons, List.mapM_cons, h x (by simp), mapM_alike l fun y hy => h y (by simp [hy])]
/-- The reading hangs on the cells alone: no memory is looked at. -/
def Flat (enc : TypeId × Value → H) (t : TypeId) : Prop := ∀ (w w' : World) (b b' : Nat) (sp sp' : Nat → Bool) (hd hd' : Bool) (n : Nat) (cs : List Value), DataW.trod enc Tryz.prog w b sp hd n t cs = DataW.trod enc Tryz.prog w' b' sp' hd' n t cs
theorem flat3 : Flat enc 3 := fun w w' b b' sp sp' hd hd' n cs => by
  cases n with
  | zero => rfl
  | succ n =>
    simp only [DataW.trod, Tryz.underlying3]
    match cs with
    | [] => rfl
    | [c] => cases c <;> rfl
    | c :: _ :: _ => cases c <;> rfl
theorem flat9 : Flat enc 9 := fun w w' b b' sp sp' hd hd' n cs => by
  cases n with
  | zero => rfl
  | succ n =>
    simp only [DataW.trod, Tryz.underlying9]
    match cs with
    | [] => rfl
    | [c] => cases c <;> rfl
    | c :: _ :: _ => cases c <;> rfl
theorem flat_struct {t : TypeId} {fs : Array Field} (ht : Tryz.prog.underlying t = some (.struct fs)) (h : ∀ f ∈ fs.toList, Flat enc f.type) : Flat enc t := fun w w' b b' sp sp' hd hd' n cs => by
  cases n with
  | zero => rfl
  | succ n =>
    simp only [DataW.trod, ht]
    rw [mapM_alike fs.toList fun f hf => h f hf w w' b b' sp sp' hd hd' n _]
theorem flat23 : Flat enc 23 := flat_struct Tryz.underlying23 fun f hf => by
  simp only [List.mem_cons, List.mem_nil_iff, or_false] at hf
  rcases hf with rfl | rfl
  · exact flat3
  · exact flat3
theorem flat25 : Flat enc 25 := flat_struct Tryz.underlying25 fun f hf => by
  simp only [List.mem_cons, List.mem_nil_iff, or_false] at hf
  rcases hf with rfl | rfl | rfl | rfl
  · exact flat3
  · exact flat23
  · exact flat9
  · exact flat3
theorem flat67 : Flat enc 67 := flat_struct Tryz.underlying67 fun f hf => by
  simp only [List.mem_cons, List.mem_nil_iff, or_false] at hf
  rcases hf with rfl | rfl | rfl | rfl
  · exact flat3
  · exact flat3
  · exact flat9
  · exact flat25
theorem Flat.trod {t : TypeId} (h : Flat enc t) {w w' : World} {b b' : Nat} {sp sp' : Nat → Bool} {hd hd' : Bool} {v : Value} {d : DataW H} {ps : List MemPlace} (k : DataW.Trod enc Tryz.prog w b sp hd t v d ps) : DataW.Trod enc Tryz.prog w' b' sp' hd' t v d ps := by
  obtain ⟨n, hn⟩ := k
  exact ⟨n, by rw [h w' w b' b sp' sp hd' hd]; exact hn⟩
end

end Go.Proofs.YtdbfmnaldkfecaaGreatDoor
