/-
  The functions that a function can come to, by a fast twin of the form's own walk: what was seen is one number's bits.
-/
import Derived.Test.YtdbfmnaldkfecaaGreatDoorAb5
set_option linter.all false
namespace Go.Proofs.Gd
open Go Go.AB
noncomputable def leadP (P : Program) (f : Nat) : List FuncId := match funcP P f with
  | some fn => P.leadsTo fn
  | none => []
theorem leadP_eq (P : Program) (f : Nat) : leadP P f = (P.funcs[f]?).elim [] P.leadsTo := by
  unfold leadP
  letI : Base := ⟨#[], fun _ => .nilIface, fun _ => rfl, fun _ _ h => by cases h⟩
  rw [funcP_eq]
  cases P.funcs[f]? <;> rfl
noncomputable def forceL {α : Type} (n : Nat) (K : Nat → α) : α := Nat.rec (motive := fun _ => (Nat → α) → α) (fun K => K Nat.zero) (fun m _ K => K (Nat.succ m)) n K
theorem forceL_eq {α : Type} (n : Nat) (K : Nat → α) : forceL n K = K n := by cases n <;> rfl
noncomputable def fastVia (lead : Nat → List Nat) (n : Nat) : List Nat → Nat → List Nat → Option (List Nat) :=
  Nat.rec (motive := fun _ => List Nat → Nat → List Nat → Option (List Nat))
    (fun todo _ seen => List.rec (motive := fun _ => Option (List Nat)) (some seen) (fun _ _ _ => none) todo)
    (fun _ ih todo mask seen => List.rec (motive := fun _ => Option (List Nat)) (some seen)
      (fun f rest _ => Bool.rec (motive := fun _ => Option (List Nat))
        (forceL (Nat.lor mask (Nat.shiftLeft (nat_lit 1) f)) fun mask => ih (lead f ++ rest) mask (f :: seen))
        (ih rest mask seen) (Nat.beq (Nat.land (Nat.shiftRight mask f) (nat_lit 1)) (nat_lit 1))) todo) n
def Marks (mask : Nat) (seen : List Nat) : Prop := ∀ g : Nat, mask.testBit g = seen.contains g
theorem testBit_beq (mask f : Nat) : Nat.beq (Nat.land (Nat.shiftRight mask f) (nat_lit 1)) (nat_lit 1) = mask.testBit f := by
  have h : Nat.land (Nat.shiftRight mask f) 1 = (mask >>> f) % 2 := Nat.and_one_is_mod _
  show Nat.beq (Nat.land (Nat.shiftRight mask f) 1) 1 = _
  rw [h, Nat.testBit_eq_decide_div_mod_eq, Nat.shiftRight_eq_div_pow]
  rcases Nat.mod_two_eq_zero_or_one (mask / 2 ^ f) with e | e <;> rw [e] <;> rfl
theorem marks_add {mask : Nat} {seen : List Nat} (h : Marks mask seen) (f : Nat) : Marks (Nat.lor mask (Nat.shiftLeft (nat_lit 1) f)) (f :: seen) := fun g => by
  show (mask ||| (1 <<< f)).testBit g = _
  rw [Nat.testBit_or, h g, Nat.one_shiftLeft, Nat.testBit_two_pow, List.contains_cons]
  by_cases hfg : f = g
  · subst hfg; simp
  · have : (g == f) = false := by simpa using fun e => hfg e.symm
    simp [hfg, this]
theorem fastVia_ok {P : Program} {L : List Nat} : ∀ (n : Nat) (todo : List Nat) (mask : Nat) (seen : List Nat), Marks mask seen → fastVia (leadP P) n todo mask seen = some L → ∀ m, n ≤ m → P.closureVia m todo seen = L.reverse
  | 0, [], mask, seen, _, e, m, _ => by
    have : seen = L := by simpa using (show some seen = some L from e)
    subst this
    cases m <;> rfl
  | 0, _ :: _, mask, seen, _, e, m, _ => by cases e
  | n + 1, [], mask, seen, _, e, m, _ => by
    have : seen = L := by simpa using (show some seen = some L from e)
    subst this
    cases m <;> rfl
  | n + 1, f :: todo, mask, seen, hm, e, m, hle => by
    obtain ⟨k, rfl⟩ : ∃ k, m = k + 1 := ⟨m - 1, by omega⟩
    have e' : Bool.rec (motive := fun _ => Option (List Nat))
        (forceL (Nat.lor mask (Nat.shiftLeft (nat_lit 1) f)) fun mask => fastVia (leadP P) n (leadP P f ++ todo) mask (f :: seen))
        (fastVia (leadP P) n todo mask seen) (Nat.beq (Nat.land (Nat.shiftRight mask f) (nat_lit 1)) (nat_lit 1)) = some L := e
    rw [testBit_beq, hm f, forceL_eq] at e'
    unfold Program.closureVia
    cases hs : seen.contains f with
    | true =>
      rw [hs] at e'
      rw [if_pos rfl]
      exact fastVia_ok n todo mask seen hm e' k (by omega)
    | false =>
      rw [hs] at e'
      rw [if_neg (by simp), ← leadP_eq]
      exact fastVia_ok n _ _ _ (marks_add hm f) e' k (by omega)
def fuelB (P : Program) (n : Nat) : Bool := Nat.ble n (1 + (P.funcs.toList.map fun g => (P.leadsTo g).length + 1).sum)
theorem closure_of_fast {P : Program} {f n : Nat} {L : List Nat} (e : fastVia (leadP P) n [f] 0 [] = some L) (hf : fuelB P n = true) : P.closure f = L.reverse :=
  fastVia_ok n [f] 0 [] (fun g => by simp) e _ (Nat.le_of_ble_eq_true (by unfold fuelB at hf; exact hf))
end Go.Proofs.Gd
