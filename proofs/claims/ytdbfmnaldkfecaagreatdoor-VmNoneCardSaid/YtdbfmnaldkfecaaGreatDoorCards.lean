/-
  DERIVED. GIVEN WITH THE SEED: THE CARDS: each row of YtdbfmnaldkfecaaGreatDoorRows.lean that lists a variable, with what it lists TIED to the program's text (the seventh form; the later family's looks); each row that meets fmt, with fmt's text TOLD by the authors' own Lean function (tested against real Go, not proved from fmt's source: count such statements apart). THE CARD IS WHAT COUNTS. Prove the row's statement (the work); the ties are given (YtdbfmnaldkfecaaGreatDoorTie.lean); close each card by the builder's one call (the guide's Derived/Test/ToyasCard.lean, 'card_holds'). Laid BY PROGRAM, IN A SANDBOX (cutbox-door.mjs). By AI agents, Wed Nov 11 2026. No macro, syntax, notation, axiom, sorry.
-/
import Derived.Test.YtdbfmnaldkfecaaGreatDoorRows
import GoSem.ClaimSeven
namespace Go.Proofs.YtdbfmnaldkfecaaGreatDoor
namespace Rows

/-- THE TIED CARD OF 'scriptinglaw44.VmNone'. -/
def vmNoneCard : Claim7 := { stood := { row := vmNoneRow, standIns := [], harness := (true, "3b825bfa2ebb92d8b32d11b6432dac38f9085f4fece7c964400eb2d373d32c5f"), looks := true }, kinds := [], alts := [], laidByText := true, laidKinds := [.data, .data, .data, .data, .listed, .data, .pinned, .pinned], laidTests := true, laidLooks := .later }
def VmNoneCardSaid : Prop := Claim7.holds Tryz.pinned (.plain (OpenSpec.ofChange vmNoneSpec)) vmNoneCard

/-- THE TIED CARD OF 'scriptinglaw49.InspectNil'. -/
def inspectNilCard : Claim7 := { stood := { row := inspectNilRow, standIns := [], harness := (true, "3b825bfa2ebb92d8b32d11b6432dac38f9085f4fece7c964400eb2d373d32c5f"), looks := true }, kinds := [], alts := [], laidByText := true, laidKinds := [.data, .data, .data, .data, .listed, .data, .pinned, .pinned], laidTests := true, laidLooks := .later }
def InspectNilCardSaid : Prop := Claim7.holds Tryz.pinned (.plain (OpenSpec.ofChange inspectNilSpec)) inspectNilCard

/-- THE SECOND FORM's CARD OF 'scriptinglaw44.VmNone'. -/
def vmNoneUptoCard : Claim7 := { stood := { row := vmNoneUptoRow, standIns := [], harness := (true, "3b825bfa2ebb92d8b32d11b6432dac38f9085f4fece7c964400eb2d373d32c5f"), looks := true }, kinds := [], alts := [], laidByText := true, laidKinds := [.data, .data, .data, .data, .listed, .data, .pinned, .pinned], laidTests := true, laidLooks := .later }
def VmNoneUptoCardSaid : Prop := Claim7.holds Tryz.pinned (.plain (OpenSpec.upto vmNoneSpec)) vmNoneUptoCard

/-- THE SECOND FORM's CARD OF 'scriptinglaw49.InspectNil'. -/
def inspectNilUptoCard : Claim7 := { stood := { row := inspectNilUptoRow, standIns := [], harness := (true, "3b825bfa2ebb92d8b32d11b6432dac38f9085f4fece7c964400eb2d373d32c5f"), looks := true }, kinds := [], alts := [], laidByText := true, laidKinds := [.data, .data, .data, .data, .listed, .data, .pinned, .pinned], laidTests := true, laidLooks := .later }
def InspectNilUptoCardSaid : Prop := Claim7.holds Tryz.pinned (.plain (OpenSpec.upto inspectNilSpec)) inspectNilUptoCard
end Rows
end Go.Proofs.YtdbfmnaldkfecaaGreatDoor
