/-
  Closed facts of the program's types, some hundred types at a time.
-/
import Derived.JoinedOf
import Derived.KernelRfl
import Derived.Test.YtdbfmnaldkfecaaGreatDoorProg
set_option linter.all false
namespace Go.Proofs.Gd
open Go
set_option maxRecDepth 100000
theorem all_parts (p : Nat → Bool) (a n m : Nat) : (List.range' a (n + m)).all p = ((List.range' a n).all p && (List.range' (a + n) m).all p) := by
  rw [← List.all_append]
  congr 1
  have := (List.range'_append_1 (s := a) (m := n) (n := m)).symm
  simpa using this
theorem types_size : Tryz.prog.types.size = 986 := by kernel_rfl
theorem fine0 : (List.range' 0 100).all (rowFine Tryz.prog) = true := by kernel_rfl
theorem fine1 : (List.range' 100 100).all (rowFine Tryz.prog) = true := by kernel_rfl
theorem fine2 : (List.range' 200 100).all (rowFine Tryz.prog) = true := by kernel_rfl
theorem fine3 : (List.range' 300 100).all (rowFine Tryz.prog) = true := by kernel_rfl
theorem fine4 : (List.range' 400 100).all (rowFine Tryz.prog) = true := by kernel_rfl
theorem fine5 : (List.range' 500 100).all (rowFine Tryz.prog) = true := by kernel_rfl
theorem fine6 : (List.range' 600 100).all (rowFine Tryz.prog) = true := by kernel_rfl
theorem fine7 : (List.range' 700 100).all (rowFine Tryz.prog) = true := by kernel_rfl
theorem fine8 : (List.range' 800 100).all (rowFine Tryz.prog) = true := by kernel_rfl
theorem fine9 : (List.range' 900 86).all (rowFine Tryz.prog) = true := by kernel_rfl
theorem fineFrom8 : (List.range' 800 186).all (rowFine Tryz.prog) = true := by
  rw [show 186 = 100 + 86 from rfl, all_parts, fine8, show 800 + 100 = 900 from rfl, fine9]; rfl
theorem fineFrom7 : (List.range' 700 286).all (rowFine Tryz.prog) = true := by
  rw [show 286 = 100 + 186 from rfl, all_parts, fine7, show 700 + 100 = 800 from rfl, fineFrom8]; rfl
theorem fineFrom6 : (List.range' 600 386).all (rowFine Tryz.prog) = true := by
  rw [show 386 = 100 + 286 from rfl, all_parts, fine6, show 600 + 100 = 700 from rfl, fineFrom7]; rfl
theorem fineFrom5 : (List.range' 500 486).all (rowFine Tryz.prog) = true := by
  rw [show 486 = 100 + 386 from rfl, all_parts, fine5, show 500 + 100 = 600 from rfl, fineFrom6]; rfl
theorem fineFrom4 : (List.range' 400 586).all (rowFine Tryz.prog) = true := by
  rw [show 586 = 100 + 486 from rfl, all_parts, fine4, show 400 + 100 = 500 from rfl, fineFrom5]; rfl
theorem fineFrom3 : (List.range' 300 686).all (rowFine Tryz.prog) = true := by
  rw [show 686 = 100 + 586 from rfl, all_parts, fine3, show 300 + 100 = 400 from rfl, fineFrom4]; rfl
theorem fineFrom2 : (List.range' 200 786).all (rowFine Tryz.prog) = true := by
  rw [show 786 = 100 + 686 from rfl, all_parts, fine2, show 200 + 100 = 300 from rfl, fineFrom3]; rfl
theorem fineFrom1 : (List.range' 100 886).all (rowFine Tryz.prog) = true := by
  rw [show 886 = 100 + 786 from rfl, all_parts, fine1, show 100 + 100 = 200 from rfl, fineFrom2]; rfl
theorem fineFrom0 : (List.range' 0 986).all (rowFine Tryz.prog) = true := by
  rw [show 986 = 100 + 886 from rfl, all_parts, fine0, show 0 + 100 = 100 from rfl, fineFrom1]; rfl
theorem rowed0 : (List.range' 0 100).all (fun t => match Tryz.prog.underlying t with | some (.map _ e) => decide (e < Tryz.prog.types.size) | _ => true) = true := by kernel_rfl
theorem rowed1 : (List.range' 100 100).all (fun t => match Tryz.prog.underlying t with | some (.map _ e) => decide (e < Tryz.prog.types.size) | _ => true) = true := by kernel_rfl
theorem rowed2 : (List.range' 200 100).all (fun t => match Tryz.prog.underlying t with | some (.map _ e) => decide (e < Tryz.prog.types.size) | _ => true) = true := by kernel_rfl
theorem rowed3 : (List.range' 300 100).all (fun t => match Tryz.prog.underlying t with | some (.map _ e) => decide (e < Tryz.prog.types.size) | _ => true) = true := by kernel_rfl
theorem rowed4 : (List.range' 400 100).all (fun t => match Tryz.prog.underlying t with | some (.map _ e) => decide (e < Tryz.prog.types.size) | _ => true) = true := by kernel_rfl
theorem rowed5 : (List.range' 500 100).all (fun t => match Tryz.prog.underlying t with | some (.map _ e) => decide (e < Tryz.prog.types.size) | _ => true) = true := by kernel_rfl
theorem rowed6 : (List.range' 600 100).all (fun t => match Tryz.prog.underlying t with | some (.map _ e) => decide (e < Tryz.prog.types.size) | _ => true) = true := by kernel_rfl
theorem rowed7 : (List.range' 700 100).all (fun t => match Tryz.prog.underlying t with | some (.map _ e) => decide (e < Tryz.prog.types.size) | _ => true) = true := by kernel_rfl
theorem rowed8 : (List.range' 800 100).all (fun t => match Tryz.prog.underlying t with | some (.map _ e) => decide (e < Tryz.prog.types.size) | _ => true) = true := by kernel_rfl
theorem rowed9 : (List.range' 900 86).all (fun t => match Tryz.prog.underlying t with | some (.map _ e) => decide (e < Tryz.prog.types.size) | _ => true) = true := by kernel_rfl
theorem rowedFrom8 : (List.range' 800 186).all (fun t => match Tryz.prog.underlying t with | some (.map _ e) => decide (e < Tryz.prog.types.size) | _ => true) = true := by
  rw [show 186 = 100 + 86 from rfl, all_parts, rowed8, show 800 + 100 = 900 from rfl, rowed9]; rfl
theorem rowedFrom7 : (List.range' 700 286).all (fun t => match Tryz.prog.underlying t with | some (.map _ e) => decide (e < Tryz.prog.types.size) | _ => true) = true := by
  rw [show 286 = 100 + 186 from rfl, all_parts, rowed7, show 700 + 100 = 800 from rfl, rowedFrom8]; rfl
theorem rowedFrom6 : (List.range' 600 386).all (fun t => match Tryz.prog.underlying t with | some (.map _ e) => decide (e < Tryz.prog.types.size) | _ => true) = true := by
  rw [show 386 = 100 + 286 from rfl, all_parts, rowed6, show 600 + 100 = 700 from rfl, rowedFrom7]; rfl
theorem rowedFrom5 : (List.range' 500 486).all (fun t => match Tryz.prog.underlying t with | some (.map _ e) => decide (e < Tryz.prog.types.size) | _ => true) = true := by
  rw [show 486 = 100 + 386 from rfl, all_parts, rowed5, show 500 + 100 = 600 from rfl, rowedFrom6]; rfl
theorem rowedFrom4 : (List.range' 400 586).all (fun t => match Tryz.prog.underlying t with | some (.map _ e) => decide (e < Tryz.prog.types.size) | _ => true) = true := by
  rw [show 586 = 100 + 486 from rfl, all_parts, rowed4, show 400 + 100 = 500 from rfl, rowedFrom5]; rfl
theorem rowedFrom3 : (List.range' 300 686).all (fun t => match Tryz.prog.underlying t with | some (.map _ e) => decide (e < Tryz.prog.types.size) | _ => true) = true := by
  rw [show 686 = 100 + 586 from rfl, all_parts, rowed3, show 300 + 100 = 400 from rfl, rowedFrom4]; rfl
theorem rowedFrom2 : (List.range' 200 786).all (fun t => match Tryz.prog.underlying t with | some (.map _ e) => decide (e < Tryz.prog.types.size) | _ => true) = true := by
  rw [show 786 = 100 + 686 from rfl, all_parts, rowed2, show 200 + 100 = 300 from rfl, rowedFrom3]; rfl
theorem rowedFrom1 : (List.range' 100 886).all (fun t => match Tryz.prog.underlying t with | some (.map _ e) => decide (e < Tryz.prog.types.size) | _ => true) = true := by
  rw [show 886 = 100 + 786 from rfl, all_parts, rowed1, show 100 + 100 = 200 from rfl, rowedFrom2]; rfl
theorem rowedFrom0 : (List.range' 0 986).all (fun t => match Tryz.prog.underlying t with | some (.map _ e) => decide (e < Tryz.prog.types.size) | _ => true) = true := by
  rw [show 986 = 100 + 886 from rfl, all_parts, rowed0, show 0 + 100 = 100 from rfl, rowedFrom1]; rfl
theorem globals_fine : (Tryz.prog.globals.toList.all fun g => decide (g.type < 986)) = true := by kernel_rfl
theorem params_fine : (Tryz.prog.funcs.toList.all fun f => f.params.toList.all fun t => decide (t < 986)) = true := by kernel_rfl
theorem laidOut : laidOutB Tryz.prog = true := by
  unfold laidOutB
  rw [types_size, List.range_eq_range', fineFrom0, ← Array.all_toList, globals_fine, ← Array.all_toList]
  simp only [Bool.true_and]
  rw [← params_fine]
  congr 1
  funext f
  rw [← Array.all_toList]
theorem mapsRowed_ok : mapsRowed Tryz.prog = true := by
  unfold mapsRowed
  rw [types_size, List.range_eq_range']
  have := rowedFrom0
  rw [types_size] at this
  exact this
end Go.Proofs.Gd
