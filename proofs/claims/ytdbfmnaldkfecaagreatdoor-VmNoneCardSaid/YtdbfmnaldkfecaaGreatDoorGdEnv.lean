/-
  The evaluator's surroundings at this program: the two library functions that it takes whole, and that no function counts goroutines.
-/
import Derived.Test.YtdbfmnaldkfecaaGreatDoorAb5
import Derived.Test.YtdbfmnaldkfecaaGreatDoorGdPlain
set_option linter.all false
namespace Go.Proofs.Gd
open Go Go.AB
noncomputable def envX (x : FuncId → BX) : Env := ⟨Tryz.prog, 400, 9, 652, x⟩
noncomputable def env : Env := envX fun _ => .no
/-- What a run is handed: the first two of the program's variables (the second is the table of white space), and values of which nothing is known. -/
@[reducible] def baseOf (W : World) (u : Nat → Value) (h1 : ∀ i, (u i).oneCell' = true) (h2 : ∀ i b, u i ≠ .bool b) : Base := ⟨W.heap.extract 0 2, u, h1, h2⟩
theorem noCountAll : (Tryz.prog.funcs.toList.all fun fn => !(fn.name == "runtime.NumGoroutine")) = true := by kernel_rfl
theorem noCount : NoCount Tryz.prog := fun f fn hf => by
  have h1 : fn ∈ Tryz.prog.funcs.toList := by
    have : fn ∈ Tryz.prog.funcs := Array.mem_of_getElem? (show Tryz.prog.funcs[f]? = some fn from hf)
    simpa using this
  have := List.all_eq_true.1 noCountAll fn h1
  simpa using this
theorem kept {W w : World} {u : Nat → Value} {h1 : ∀ i, (u i).oneCell' = true} {h2 : ∀ i b, u i ≠ .bool b} (hk : @KeptBase (baseOf W u h1 h2) w) {B : Nat} (hB : B < 2) (hlt : B < W.heap.size) : w.heap[B]? = W.heap[B]? := by
  have : (W.heap.extract 0 2)[B]? = some W.heap[B] := by
    rw [Array.getElem?_extract]
    rw [if_pos (by omega)]
    simp [hlt]
  rw [hk B _ this]
  simp [hlt]
theorem libOK (x : FuncId → BX) {W : World} {u : Nat → Value} {h1 : ∀ i, (u i).oneCell' = true} {h2 : ∀ i b, u i ≠ .bool b} (hT : ∀ c : Nat, c < 256 → W.cell? ⟨1, c, none⟩ = some (.int .u8 (if Lib.isSp (UInt8.ofNat c) then 1 else 0))) : @LibOK (baseOf W u h1 h2) (envX x) := by
  letI := baseOf W u h1 h2
  have hlt : 1 < W.heap.size := World.block_lt_of_cell? _ _ (hT 0 (by omega))
  exact {
    noCount := noCount
    fieldsBody := ⟨Tryz.f400, _, Tryz.func400, rfl⟩
    fields := fun s w hk hs hascii => Any.strings_Fields_core Tryz.lays157 (by kernel_rfl) s w hs hascii fun c hc => by
      have := kept hk (B := 1) (by omega) hlt
      rw [← hT c hc]
      exact World.cell?_of_block (w := W) this
    index := ⟨Tryz.f652, Tryz.func652, by kernel_rfl, by kernel_rfl, by kernel_rfl, by kernel_rfl⟩ }
theorem envOK0 {W : World} {u : Nat → Value} {h1 : ∀ i, (u i).oneCell' = true} {h2 : ∀ i b, u i ≠ .bool b} (hT : ∀ c : Nat, c < 256 → W.cell? ⟨1, c, none⟩ = some (.int .u8 (if Lib.isSp (UInt8.ofNat c) then 1 else 0))) : @EnvOK (baseOf W u h1 h2) env :=
  letI := baseOf W u h1 h2
  envOK (libOK _ hT) fun f g h => by cases h
end Go.Proofs.Gd
