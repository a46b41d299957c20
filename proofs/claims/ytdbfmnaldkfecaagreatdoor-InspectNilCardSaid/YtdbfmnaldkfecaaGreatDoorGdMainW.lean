/-
  InspectNil: for every input the call returns true, and the argument reads behind the call as it read before. Conditions: the row's own (the listed package variables hold what they were laid with).
-/
import Derived.Test.YtdbfmnaldkfecaaGreatDoorGdRunB
import Derived.Test.YtdbfmnaldkfecaaGreatDoorGdFlat
set_option linter.all false
namespace Go.Proofs.YtdbfmnaldkfecaaGreatDoor
open Go.ChangeShapes Go.WideShapes Go.ChangeAt Go.RowKit Go.AB
set_option maxRecDepth 100000
theorem cells67 : Tryz.prog.cellTypes Tryz.prog.depth 67 = some [3, 3, 9, 3, 3, 3, 9, 3] := by kernel_rfl
theorem cellsOf67 : Tryz.prog.cellsOf 67 = 8 := by kernel_rfl
theorem open_op {W : World} {base : Nat} {v : Value} (h : Value.okWide Tryz.prog W .any base 67 v) : ∃ c0 c1 c2 c3 c4 c5 c6 c7 : Value, v = .agg #[c0, c1, c2, c3, c4, c5, c6, c7] ∧ ∀ c ∈ [c0, c1, c2, c3, c4, c5, c6, c7], c.oneCell' = true ∧ ∀ b, c ≠ .bool b := by
  simp only [Value.okWide, Tryz.underlying67] at h
  obtain ⟨cs, rfl, hsz, ts, hts, _, hrow⟩ := h
  rw [cellsOf67] at hsz
  rw [cells67] at hts
  cases hts
  obtain ⟨l⟩ := cs
  match l, hsz with
  | [c0, c1, c2, c3, c4, c5, c6, c7], _ =>
    refine ⟨c0, c1, c2, c3, c4, c5, c6, c7, rfl, fun c hc => ?_⟩
    obtain ⟨i, hi⟩ := List.mem_iff_getElem?.1 hc
    obtain ⟨u, hu, hok⟩ := hrow i c (by simpa using hi)
    refine plain_cell ?_ hok
    have := List.mem_of_getElem? hu
    simp only [List.mem_cons, List.mem_nil_iff, or_false] at this
    rcases this with h | h | h | h | h | h | h | h
    · exact .inl h
    · exact .inl h
    · exact .inr h
    · exact .inl h
    · exact .inl h
    · exact .inl h
    · exact .inr h
    · exact .inl h

/-- The call: whatever stands in the eight cells. -/
theorem calls {W : World} (hT : ∀ c : Nat, c < 256 → W.cell? ⟨1, c, none⟩ = some (.int .u8 (if Lib.isSp (UInt8.ofNat c) then 1 else 0))) (c0 c1 c2 c3 c4 c5 c6 c7 : Value)
    (hc : ∀ c ∈ [c0, c1, c2, c3, c4, c5, c6, c7], c.oneCell' = true ∧ ∀ b, c ≠ .bool b) : Calls Tryz.prog 4 #[.agg #[c0, c1, c2, c3, c4, c5, c6, c7]] W fun e w' => e = .returned (.bool true) ∧ Below W.heap.size W w' := by
  have hu : ∀ i, ([c0, c1, c2, c3, c4, c5, c6, c7].getD i (.int .i64 0)).oneCell' = true ∧ ∀ b, [c0, c1, c2, c3, c4, c5, c6, c7].getD i (.int .i64 0) ≠ .bool b := fun i => by
    rw [List.getD_eq_getElem?_getD]
    cases h : [c0, c1, c2, c3, c4, c5, c6, c7][i]? with
    | none => exact ⟨rfl, fun b e => by cases e⟩
    | some c => exact hc c (List.mem_of_getElem? h)
  letI : Base := Gd.baseOf W (fun i => [c0, c1, c2, c3, c4, c5, c6, c7].getD i (.int .i64 0)) (fun i => (hu i).1) (fun i => (hu i).2)
  obtain ⟨rh, e⟩ := Gd.of_isTrue Gd.run4
  refine closed_call (E := Gd.env) (Gd.envOK0 hT) (show Tryz.prog.follows .mixedOrders = true from Tryz.lays157.mixed) (args := Gd.opArg) (vs := #[.agg #[c0, c1, c2, c3, c4, c5, c6, c7]]) ?_ e W fun B o hB => ?_
  · simp only [Gd.opArg, VRL_cons, VR, VRL]
    refine ⟨⟨#[c0, c1, c2, c3, c4, c5, c6, c7], rfl, ?_, ?_⟩, trivial⟩
    · exact ⟨c0, _, rfl, ⟨rfl, sgn0⟩, c1, _, rfl, ⟨rfl, sgn0⟩, c2, _, rfl, ⟨rfl, sgn0⟩, c3, _, rfl, ⟨rfl, sgn0⟩, c4, _, rfl, ⟨rfl, sgn0⟩, c5, _, rfl, ⟨rfl, sgn0⟩, c6, _, rfl, ⟨rfl, sgn0⟩, c7, _, rfl, ⟨rfl, sgn0⟩, rfl⟩
    · intro x hx
      simp only [List.mem_cons, List.mem_nil_iff, or_false] at hx
      rcases hx with rfl | rfl | rfl | rfl | rfl | rfl | rfl | rfl <;> rfl
  · have hB' : (W.heap.extract 0 2)[B]? = some o := hB
    rw [Array.getElem?_extract] at hB'
    split at hB'
    · simpa using hB'
    · cases hB'

theorem lifted (os : Os) (started : os.Started) (H : Type) (enc : TypeId × Value → H) :
    ReturnsInHanded {} Tryz.checked os 4 .any (fun w args => (Rows.inspectNilSpec.pre enc Tryz.prog Tryz.f4 [] false w args ∧ laidMetH Tryz.prog Rows.inspectNilRow.laid w) ∧ sizedMet enc Tryz.prog Tryz.f4 (OpenSpec.ofChange Rows.inspectNilSpec) false w args)
      (Rows.inspectNilSpec.post enc Tryz.prog Tryz.f4 false true false false) := by
  refine returnsInHanded_of_change_and (C := Tryz.checked) (X := fun w _ => laidMetH Tryz.prog Rows.inspectNilRow.laid w) (fun _ _ _ hh h => h.of_heap hh) own started (by kernel_rfl) Tryz.func4
    (ChangeSpec.witness_shaped (enc := enc) (C := Tryz.checked) (os := os) (X := fun w _ => laidMetH Tryz.prog Rows.inspectNilRow.laid w) false (World.laidAll Tryz.prog os Rows.inspectNilRow.laid) #[.agg #[.int .i64 0, .int .i64 0, .string ByteArray.empty, .int .i64 0, .int .i64 0, .int .i64 0, .string ByteArray.empty, .int .i64 0]] 8 (World.laidAll_os _ _ _)
      (World.shaped_of_ZipB (by kernel_rfl) (by kernel_rfl)) (by kernel_rfl) (by kernel_rfl) (by kernel_rfl)
      (by rw [MakeChecks.laidMetH_plain _ _ _ (by kernel_rfl)]; exact laidMet_laidAll _ (by kernel_rfl) (by kernel_rfl))) ?_
  intro W base args ds gs before hval0 hW _ _ hL _
  have hval : ∀ (j : Nat) t v, Tryz.f4.params[j]? = some t → args[j]? = some v → Value.okWide Tryz.prog W .any base t v := hval0
  have hW' := hW
  obtain ⟨p, q, hA0, hV, rfl, _, _⟩ := hW
  have hA : DataW.TrodAll enc Tryz.prog W 0 (fun _ => true) true Tryz.f4.params.toList args.toList ds p := hA0
  rw [Tryz.params4] at hA hval
  obtain ⟨v0, d0, rfl, rfl, h0⟩ := trodAll_one hA
  obtain ⟨rfl, rfl⟩ := trodVars_none hV
  obtain ⟨c0, c1, c2, c3, c4, c5, c6, c7, rfl, hc⟩ := open_op (hval 0 67 v0 rfl rfl)
  simp only [List.append_nil] at hW'
  rw [MakeChecks.laidMetH_plain _ _ _ (by kernel_rfl)] at hL
  refine (calls (table hL) c0 c1 c2 c3 c4 c5 c6 c7 hc).mono fun e W' ⟨he, hb⟩ => ?_
  subst he
  exact ⟨_, rfl, _, _, _, [], p, [], hW', trodAll_mk1 (shut_bool Tryz.underlying4 _), trodAll_mk1 (flat67.trod h0), rfl, hb.frame _, fun h => by cases h⟩
end Go.Proofs.YtdbfmnaldkfecaaGreatDoor
