/-
  VmNone: for every input the call returns true, and the arguments read behind the call as they read before. Conditions: the row's own (the listed package variables hold what they were laid with).
-/
import Derived.Test.YtdbfmnaldkfecaaGreatDoorGvRun
import Derived.Test.YtdbfmnaldkfecaaGreatDoorGdFlat
set_option linter.all false
namespace Go.Proofs.YtdbfmnaldkfecaaGreatDoor
open Go.ChangeShapes Go.WideShapes Go.ChangeAt Go.RowKit Go.AB
set_option maxRecDepth 100000
theorem cells25 : Tryz.prog.cellTypes Tryz.prog.depth 25 = some [3, 3, 3, 9, 3] := by kernel_rfl
theorem cellsOf25 : Tryz.prog.cellsOf 25 = 5 := by kernel_rfl
theorem open_value {W : World} {base : Nat} {v : Value} (h : Value.okWide Tryz.prog W .any base 25 v) : ∃ c0 c1 c2 c3 c4 : Value, v = .agg #[c0, c1, c2, c3, c4] ∧ ∀ c ∈ [c0, c1, c2, c3, c4], c.oneCell' = true ∧ ∀ b, c ≠ .bool b := by
  simp only [Value.okWide, Tryz.underlying25] at h
  obtain ⟨cs, rfl, hsz, ts, hts, _, hrow⟩ := h
  rw [cellsOf25] at hsz
  rw [cells25] at hts
  cases hts
  obtain ⟨l⟩ := cs
  match l, hsz with
  | [c0, c1, c2, c3, c4], _ =>
    refine ⟨c0, c1, c2, c3, c4, rfl, fun c hc => ?_⟩
    obtain ⟨i, hi⟩ := List.mem_iff_getElem?.1 hc
    obtain ⟨u, hu, hok⟩ := hrow i c (by simpa using hi)
    refine plain_cell ?_ hok
    have := List.mem_of_getElem? hu
    simp only [List.mem_cons, List.mem_nil_iff, or_false] at this
    rcases this with h | h | h | h | h
    · exact .inl h
    · exact .inl h
    · exact .inl h
    · exact .inr h
    · exact .inl h
theorem open_int {W : World} {base : Nat} {v : Value} (h : Value.okWide Tryz.prog W .any base 3 v) : ∃ n, v = .int .i64 n := by
  simp only [Value.okWide, Tryz.underlying3, Cell.okWide, Cell.ok] at h
  cases v <;> simp_all

/-- The call: whatever the level, the register and the five cells of the value. -/
theorem vcalls {W : World} (hT : ∀ c : Nat, c < 256 → W.cell? ⟨1, c, none⟩ = some (.int .u8 (if Lib.isSp (UInt8.ofNat c) then 1 else 0))) (n m : Int) (c0 c1 c2 c3 c4 : Value)
    (hc : ∀ c ∈ [c0, c1, c2, c3, c4], c.oneCell' = true ∧ ∀ b, c ≠ .bool b) : Calls Tryz.prog 3 #[.int .i64 n, .int .i64 m, .agg #[c0, c1, c2, c3, c4]] W fun e w' => e = .returned (.bool true) ∧ Below W.heap.size W w' := by
  have hu : ∀ i, ([.int .i64 n, .int .i64 m, c0, c1, c2, c3, c4].getD i (.int .i64 0)).oneCell' = true ∧ ∀ b, [.int .i64 n, .int .i64 m, c0, c1, c2, c3, c4].getD i (.int .i64 0) ≠ .bool b := fun i => by
    rw [List.getD_eq_getElem?_getD]
    cases h : [.int .i64 n, .int .i64 m, c0, c1, c2, c3, c4][i]? with
    | none => exact ⟨rfl, fun b e => by cases e⟩
    | some c =>
      have hm := List.mem_of_getElem? h
      rcases List.mem_cons.1 hm with rfl | hm
      · exact ⟨rfl, fun b e => by cases e⟩
      · rcases List.mem_cons.1 hm with rfl | hm
        · exact ⟨rfl, fun b e => by cases e⟩
        · exact hc c hm
  letI : Base := Gd.baseOf W (fun i => [.int .i64 n, .int .i64 m, c0, c1, c2, c3, c4].getD i (.int .i64 0)) (fun i => (hu i).1) (fun i => (hu i).2)
  have hmix : Tryz.prog.follows .mixedOrders = true := Tryz.lays157.mixed
  have hgl : MemoSpec Tryz.prog 106 Gd.glMemo := memo_of_run (E := Gd.env) (Gd.envOK0 hT) hmix Gd.glFits Gd.glRun
  have h1 : EnvOK Gd.env1 := envOK (Gd.libOK _ hT) fun f g hg args h K rv rh e => by
    have hg : (match Nat.beq f 106 with | true => BX.mk (memoA Gd.glMemo) | false => .no) = .mk g := hg
    split at hg
    · rename_i hf
      obtain rfl := Nat.eq_of_beq_eq_true hf
      cases hg
      exact memo_use Gd.noCount hgl e
    · cases hg
  have haw : MemoSpec Tryz.prog 21 Gd.awMemo := memo_of_run (E := Gd.env1) h1 hmix Gd.awFits Gd.awRun
  have h2 : EnvOK Gd.env2 := envOK (Gd.libOK _ hT) fun f g hg args h K rv rh e => by
    have hg : (match Nat.beq f 21 with | true => BX.mk (memoA Gd.awMemo) | false => .no) = .mk g := hg
    split at hg
    · rename_i hf
      obtain rfl := Nat.eq_of_beq_eq_true hf
      cases hg
      exact memo_use Gd.noCount haw e
    · cases hg
  have hbase : ∀ (B : Nat) o, Base.blocks[B]? = some o → W.heap[B]? = some o := fun B o hB => by
    have hB' : (W.heap.extract 0 2)[B]? = some o := hB
    rw [Array.getElem?_extract] at hB'
    split at hB'
    · simpa using hB'
    · cases hB'
  have hrel : ∀ s, SgnOK s (.int .i64 n) → VRL (fun _ _ => none) (Gd.noneArg s) (#[.int .i64 n, .int .i64 m, .agg #[c0, c1, c2, c3, c4]] : Array Value).toList := fun s hs => by
    show VRL _ [.gp 0 s, .gp 1 0, .ag [.gp 2 0, .gp 3 0, .gp 4 0, .gp 5 0, .gp 6 0]] [.int .i64 n, .int .i64 m, .agg #[c0, c1, c2, c3, c4]]
    refine VRL_cons.2 ⟨?_, VRL_cons.2 ⟨?_, VRL_cons.2 ⟨?_, VRL_nil.2 rfl⟩⟩⟩
    · simp only [VR]; exact ⟨rfl, hs⟩
    · simp only [VR]; exact ⟨rfl, sgn0⟩
    · simp only [VR, VRL]
      refine ⟨#[c0, c1, c2, c3, c4], rfl, ?_, ?_⟩
      · exact ⟨c0, _, rfl, ⟨rfl, sgn0⟩, c1, _, rfl, ⟨rfl, sgn0⟩, c2, _, rfl, ⟨rfl, sgn0⟩, c3, _, rfl, ⟨rfl, sgn0⟩, c4, _, rfl, ⟨rfl, sgn0⟩, rfl⟩
      · intro x hx
        simp only [List.mem_cons, List.mem_nil_iff, or_false] at hx
        rcases hx with rfl | rfl | rfl | rfl | rfl <;> rfl
  rcases Int.lt_or_le n 0 with hn | hn
  · obtain ⟨rh, e⟩ := Gd.of_isTrue Gd.noneNeg
    exact closed_call (E := Gd.env2) h2 hmix (hrel 1 ⟨fun _ => ⟨n, rfl, hn⟩, (fun h => nomatch h)⟩) e W hbase
  · obtain ⟨rh, e⟩ := Gd.of_isTrue Gd.nonePos
    exact closed_call (E := Gd.env2) h2 hmix (hrel 2 ⟨(fun h => nomatch h), fun _ => ⟨n, rfl, hn⟩⟩) e W hbase
section
variable {H : Type} {enc : TypeId × Value → H}
theorem vlifted (os : Os) (started : os.Started) (H : Type) (enc : TypeId × Value → H) :
    ReturnsInHanded {} Tryz.checked os 3 .any (fun w args => (Rows.vmNoneSpec.pre enc Tryz.prog Tryz.f3 [] false w args ∧ laidMetH Tryz.prog Rows.vmNoneRow.laid w) ∧ sizedMet enc Tryz.prog Tryz.f3 (OpenSpec.ofChange Rows.vmNoneSpec) false w args)
      (Rows.vmNoneSpec.post enc Tryz.prog Tryz.f3 false true false false) := by
  refine returnsInHanded_of_change_and (C := Tryz.checked) (X := fun w _ => laidMetH Tryz.prog Rows.vmNoneRow.laid w) (fun _ _ _ hh h => h.of_heap hh) own started (by kernel_rfl) Tryz.func3
    (ChangeSpec.witness_shaped (enc := enc) (C := Tryz.checked) (os := os) (X := fun w _ => laidMetH Tryz.prog Rows.vmNoneRow.laid w) false (World.laidAll Tryz.prog os Rows.vmNoneRow.laid) #[.int .i64 0, .int .i64 0, .agg #[.int .i64 0, .int .i64 0, .int .i64 0, .string ByteArray.empty, .int .i64 0]] 8 (World.laidAll_os _ _ _)
      (World.shaped_of_ZipB (by kernel_rfl) (by kernel_rfl)) (by kernel_rfl) (by kernel_rfl) (by kernel_rfl)
      (by rw [MakeChecks.laidMetH_plain _ _ _ (by kernel_rfl)]; exact laidMet_laidAll _ (by kernel_rfl) (by kernel_rfl))) ?_
  intro W base args ds gs before hval0 hW _ _ hL _
  have hval : ∀ (j : Nat) t v, Tryz.f3.params[j]? = some t → args[j]? = some v → Value.okWide Tryz.prog W .any base t v := hval0
  have hW' := hW
  obtain ⟨p, q, hA0, hV, rfl, _, _⟩ := hW
  have hA : DataW.TrodAll enc Tryz.prog W 0 (fun _ => true) true Tryz.f3.params.toList args.toList ds p := hA0
  rw [Tryz.params3] at hA hval
  obtain ⟨v0, v1, v2, d0, d1, d2, p0, p1, p2, rfl, rfl, hp, h0, h1, h2⟩ := trodAll_three hA
  obtain ⟨rfl, rfl⟩ := trodVars_none hV
  obtain ⟨n, rfl⟩ := open_int (hval 0 3 v0 rfl rfl)
  obtain ⟨m, rfl⟩ := open_int (hval 1 3 v1 rfl rfl)
  obtain ⟨c0, c1, c2, c3, c4, rfl, hc⟩ := open_value (hval 2 25 v2 rfl rfl)
  simp only [List.append_nil] at hW'
  rw [MakeChecks.laidMetH_plain _ _ _ (by kernel_rfl)] at hL
  refine (vcalls (table hL) n m c0 c1 c2 c3 c4 hc).mono fun e W' ⟨he, hb⟩ => ?_
  subst he
  exact ⟨_, rfl, _, _, _, [], _, [], hW', trodAll_mk1 (shut_bool Tryz.underlying4 _), trodAll_mk3 (flat3.trod h0) (flat3.trod h1) (flat25.trod h2), rfl, hb.frame _, fun h => by cases h⟩
end
end Go.Proofs.YtdbfmnaldkfecaaGreatDoor
