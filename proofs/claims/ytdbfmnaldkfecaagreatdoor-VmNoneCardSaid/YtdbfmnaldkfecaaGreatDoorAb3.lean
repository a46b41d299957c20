/-
  The evaluator (abstract runs of a loaded program's code) and its soundness: part Ab3.
-/
import Derived.Test.YtdbfmnaldkfecaaGreatDoorAb2
set_option linter.all false
namespace Go.AB
variable [Base]
variable {rv : AV} {rh : H} {P : Program}

/-! ### cells of values, of types' zero values -/
theorem BZ.run_ok {b : BZ} {K : Nat → BV4 → List AV → Ans} (e : b.run K = .ok rv rh) : ∃ n t l, b = .mk n t l ∧ K n t l = .ok rv rh := by
  cases b with
  | mk n t l => exact ⟨n, t, l, rfl, e⟩
  | no => cases e
theorem zeroBZ_ok {t n : Nat} {tr : BV4} {l : List AV} (h : zeroBZ P t = .mk n tr l) : ∃ i z, typeP P t = some i ∧ i.zero = some z ∧ n = l.length ∧ (∀ j, j < n → tr.get j = l[j]?) ∧
    (∀ x ∈ l, cellA x = true) ∧ ∀ γ, VRL γ l z.cells.toList := by
  unfold zeroBZ at h
  cases hz : zeroP P t with
  | none => rw [hz] at h; cases h
  | some z =>
    rw [hz] at h
    simp only [zeroBZ.putCellsZ] at h
    split at h
    · rename_i v nx m t0 c0 c1 c2 c3 hp
      obtain ⟨t1, h1, h2⟩ := putCells_ok z 0 .e _ hp
      simp only [Ans.ok.injEq, H.mk.injEq, BO4.nd.injEq, AO.blk.injEq] at h1
      obtain ⟨_, _, ⟨_, rfl⟩, _⟩ := h1
      simp only [BZ.mk.injEq] at h
      obtain ⟨rfl, rfl, rfl⟩ := h
      unfold zeroP at hz
      split at hz
      · rename_i i hi
        split at hz
        · rename_i u hu
          split at hz
          · rename_i l' hm
            split at hz
            · rename_i hall
              cases hz
              exact ⟨i, u, hi, hu, rfl, fun j hj => by rw [h2, if_pos ⟨Nat.zero_le _, by omega⟩]; rfl, by simpa using hall, fun γ => mapM_absV (absV_rel 10) _ _ hm⟩
            · cases hz
          · cases hz
        · cases hz
      · cases hz
    · cases h
theorem cellsL_rel {γ : Gh} {x : AV} {v : Value} {l : List AV} (h : VR γ x v) (hl : cellsL x = some l) : VRL γ l v.cells.toList ∧ ∀ y ∈ l, cellA y = true := by
  have one : ∀ (x : AV) (v : Value), VR γ x v → cellA x = true → (∀ c, v ≠ .agg c) → VRL γ [x] v.cells.toList ∧ ∀ y ∈ [x], cellA y = true := by
    intro x v h hc hv
    have : v.cells = #[v] := by cases v <;> first | rfl | exact absurd rfl (hv _)
    rw [this]
    simp [h, hc]
  cases x with
  | ag cs =>
    simp only [cellsL, Option.some.injEq] at hl
    subst hl
    simp only [VR] at h
    obtain ⟨c, rfl, h1, h2⟩ := h
    exact ⟨h1, h2⟩
  | tu vs => cases hl
  | gp g o =>
    simp only [cellsL, Option.some.injEq] at hl
    subst hl
    refine one _ _ h rfl fun c hc => ?_
    subst hc
    simp only [VR] at h
    have := Base.one g
    rw [← h.1] at this
    cases this
  | _ =>
    simp only [cellsL, Option.some.injEq] at hl
    subst hl
    refine one _ _ h rfl fun c hc => ?_
    subst hc
    simp [VR] at h
/-! ### parts -/
def PartsR (γ : Gh) : List (Nat × AV) → List (Nat × Value) → Prop
  | [], l => l = []
  | x :: xs, l => ∃ v vs, l = (x.1, v) :: vs ∧ VR γ x.2 v ∧ PartsR γ xs vs
theorem fold_set (off : Nat) : ∀ (vs : List Value) (k : Nat) (c : Array Value), off + k + vs.length ≤ c.size →
    ∃ c', (vs.zipIdx k).foldl (fun cs (x : Value × Nat) => cs.setIfInBounds (off + x.2) x.1) c = c' ∧ c'.size = c.size ∧ ∀ i, c'[i]? = if off + k ≤ i ∧ i < off + k + vs.length then vs[i - (off + k)]? else c[i]?
  | [], k, c, _ => ⟨c, rfl, rfl, fun i => by rw [if_neg (by simp)]⟩
  | v :: vs, k, c, h => by
    obtain ⟨c', h1, h2, h3⟩ := fold_set off vs (k + 1) (c.setIfInBounds (off + k) v) (by simp at h ⊢; omega)
    refine ⟨c', by simpa using h1, by simpa using h2, fun i => ?_⟩
    rw [h3]
    by_cases hi : i = off + k
    · subst hi
      rw [if_neg (by omega), if_pos ⟨Nat.le_refl _, by simp⟩]
      simp only [Nat.sub_self, List.getElem?_cons_zero]
      rw [Array.getElem?_setIfInBounds_self_of_lt (by simp at h; omega)]
    · by_cases hlt : off + k ≤ i ∧ i < off + k + (v :: vs).length
      · rw [if_pos hlt, if_pos (by simp at hlt ⊢; omega)]
        obtain ⟨j, rfl⟩ : ∃ j, i = off + (k + 1) + j := ⟨i - (off + (k + 1)), by omega⟩
        simp [show off + (k + 1) + j - (off + k) = j + 1 by omega]
      · rw [if_neg hlt, if_neg (by simp at hlt ⊢; omega), Array.getElem?_setIfInBounds_ne (by omega)]
/-- Cells written over: on both sides. -/
theorem CellsR.put {γ : Gh} {t t' : BV4} {n : Nat} {c c' : Array Value} {l : List AV} {vs : List Value} {o : Nat} (h : CellsR γ t n c) (hl : VRL γ l vs) (hc : ∀ x ∈ l, cellA x = true)
    (ht : ∀ j, t'.get j = if o ≤ j ∧ j < o + l.length then l[j - o]? else t.get j) (hcs : ∀ i, c'[i]? = if o ≤ i ∧ i < o + vs.length then vs[i - o]? else c[i]?) : CellsR γ t' n c' := by
  intro i hi
  have hlen := hl.length
  rw [ht, hcs, ← hlen]
  split
  · rename_i hh
    have hlt : i - o < l.length := by omega
    obtain ⟨v, h1, h2⟩ := hl.get (List.getElem?_eq_getElem hlt)
    exact ⟨_, v, List.getElem?_eq_getElem hlt, h1, hc _ (List.getElem_mem hlt), h2⟩
  · exact h i hi
theorem fill_ok {place place' : Nat → Option (Nat × Nat)} (hp : ∀ i p, place i = some p → place' i = some p) {n : Nat} : ∀ (parts : List (Nat × AV)) (t : BV4) (K : BV4 → Ans), fillA place n parts t K = .ok rv rh →
    ∃ t', K t' = .ok rv rh ∧ ∀ γ pv c, PartsR γ parts pv → CellsR γ t n c → c.size = n → ∃ c', Instr.fill place' c pv = some c' ∧ CellsR γ t' n c' ∧ c'.size = n
  | [], t, K, e => ⟨t, e, fun γ pv c h1 h2 h3 => by
      simp only [PartsR] at h1; subst h1; exact ⟨c, rfl, h2, h3⟩⟩
  | x :: xs, t, K, e => by
    have e1 : Option.rec (motive := fun _ => Ans) (.err 24) (fun p => cellsK x.2 fun c => ifK (andB (Nat.beq (lenN c) p.2) (Nat.ble (Nat.add p.1 p.2) n)) (putCells c p.1 t fun t' => fillA place n xs t' K) (.err 25)) (place x.1) = .ok rv rh := e
    cases hx : place x.1 with
    | none => rw [hx] at e1; cases e1
    | some p =>
      rw [hx] at e1
      obtain ⟨l, hl, e2⟩ := cellsK_ok e1
      rw [ifK_eq, andB_eq] at e2
      split at e2
      · rename_i hh
        rw [Bool.and_eq_true] at hh
        obtain ⟨b1, b2⟩ := hh
        have b1 := Nat.eq_of_beq_eq_true b1
        rw [lenN_eq] at b1
        have b3 : p.1 + p.2 ≤ n := Nat.le_of_ble_eq_true b2
        obtain ⟨t1, e3, h3⟩ := putCells_ok l p.1 t _ e2
        obtain ⟨t2, e4, h4⟩ := fill_ok hp xs t1 K e3
        refine ⟨t2, e4, fun γ pv c q1 q2 q3 => ?_⟩
        obtain ⟨v, vs, rfl, q4, q5⟩ := q1
        obtain ⟨q6, q7⟩ := cellsL_rel q4 hl
        have hlen : v.cells.size = p.2 := by rw [← Array.length_toList, ← q6.length, b1]
        obtain ⟨c1, c2, c3, c4⟩ := fold_set p.1 v.cells.toList 0 c (by rw [Array.length_toList]; omega)
        obtain ⟨c', d1, d2, d3⟩ := h4 γ vs c1 q5 (q2.put q6 q7 h3 (by simpa using c4)) (by omega)
        refine ⟨c', ?_, d2, d3⟩
        simp only [Instr.fill, hp _ _ hx, hlen, ne_eq, not_true_eq_false, false_or, Bool.false_or, decide_false, q3, show ¬ (p.1 + p.2 > n) by omega, if_false]
        rw [← d1, ← c2, ← Array.foldl_toList, Array.toList_zipIdx]
        simp
      · cases e2
theorem cParts_ok : ∀ (l : List (Nat × Operand)) {g : Tm → List (Nat × AV) → (List (Nat × AV) → Ans) → Ans} (_ : cParts l = .mk g) {tm : Tm} {acc : List (Nat × AV)} {K : List (Nat × AV) → Ans} (_ : g tm acc K = .ok rv rh),
    ∃ vs : List (Nat × AV), vs.length = l.length ∧ (∀ (i : Nat) x v, l[i]? = some x → vs[i]? = some v → v.1 = x.1 ∧ OV tm x.2 v.2) ∧ K (vs ++ acc) = .ok rv rh
  | [], g, hc, tm, acc, K, e => by
    simp only [cParts] at hc; cases hc
    exact ⟨[], rfl, fun i x v h => by simp at h, e⟩
  | x :: l, g, hc, tm, acc, K, e => by
    simp only [cParts] at hc
    cases hl : cParts l with
    | mk f => cases hx : cOpd x.2 with
      | mk gx =>
        rw [hl, hx] at hc; cases hc
        obtain ⟨vs, h1, h2, h3⟩ := cParts_ok l hl e
        obtain ⟨v, hv, h4⟩ := cOpd_ok hx h3
        refine ⟨(x.1, v) :: vs, by simp [h1], fun i y u hy hu => ?_, h4⟩
        cases i with
        | zero => simp at hy hu; subst hy; subst hu; exact ⟨rfl, hv⟩
        | succ i => exact h2 i y u (by simpa using hy) (by simpa using hu)
theorem PartsR_of {γ : Gh} {V : Operand → AV → Prop} {op : Op} {ac : Act} (hop : OpdsR γ V op ac) : ∀ (l : List (Nat × Operand)) (vs : List (Nat × AV)), (∀ x ∈ l, x.2 ∈ op.operands) → vs.length = l.length →
    (∀ (i : Nat) x v, l[i]? = some x → vs[i]? = some v → v.1 = x.1 ∧ V x.2 v.2) → PartsR γ vs (l.map fun x => (x.1, ac.eval x.2))
  | [], [], _, _, _ => rfl
  | x :: l, v :: vs, hm, hlen, hv => by
    obtain ⟨h1, h2⟩ := hv 0 x v rfl rfl
    refine ⟨ac.eval x.2, l.map fun x => (x.1, ac.eval x.2), by simp [h1], hop _ _ (hm x (by simp)) h2, ?_⟩
    exact PartsR_of hop l vs (fun y hy => hm y (by simp [hy])) (by simpa using hlen) (fun i y u hy hu => hv (i + 1) y u (by simpa using hy) (by simpa using hu))
  | [], _ :: _, _, hlen, _ => by simp at hlen
  | _ :: _, [], _, hlen, _ => by simp at hlen
theorem CellsR.of_list {γ : Gh} {t : BV4} {l : List AV} {c : Array Value} (ht : ∀ j, j < l.length → t.get j = l[j]?) (hc : ∀ x ∈ l, cellA x = true) (hr : VRL γ l c.toList) : CellsR γ t l.length c := by
  intro i hi
  obtain ⟨v, h1, h2⟩ := hr.get (List.getElem?_eq_getElem hi)
  exact ⟨l[i], v, by rw [ht i hi, List.getElem?_eq_getElem hi], by rwa [Array.getElem?_toList] at h1, hc _ (List.getElem_mem hi), h2⟩
theorem CellsR.list {γ : Gh} {t : BV4} {n : Nat} {c : Array Value} {l : List AV} (h : CellsR γ t n c) (hn : c.size = n) (hl : l.length = n) (ht : ∀ i, i < n → t.get (0 + i) = l[i]?) : VRL γ l c.toList ∧ ∀ x ∈ l, cellA x = true := by
  have key : ∀ (i : Nat) x, l[i]? = some x → ∃ v, c[i]? = some v ∧ cellA x = true ∧ VR γ x v := by
    intro i x hx
    have hlt : i < n := hl ▸ (List.getElem?_eq_some_iff.1 hx).1
    obtain ⟨y, v, h1, h2, h3, h4⟩ := h i hlt
    have := ht i hlt
    rw [Nat.zero_add, h1, hx] at this
    cases this
    exact ⟨v, h2, h3, h4⟩
  refine ⟨(VRL_iff (l := l) (m := c.toList)).2 ⟨?_, fun i x v hx hv => ?_⟩, fun x hx => ?_⟩
  · exact hl.trans (hn.symm.trans (by simp))
  · obtain ⟨u, h1, _, h3⟩ := key i x hx
    rw [Array.getElem?_toList, h1] at hv; cases hv; exact h3
  · obtain ⟨i, hi⟩ := List.mem_iff_getElem?.1 hx
    obtain ⟨_, _, h, _⟩ := key i x hi
    exact h

/-! ### structs and arrays -/
theorem allTy_ok : ∀ {l : List Field}, allTy P l = true → ∀ f ∈ l, ∃ i, typeP P f.type = some i
  | [], _, f, hf => by simp at hf
  | g :: l, h, f, hf => by
    have h' : (match typeP P g.type with | some _ => allTy P l | none => false) = true := h
    cases hg : typeP P g.type with
    | none => rw [hg] at h'; cases h'
    | some i =>
      rw [hg] at h'
      rcases List.mem_cons.1 hf with rfl | hf
      · exact ⟨i, hg⟩
      · exact allTy_ok h' f hf
theorem run_places (w : World) : ∀ (l : List Field), (∀ f ∈ l, ∃ i, typeP P f.type = some i) → (l.mapM fun f => do pure (f.offset, ← sizeOf f.type) : Sem (List (Nat × Nat))).run P w = .ok (l.map fun f => (f.offset, sizeP P f.type)) w
  | [], _ => by simp
  | f :: l, h => by
    obtain ⟨i, hi⟩ := h f (by simp)
    simp only [List.mapM_cons, Sem.run_bind, run_sizeOfP hi, Result.andThen_ok, Sem.run_pure, run_places w l (fun g hg => h g (by simp [hg])), List.map_cons]
theorem run_placesA (w : World) (fs : Array Field) (h : ∀ f ∈ fs.toList, ∃ i, typeP P f.type = some i) : (fs.mapM fun f => do pure (f.offset, ← sizeOf f.type) : Sem (Array (Nat × Nat))).run P w = .ok (fs.map fun f => (f.offset, sizeP P f.type)) w := by
  rw [Array.mapM_eq_mapM_toList]
  simp only [map_eq_pure_bind, Sem.run_bind, run_places w _ h, Result.andThen_ok, Sem.run_pure]
  rw [← Array.toList_map]
theorem run_zeroP {t : Nat} {i : TypeInfo} {z : Value} (hi : typeP P t = some i) (hz : i.zero = some z) (w : World) : (zeroValue t).run P w = .ok z w := by
  simp [zeroValue, run_typeInfoP hi, hz]
theorem build_ok {t : TypeId} {parts : List (Nat × AV)} {K : AV → Ans} (e : buildK P t parts K = .ok rv rh) :
    ∃ v, K v = .ok rv rh ∧ ∀ γ (pv : Array (Nat × Value)) w, PartsR γ parts pv.toList → ∃ u, (Instr.build t pv).run P w = .ok u w ∧ VR γ v u := by
  unfold buildK at e
  split at e
  · rename_i fs hu
    split at e
    · rename_i hall
      obtain ⟨n, z, l, hz, e1⟩ := BZ.run_ok e
      obtain ⟨i, zv, hi, hiz, rfl, hzt, hcl, hzr⟩ := zeroBZ_ok hz
      have hpl : ∀ j p, placesP P t j = some p → (fs.map fun f => (f.offset, sizeP P f.type))[j]? = some p := by
        intro j p hj
        simp only [placesP, Option.map_eq_some_iff] at hj
        obtain ⟨x, hx, rfl⟩ := hj
        obtain ⟨fs', f, h1, h2, h3, h4, _⟩ := fieldP_ok (off := x.1) (size := x.2.1) (agg := x.2.2) hx
        rw [hu] at h1; cases h1
        simp [h2, h3, h4]
      obtain ⟨t1, e2, h2⟩ := fill_ok hpl parts z _ e1
      obtain ⟨l2, e3, h3, h4⟩ := getCells_ok _ _ _ _ _ e2
      rw [List.append_nil] at e3
      refine ⟨_, e3, fun γ pv w hp => ?_⟩
      obtain ⟨c', q1, q2, q3⟩ := h2 γ pv.toList zv.cells hp (CellsR.of_list hzt hcl (hzr γ)) (by rw [← Array.length_toList, ← (hzr γ).length])
      obtain ⟨q4, q5⟩ := q2.list q3 h3 h4
      refine ⟨.agg c', ?_, by simp only [VR]; exact ⟨c', rfl, q4, q5⟩⟩
      simp only [Instr.build, Sem.run_bind, run_zeroP hi hiz, Result.andThen_ok, run_underlyingP hu, run_placesA w fs (allTy_ok hall), q1, Sem.run_pure]
    · cases e
  · rename_i m el hu
    split at e
    · rename_i j hj
      obtain ⟨n, z, l, hz, e1⟩ := BZ.run_ok e
      obtain ⟨i, zv, hi, hiz, rfl, hzt, hcl, hzr⟩ := zeroBZ_ok hz
      obtain ⟨t1, e2, h2⟩ := fill_ok (place' := fun i => some (i * sizeP P el, sizeP P el)) (fun _ _ h => h) parts z _ e1
      obtain ⟨l2, e3, h3, h4⟩ := getCells_ok _ _ _ _ _ e2
      rw [List.append_nil] at e3
      refine ⟨_, e3, fun γ pv w hp => ?_⟩
      obtain ⟨c', q1, q2, q3⟩ := h2 γ pv.toList zv.cells hp (CellsR.of_list hzt hcl (hzr γ)) (by rw [← Array.length_toList, ← (hzr γ).length])
      obtain ⟨q4, q5⟩ := q2.list q3 h3 h4
      refine ⟨.agg c', ?_, by simp only [VR]; exact ⟨c', rfl, q4, q5⟩⟩
      simp only [Instr.build, Sem.run_bind, run_zeroP hi hiz, Result.andThen_ok, run_underlyingP hu, run_sizeOfP hj, q1, Sem.run_pure]
    · cases e
  · cases e
theorem pure_build {t : TypeId} {parts : Array (Nat × Operand)} {V : Operand → AV → Prop} {vs : List (Nat × AV)} {v : AV} (h1 : vs.length = parts.toList.length)
    (h2 : ∀ (i : Nat) x u, parts.toList[i]? = some x → vs[i]? = some u → u.1 = x.1 ∧ V x.2 u.2) (h3 : ∀ γ (pv : Array (Nat × Value)) w, PartsR γ vs pv.toList → ∃ u, (Instr.build t pv).run P w = .ok u w ∧ VR γ v u) :
    SpecPure P (.build t parts) V v := by
  intro γ ac h w o ho hop hr
  have hp := PartsR_of hop parts.toList vs (fun x hx => by simp only [Op.operands, List.mem_toArray, List.mem_map]; exact ⟨x, hx, rfl⟩) h1 h2
  obtain ⟨u, h4, h5⟩ := h3 γ (parts.map fun x => (x.1, ac.eval x.2)) w (by simpa using hp)
  exact ⟨u, by simp [execOp, ho, h4], h5⟩
end Go.AB
namespace Go.AB
variable [Base]
variable {rv : AV} {rh : H} {P : Program}

/-! ### blocks made -/
theorem newK_ok {h : H} {o : AO} {K : Nat → H → Ans} (e : h.newK o K = .ok rv rh) :
    ∃ h', K h.nx h' = .ok rv rh ∧ h'.nx = h.nx + 1 ∧ ∀ a, h'.get a = if a = h.nx then some o else h.get a := H.newK_ok e
theorem newVar_run (t : TypeId) (v : Value) (w : World) : (newVar t v).run P w = .ok ⟨w.heap.size, 0, none⟩ { w with heap := w.heap.push (.cells v.cells t) } := by
  simp [newVar, newRow, newObj, Sem.run]
theorem newRow_run (t : TypeId) (c : Array Value) (w : World) : (newRow t c).run P w = .ok ⟨w.heap.size, 0, none⟩ { w with heap := w.heap.push (.cells c t) } := by
  simp [newRow, newObj, Sem.run]
theorem ObR_blk {γ : Gh} {n : Nat} {t : BV4} {c : Array Value} {T : TypeId} (hc : c.size = n) (h : CellsR γ t n c) : ObR γ 0 n (.cells c T) (.blk n t) := ⟨rfl, rfl, c, T, rfl, hc, h⟩
/-- A new block, pointed to. -/
theorem alloc_ok {elem : TypeId} {h : H} {K : KV} (e : allocK P elem h K = .ok rv rh) : ∃ n t h', K (.p h.nx 0 0) h' = .ok rv rh ∧ h'.nx = h.nx + 1 ∧ (∀ a, h'.get a = if a = h.nx then some (.blk n t) else h.get a) ∧
    ∀ V, SpecNew P (.alloc elem) V h.nx (.p h.nx 0 0) (.blk n t) 0 n := by
  obtain ⟨n, t, l, hz, e1⟩ := BZ.run_ok (show (zeroBZ P elem).run _ = .ok rv rh from e)
  obtain ⟨i, z, hi, hiz, rfl, hzt, hcl, hzr⟩ := zeroBZ_ok hz
  obtain ⟨h', e2, hn, hg⟩ := newK_ok e1
  refine ⟨_, t, h', e2, hn, hg, fun V γ ac h0 w op ho hop hr => ?_⟩
  refine ⟨.cells z.cells elem, { w with heap := w.heap.push (.cells z.cells elem) }, .pointer (some ⟨w.heap.size, 0, none⟩), ?_, rfl, ⟨rfl, rfl, rfl⟩, fun γ' hle hγ' => ⟨?_, ?_⟩⟩
  · simp [execOp, ho, Instr.alloc, run_zeroP hi hiz, newVar_run]
  · simp only [VR]; exact ⟨_, _, hγ', rfl⟩
  · exact ObR_blk (by rw [← Array.length_toList, ← (hzr γ').length]) (CellsR.of_list hzt hcl (hzr γ'))
theorem box_ok {elem : TypeId} {x : AV} {h : H} {K : KV} (e : boxK elem x h K = .ok rv rh) : ∃ n t h', K (.p h.nx 0 0) h' = .ok rv rh ∧ h'.nx = h.nx + 1 ∧ (∀ a, h'.get a = if a = h.nx then some (.blk n t) else h.get a) ∧
    ∀ V x', V x' x → SpecNew P (.box elem x') V h.nx (.p h.nx 0 0) (.blk n t) 0 n := by
  obtain ⟨l, hl, e1⟩ := cellsK_ok (show cellsK x _ = .ok rv rh from e)
  obtain ⟨t, e2, ht⟩ := putCells_ok l 0 .e _ e1
  rw [forceN_eq, lenN_eq] at e2
  obtain ⟨h', e3, hn, hg⟩ := newK_ok e2
  refine ⟨_, t, h', e3, hn, hg, fun V x' hx γ ac h0 w op ho hop hr => ?_⟩
  have h1 := hop x' _ (by simp [Op.operands]) hx
  refine ⟨.cells (ac.eval x').cells elem, { w with heap := w.heap.push (.cells (ac.eval x').cells elem) }, .pointer (some ⟨w.heap.size, 0, none⟩), ?_, rfl, ⟨rfl, rfl, rfl⟩, fun γ' hle hγ' => ⟨?_, ?_⟩⟩
  · simp [execOp, ho, Instr.box, newVar_run]
  · simp only [VR]; exact ⟨_, _, hγ', rfl⟩
  · obtain ⟨q1, q2⟩ := cellsL_rel (h1.mono hle) hl
    exact ObR_blk (by rw [← Array.length_toList, ← q1.length]) (CellsR.of_list (fun j hj => by rw [ht, if_pos ⟨Nat.zero_le _, by omega⟩]; rfl) q2 q1)
theorem rep_ok (z : List AV) : ∀ (n o : Nat) (t : BV4) (K : BV4 → Ans), repA z n o t K = .ok rv rh →
    ∃ t', K t' = .ok rv rh ∧ ∀ j, t'.get j = if o ≤ j ∧ j < o + n * z.length then z[(j - o) % z.length]? else t.get j
  | 0, o, t, K, e => ⟨t, e, fun j => by rw [if_neg (by simp)]⟩
  | n + 1, o, t, K, e => by
    obtain ⟨t1, e1, h1⟩ := putCells_ok z o t _ (show putCells z o t (fun t' => forceN (Nat.add o (lenN z)) fun o' => repA z n o' t' K) = .ok rv rh from e)
    rw [forceN_eq, lenN_eq] at e1
    obtain ⟨t2, e2, h2⟩ := rep_ok z n _ t1 K e1
    refine ⟨t2, e2, fun j => ?_⟩
    have hadd : Nat.add o z.length = o + z.length := rfl
    rw [h2, h1, hadd]
    have hm : (n + 1) * z.length = n * z.length + z.length := Nat.succ_mul n _
    by_cases h3 : o + z.length ≤ j ∧ j < o + z.length + n * z.length
    · rw [if_pos h3, if_pos (by omega)]
      obtain ⟨k, rfl⟩ : ∃ k, j = o + z.length + k := ⟨j - (o + z.length), by omega⟩
      rw [show o + z.length + k - (o + z.length) = k by omega, show o + z.length + k - o = k + z.length by omega, Nat.add_mod_right]
    · rw [if_neg h3]
      by_cases h4 : o ≤ j ∧ j < o + z.length
      · rw [if_pos h4, if_pos (by omega), Nat.mod_eq_of_lt (by omega)]
      · rw [if_neg h4, if_neg (by omega)]
theorem rep_cells {γ : Gh} {z : List AV} {zv : Array Value} {n N : Nat} {t : BV4} (hz : VRL γ z zv.toList) (hc : ∀ x ∈ z, cellA x = true) (hN : N = n * z.length)
    (ht : ∀ j, t.get j = if 0 ≤ j ∧ j < 0 + n * z.length then z[(j - 0) % z.length]? else BV4.e.get j) : CellsR γ t N ((Array.range N).map fun i => zv[i % zv.size]!) := by
  intro i hi
  have hlen : z.length = zv.size := by rw [hz.length]; simp
  have hpos : 0 < z.length := by
    rcases Nat.eq_zero_or_pos z.length with h | h
    · rw [h] at hN; omega
    · exact h
  have hlt : i % z.length < z.length := Nat.mod_lt _ hpos
  obtain ⟨v, h1, h2⟩ := hz.get (List.getElem?_eq_getElem hlt)
  refine ⟨z[i % z.length], v, ?_, ?_, hc _ (List.getElem_mem hlt), h2⟩
  · rw [ht, if_pos ⟨Nat.zero_le _, by omega⟩, Nat.sub_zero, List.getElem?_eq_getElem hlt]
  · rw [Array.getElem?_toList] at h1
    have hlt' : i % zv.size < zv.size := by rw [← hlen]; exact hlt
    have hv : zv[i % zv.size]! = v := by
      rw [hlen] at h1
      rw [getElem!_pos zv _ hlt']
      rw [Array.getElem?_eq_getElem hlt'] at h1
      exact Option.some.inj h1
    simp [hi, hv]
theorem buildSlice_ok {t : TypeId} {len : Nat} {parts : List (Nat × AV)} {h : H} {K : KV} (e : buildSliceK P t len parts h K = .ok rv rh) :
    ∃ es n tr h', K (.sl h.nx 0 0 len es 0) h' = .ok rv rh ∧ h'.nx = h.nx + 1 ∧ (∀ a, h'.get a = if a = h.nx then some (.blk n tr) else h.get a) ∧
    ∀ (V : Operand → AV → Prop) (ps : Array (Nat × Operand)), parts.length = ps.toList.length → (∀ (i : Nat) x u, ps.toList[i]? = some x → parts[i]? = some u → u.1 = x.1 ∧ V x.2 u.2) →
      SpecNew P (.buildSlice t len ps) V h.nx (.sl h.nx 0 0 len es 0) (.blk n tr) 0 n := by
  unfold buildSliceK at e
  split at e
  · rename_i el hel
    obtain ⟨hu, d, hd⟩ := elemP_ok hel
    obtain ⟨es, tz, z, hz, e1⟩ := BZ.run_ok e
    split at e1
    · cases e1
    · rename_i es'
      rw [ifK_eq, andB_eq] at e1
      split at e1
      · rename_i hh
        rw [Bool.and_eq_true] at hh
        have b1 : es' + 1 = sizeP P el := Nat.eq_of_beq_eq_true hh.1
        have b2 : len * (es' + 1) ≤ 16777216 := Nat.le_of_ble_eq_true hh.2
        obtain ⟨i, zv, hi, hiz, hes, hzt, hcl, hzr⟩ := zeroBZ_ok hz
        have hes : es' + 1 = z.length := hes
        obtain ⟨t1, e2, h2⟩ := rep_ok z _ _ _ _ e1
        obtain ⟨t2, e3, h3⟩ := fill_ok (place' := fun i => some (i * (es' + 1), es' + 1)) (fun _ _ h => h) parts t1 _ e2
        obtain ⟨h', e4, hn, hg⟩ := newK_ok e3
        refine ⟨es' + 1, _, t2, h', e4, hn, hg, fun V ps hl hp γ ac h0 w op ho hop hr => ?_⟩
        have hpr := PartsR_of hop ps.toList parts (fun x hx => by simp only [Op.operands, List.mem_toArray, List.mem_map]; exact ⟨x, hx, rfl⟩) hl hp
        have hN : len * (es' + 1) = len * z.length := by rw [hes]
        have hcr := fun γ' => rep_cells (γ := γ') (zv := zv.cells) (hzr γ') hcl hN h2
        have hzs : zv.cells.size = es' + 1 := by rw [hes, (hzr γ).length]; simp
        obtain ⟨c', q1, q2, q3⟩ := h3 γ _ _ hpr (hcr γ) (by simp)
        refine ⟨.cells c' el, { w with heap := w.heap.push (.cells c' el) }, .slice (some ⟨w.heap.size, 0, none⟩) len len, ?_, rfl, ⟨rfl, rfl, rfl⟩, fun γ' hle hγ' => ⟨?_, ?_⟩⟩
        · have hfill : Instr.fill (fun i => some (i * sizeP P el, sizeP P el)) ((Array.range (len * sizeP P el)).map fun x => zv.cells[x % zv.cells.size]!) (ps.map fun x => (x.1, ac.eval x.2)).toList = some c' := by
            rw [← b1, ← q1]; simp
          have hres : (Instr.buildSlice t len (ps.map fun x => (x.1, ac.eval x.2))).run P w = .ok (.slice (some ⟨w.heap.size, 0, none⟩) len len) { w with heap := w.heap.push (.cells c' el) } := by
            have hle : ¬ (len * sizeP P el > 2 ^ 24) := by rw [← b1]; omega
            simp only [Instr.buildSlice, Sem.run_bind, run_underlyingP hu, Result.andThen_ok, run_sizeOfP hi, hle, if_false, Sem.run_pure]
            by_cases h0 : len * sizeP P el = 0
            · have hlen0 : len = 0 := by
                rcases Nat.mul_eq_zero.1 h0 with h | h
                · exact h
                · omega
              simp only [h0, if_true, Sem.run_bind, Sem.run_pure, Result.andThen_ok]
              rw [h0] at hfill
              simp only [Array.range_zero', Array.map_empty] at hfill
              have this : (Array.map (fun x => zv.cells[x % zv.cells.size]!) (#[] : Array Nat)) = #[] := by simp
              try rw [this] at hfill
              have h2' : (Array.map (fun x => (#[] : Array Value)[x % (#[] : Array Value).size]!) (Array.range 0)) = #[] := by simp [Array.range_zero']
              rw [h2', hfill]
              simp [newRow_run]
            · simp only [h0, if_false, Sem.run_bind, run_zeroP hi hiz, Result.andThen_ok, Sem.run_pure]
              rw [hfill]
              simp [newRow_run]
          simp [execOp, ho, hres]
        · simp only [VR]; exact ⟨_, _, len, hγ', 0, rfl, fun _ => rfl, by omega, Nat.le_refl _, by simp, fun _ => by simp, fun h => absurd rfl h⟩
        · obtain ⟨c2, r1, r2, r3⟩ := h3 γ' _ _ (PartsR_mono hle hpr) (hcr γ') (by simp)
          rw [q1] at r1; cases r1
          exact ObR_blk r3 r2
      · cases e1
  · cases e
where PartsR_mono {γ γ' : Gh} (h : γ.le γ') : ∀ {l : List (Nat × AV)} {m : List (Nat × Value)}, PartsR γ l m → PartsR γ' l m
  | [], _, e => e
  | _ :: _, _, ⟨v, vs, e, h1, h2⟩ => ⟨v, vs, e, h1.mono h, PartsR_mono h h2⟩
/-- A new map. -/
theorem new_makeMap {t : TypeId} {d : TypeDesc} {k e : TypeId} (hu : underP P t = some d) (hd : d = .map k e) {r : Option Operand} {V : Operand → AV → Prop} {id : Nat} (hv : ∀ x, r = some x → ∃ k n, V x (.i k n)) :
    SpecNew P (.makeMap t r) V id (.m id) (.map [] 0) 0 0 := by
  subst hd
  intro γ ac h0 w op ho hop hr
  refine ⟨.map #[] 0, { w with heap := w.heap.push (.map #[] 0) }, .map (some w.heap.size), ?_, rfl, ⟨rfl, rfl, rfl⟩, fun γ' hle hγ' => ⟨?_, ?_⟩⟩
  · cases r with
    | none => simp [execOp, ho, Instr.makeMap, newObj, Sem.run]
    | some x =>
      obtain ⟨k, n, hx⟩ := hv x rfl
      have h1 := hop x _ (by simp [Op.operands]) hx
      simp only [VR] at h1
      simp [execOp, ho, Instr.makeMap, run_underlyingP hu, h1, asInt, asIntOf, newObj, Sem.run]
  · simp only [VR]; exact ⟨_, _, hγ', rfl⟩
  · exact ⟨rfl, #[], rfl, rfl⟩
theorem askRoom_run (n : Nat) (w : World) : (askRoom n).run P w = .ok () w := by
  unfold askRoom
  split
  · rfl
  · rfl
theorem makeSlice_ok {t : TypeId} {l c : AV} {h : H} {K : KV} (e : makeSliceA P t l c h K = .ok rv rh) :
    ∃ n len es tr h', K (.sl h.nx 0 0 len es 0) h' = .ok rv rh ∧ h'.nx = h.nx + 1 ∧ (∀ a, h'.get a = if a = h.nx then some (.blk n tr) else h.get a) ∧
    ∀ (V : Operand → AV → Prop) x y, V x l → V y c → SpecNew P (.makeSlice t x y) V h.nx (.sl h.nx 0 0 len es 0) (.blk n tr) 0 n := by
  obtain ⟨k, m, rfl, e1⟩ := onI_ok (show l.onI _ = .ok rv rh from e)
  obtain ⟨len, rfl, e2⟩ := natOf_ok e1
  obtain ⟨k', m, rfl, e3⟩ := onI_ok e2
  obtain ⟨cap, rfl, e4⟩ := natOf_ok e3
  split at e4
  · rename_i el hel
    obtain ⟨hu, d, hd⟩ := elemP_ok hel
    split at e4
    · rename_i i hi
      obtain ⟨es, tz, z, hz, e5⟩ := BZ.run_ok e4
      rw [ifK_eq] at e5
      simp only [andB_eq] at e5
      split at e5
      · rename_i hh
        simp only [Bool.and_eq_true] at hh
        obtain ⟨⟨b1, b2⟩, b3, b4, b5⟩ := hh
        have b1 := Nat.le_of_ble_eq_true b1
        have b2 := Nat.le_of_ble_eq_true b2
        have b3 := Nat.le_of_ble_eq_true b3
        have b4 := Nat.eq_of_beq_eq_true b4
        have b5 := Nat.le_of_ble_eq_true b5
        obtain ⟨i', zv, hi', hiz, hes, hzt, hcl, hzr⟩ := zeroBZ_ok hz
        rw [hi] at hi'; cases hi'
        obtain ⟨t1, e6, h2⟩ := rep_ok z _ _ _ _ e5
        rw [forceN_eq] at e6
        obtain ⟨h', e7, hn, hg⟩ := newK_ok e6
        refine ⟨_, len, es, t1, h', e7, hn, hg, fun V x y hx hy γ ac h0 w op ho hop hr => ?_⟩
        have q1 := hop x _ (by simp [Op.operands]) hx
        have q2 := hop y _ (by simp [Op.operands]) hy
        simp only [VR] at q1 q2
        have hcr := fun γ' => rep_cells (γ := γ') (zv := zv.cells) (N := cap * es) (hzr γ') hcl (by rw [hes]) h2
        have hwr : ∀ n : Nat, n ≤ 1000000 → IntKind.i64.wrap (n : Int) = n := fun n hn => wrap64_id (by omega) (by omega)
        have hbc : i.bytes * (cap : Int) ≤ 2 ^ 48 := by
          have h3 : i.bytes * cap ≤ 1000000000000 := Nat.mul_le_mul b5 b2
          have h4 : (i.bytes : Int) * (cap : Int) = ((i.bytes * cap : Nat) : Int) := (Int.natCast_mul _ _).symm
          rw [h4]
          omega
        have hsz : (sizeOf el).run P w = .ok i.size w := by simp [sizeOf, run_typeInfoP hi]
        let ob : Obj := .cells ((Array.range (cap * es)).map fun i => zv.cells[i % zv.cells.size]!) el
        refine ⟨ob, { w with heap := w.heap.push ob }, .slice (some ⟨w.heap.size, 0, none⟩) len cap, ?_, rfl, ⟨rfl, rfl, rfl⟩, fun γ' hle hγ' => ⟨?_, ?_⟩⟩
        · have hres : (Instr.makeSlice t (.int k len) (.int k' cap)).run P w = .ok (.slice (some ⟨w.heap.size, 0, none⟩) len cap) { w with heap := w.heap.push ob } := by
            simp only [Instr.makeSlice, Sem.run_bind, run_underlyingP hu, Result.andThen_ok, asInt, asIntOf, Sem.run_pure, run_typeInfoP hi, hwr _ b2, hwr _ (Nat.le_trans b1 b2), askRoom_run, hsz, Int.toNat_natCast]
            simp only [Bool.or_eq_true, decide_eq_true_eq]
            rw [if_neg (by omega)]
            simp only [Sem.run_bind, askRoom_run, Sem.run_pure, Result.andThen_ok, hsz]
            rw [← b4]
            by_cases h0 : cap * es = 0
            · have hob : ob = .cells ((Array.range 0).map fun x => (#[] : Array Value)[x % (#[] : Array Value).size]!) el := by
                show Obj.cells _ _ = _
                rw [h0]; simp [Array.range_zero']
              simp only [h0, if_true, Sem.run_bind, Sem.run_pure, Result.andThen_ok, newRow_run, hob]
            · simp only [h0, if_false, Sem.run_bind, run_zeroP hi hiz, Result.andThen_ok, Sem.run_pure, newRow_run]
              rfl
          simp only [execOp, ho, q1, q2, Sem.run_bind, hres, Result.andThen_ok, Sem.run_pure]
        · simp only [VR]; exact ⟨_, _, cap, hγ', 0, rfl, fun _ => rfl, by omega, b1, by simp, fun _ => by simp, fun h => absurd rfl h⟩
        · exact ObR_blk (by simp) (hcr γ')
      · cases e5
    · cases e4
  · cases e4
end Go.AB
namespace Go.AB
variable [Base]
variable {rv : AV} {rh : H} {P : Program}

/-! ### keys of maps -/
def KeySpec (P : Program) (d : Nat) (t : TypeId) (x : AV) : Prop := ∀ γ v w em d', VR γ x v → d ≤ d' → (Instr.checkKey em d' t v).run P w = .ok () w
/-- A struct key's fields, one after the other. -/
def checkFields (em : Bool) (d : Nat) (v : Array Value) : List Field → Sem Unit
  | [] => pure ()
  | f :: l => if f.name ≠ "_" then do
      let p ← part f.type v f.offset
      Instr.checkKey em d f.type p
      checkFields em d v l
    else checkFields em d v l
theorem run_checkKey_struct {t : TypeId} {fs : Array Field} (hu : P.underlying t = some (.struct fs)) (em : Bool) (d : Nat) (v : Array Value) (w : World) (h : (checkFields em d v fs.toList).run P w = .ok () w)
    (hw : ∀ f ∈ fs.toList, f.name ≠ "_" → ∃ p, (part f.type v f.offset).run P w = .ok p w ∧ (Instr.checkKey em d f.type p).run P w = .ok () w) :
    (Instr.checkKey em (d + 1) t (.agg v)).run P w = .ok () w := by
  rw [Instr.checkKey]
  simp only [Sem.run_bind, run_underlying hu, Result.andThen_ok]
  rw [← Array.forIn_toList]
  generalize fs.toList = L at hw
  clear h
  induction L with
  | nil => simp
  | cons f L ih =>
    by_cases hn : f.name = "_"
    · simp only [List.forIn_cons, Sem.run_bind, hn, ne_eq, not_true_eq_false, if_false, Result.andThen_ok, Sem.run_pure]
      exact ih (fun g hg hn => hw g (by simp [hg]) hn)
    · obtain ⟨p, h1, h2⟩ := hw f (by simp) hn
      simp only [List.forIn_cons, Sem.run_bind, hn, ne_eq, not_false_eq_true, if_true, Result.andThen_ok, h1, h2, Sem.run_pure]
      exact ih (fun g hg hn => hw g (by simp [hg]) hn)
theorem keyFs_ok {go : TypeId → BKy} {d : Nat} (hgo : ∀ t f, go t = .mk f → ∀ x K, f x K = .ok rv rh → KeySpec P d t x ∧ K = .ok rv rh) :
    ∀ (l : List Field) (f : List AV → Ans → Ans), keyFs P go l = .mk f → ∀ xs K, f xs K = .ok rv rh →
      (∀ q ∈ l, ∃ x, KeySpec P d q.type x ∧ ∀ γ (v : Array Value) (w : World), VRL γ xs v.toList → (∀ x ∈ xs, cellA x = true) → ∃ p, (part q.type v q.offset).run P w = .ok p w ∧ VR γ x p) ∧ K = .ok rv rh
  | [], f, hf, xs, K, e => by
    cases hf
    exact ⟨fun q hq => by simp at hq, e⟩
  | q :: l, f, hf, xs, K, e => by
    unfold keyFs at hf
    split at hf
    · rename_i dd g r hn hu hg hl
      cases hf
      have hpart : ∃ z, g z (r xs K) = .ok rv rh ∧ ∀ γ (v : Array Value) (w : World), VRL γ xs v.toList → (∀ x ∈ xs, cellA x = true) → ∃ p, (part q.type v q.offset).run P w = .ok p w ∧ VR γ z p := by
        rcases part_ok e with ⟨h1, h2⟩ | ⟨h1, z, h2, h3⟩
        · exact ⟨_, h2, fun γ v w h4 h5 => (run_part hu h4 h5 q.offset w).1 h1⟩
        · exact ⟨z, h3, fun γ v w h4 h5 => (run_part hu h4 h5 q.offset w).2 h1 z h2⟩
      obtain ⟨z, e1, hz⟩ := hpart
      obtain ⟨hk, e2⟩ := hgo _ _ hg _ _ e1
      obtain ⟨h1, h2⟩ := keyFs_ok hgo l r hl xs K e2
      refine ⟨fun p hp => ?_, h2⟩
      rcases List.mem_cons.1 hp with rfl | hp
      · exact ⟨z, hk, hz⟩
      · exact h1 p hp
    · cases hf
theorem keyBK_ok : ∀ (d : Nat) (t : TypeId) (f : AV → Ans → Ans), keyBK P d t = .mk f → ∀ x K, f x K = .ok rv rh → KeySpec P d t x ∧ K = .ok rv rh
  | 0, t, f, hf, x, K, e => by cases hf
  | d + 1, t, f, hf, x, K, e => by
    have flat : ∀ (ds : TypeDesc), underP P t = some ds → (∀ fs, ds ≠ .struct fs) → (∀ n e, ds ≠ .array n e) → (∀ ms, ds ≠ .interface ms) → KeySpec P (d + 1) t x := by
      intro ds hu h1 h2 h3 γ v w em d' hv hd
      obtain ⟨d', rfl⟩ : ∃ k, d' = k + 1 := ⟨d' - 1, by omega⟩
      rw [Instr.checkKey]
      simp only [Sem.run_bind, run_underlyingP hu, Result.andThen_ok]
      cases ds <;> first | exact absurd rfl (h1 _) | exact absurd rfl (h2 _ _) | exact absurd rfl (h3 _) | rfl
    unfold keyBK at hf
    split at hf
    · rename_i fs hu
      split at hf
      · rename_i g hg
        cases hf
        obtain ⟨xs, rfl, e1⟩ := onAg_ok e
        obtain ⟨h1, h2⟩ := keyFs_ok (fun t f h x K e => keyBK_ok d t f h x K e) fs.toList g hg xs K e1
        refine ⟨fun γ v w em d' hv hd => ?_, h2⟩
        obtain ⟨d', rfl⟩ : ∃ k, d' = k + 1 := ⟨d' - 1, by omega⟩
        simp only [VR] at hv
        obtain ⟨c, rfl, h3, h4⟩ := hv
        have hw : ∀ f ∈ fs.toList, f.name ≠ "_" → ∃ p, (part f.type c f.offset).run P w = .ok p w ∧ (Instr.checkKey em d' f.type p).run P w = .ok () w := by
          intro f hf _
          obtain ⟨x, h5, h6⟩ := h1 f hf
          obtain ⟨p, h7, h8⟩ := h6 γ c w h3 h4
          exact ⟨p, h7, h5 γ p w em d' h8 (by omega)⟩
        refine run_checkKey_struct (underP_ok hu) em d' c w ?_ hw
        generalize fs.toList = L at hw
        clear h1 hg e1 h2 e
        induction L with
        | nil => rfl
        | cons f L ih =>
          by_cases hn : f.name = "_"
          · simp only [checkFields, hn, ne_eq, not_true_eq_false, if_false]
            exact ih (fun g hg hn => hw g (by simp [hg]) hn)
          · obtain ⟨p, q1, q2⟩ := hw f (by simp) hn
            simp only [checkFields, hn, ne_eq, not_false_eq_true, if_true, Sem.run_bind, q1, q2, Result.andThen_ok]
            exact ih (fun g hg hn => hw g (by simp [hg]) hn)
      · cases hf
    all_goals first
      | cases hf; done
      | (rename_i hu; cases hf; exact ⟨flat _ hu (fun _ h => by cases h) (fun _ _ h => by cases h) (fun _ h => by cases h), e⟩)
      | (rename_i a hu; cases hf; exact ⟨flat _ hu (fun _ h => by cases h) (fun _ _ h => by cases h) (fun _ h => by cases h), e⟩)
/-! ### finding a key -/
theorem sameNow_ok {d : Nat} {t : TypeId} {ds : TypeDesc} {v u : Value} {b c : Bool} {w : World} (hu : P.underlying t = some ds) (h1 : Instr.sameNow ds v u = some c) (h2 : (Op.equalIn (d + 1) t v u).run P w = .ok b w) : b = c := by
  rw [Op.equalIn] at h2
  simp only [Sem.run_bind, run_underlying hu, Result.andThen_ok] at h2
  cases ds <;> cases v <;> cases u <;> simp only [Instr.sameNow] at h1 <;> first
    | (cases h1; done)
    | (simp only [Option.some.injEq] at h1; simp only [Sem.run_pure, Result.ok.injEq] at h2; rw [← h1, ← h2.1]; done)
    | (split at h1
       · rename_i hk
         simp only [Option.some.injEq] at h1
         simp only [hk, if_true, Sem.run_pure, Result.ok.injEq] at h2
         rw [← h1, ← h2.1]
       · cases h1)
/-- Where the key was found: no entry, or number j. -/
inductive Fnd (P : Program) (d : Nat) (t : TypeId) (k : AV) : List (AV × AV × Nat) → Nat → Option (Nat × AV) → Prop
  | nil {i : Nat} : Fnd P d t k [] i none
  | here {x : AV × AV × Nat} {l : List (AV × AV × Nat)} {i : Nat} : EqSpec P d t k x.1 true → Fnd P d t k (x :: l) i (some (i, x.2.1))
  | there {x : AV × AV × Nat} {l : List (AV × AV × Nat)} {i : Nat} {r : Option (Nat × AV)} : EqSpec P d t k x.1 false → Fnd P d t k l (i + 1) r → Fnd P d t k (x :: l) i r
theorem findA_ok {d : Nat} {t : TypeId} {eq : AV → AV → (Bool → Ans) → Ans} (hq : eqBQ P d t = .mk eq) (k : AV) : ∀ (l : List (AV × AV × Nat)) (i : Nat) (no : Ans) (K : Nat → AV → Ans), findA eq k l i no K = .ok rv rh →
    ∃ r, Fnd P d t k l i r ∧ (match r with | none => no | some (j, v) => K j v) = .ok rv rh
  | [], i, no, K, e => ⟨none, .nil, e⟩
  | x :: l, i, no, K, e => by
    obtain ⟨b, h1, h2, _⟩ := eqBQ_ok d t eq hq k x.1 _ (show eq k x.1 (fun b => ifK b (K i x.2.1) (findA eq k l (Nat.succ i) no K)) = .ok rv rh from e)
    cases b with
    | true => exact ⟨some (i, x.2.1), .here h1, h2⟩
    | false =>
      obtain ⟨r, h3, h4⟩ := findA_ok hq k l (i + 1) no K h2
      exact ⟨r, .there h1 h3, h4⟩
def FndR (γ : Gh) : Option (Nat × AV) → Option (Nat × Value) → Prop
  | none, r' => r' = none
  | some (j, x), r' => ∃ u, r' = some (j, u) ∧ VR γ x u
theorem Fnd.run {d : Nat} {t : TypeId} {ds : TypeDesc} (hu : P.underlying t = some ds) {k : AV} {γ : Gh} {h : H} {w : World} (hr : HR γ h w) {v : Value} (hv : VR γ k v) (hd : d ≤ 10000) : ∀ {l : List (AV × AV × Nat)} {i : Nat} {r : Option (Nat × AV)} {es : List MapEntry},
    Fnd P d t k l i r → EntR γ l es → ∃ r' : Option (Nat × Value), FndR γ r r' ∧
      (Instr.findAsking t v es i).run P w = .ok r' w ∧ ∀ q, Instr.findNow ds v es i = some q → q = r' := by
  intro l
  induction l with
  | nil =>
    intro i r es hf he
    cases hf
    obtain rfl := he
    exact ⟨none, rfl, by simp [Instr.findAsking], fun q hq => by simp only [Instr.findNow, Option.some.injEq] at hq; exact hq.symm⟩
  | cons x l ih =>
    intro i r es hf he
    obtain ⟨e, es, rfl, q1, q2, q3, q4⟩ := he
    cases hf with
    | here h1 =>
      have h2 := h1 γ h w v e.key hr hv q1 10000 hd
      refine ⟨some (i, e.val), ⟨_, rfl, q2⟩, ?_, fun q hq => ?_⟩
      · rw [Instr.findAsking]
        simp only [Sem.run_bind, Op.equal, Op.maxDepth, h2, Result.andThen_ok, if_true, Sem.run_pure]
      · simp only [Instr.findNow] at hq
        split at hq
        · exact (Option.some.inj hq).symm
        · rename_i hs; exact absurd (sameNow_ok hu hs h2) (by simp)
        · cases hq
    | there h1 h3 =>
      have h2 := h1 γ h w v e.key hr hv q1 10000 hd
      obtain ⟨r', s1, s2, s3⟩ := ih h3 q4
      refine ⟨r', s1, ?_, fun q hq => ?_⟩
      · rw [Instr.findAsking]
        simp only [Sem.run_bind, Op.equal, Op.maxDepth, h2, Result.andThen_ok, Bool.false_eq_true, if_false, s2]
      · simp only [Instr.findNow] at hq
        split at hq
        · rename_i hs; exact absurd (sameNow_ok hu hs h2) (by simp)
        · exact s3 q hq
        · cases hq
theorem Fnd.findKey {d : Nat} {t : TypeId} {ds : TypeDesc} (hu : P.underlying t = some ds) {k : AV} {γ : Gh} {h : H} {w : World} (hr : HR γ h w) {v : Value} (hv : VR γ k v) (hd : d ≤ 10000) {l : List (AV × AV × Nat)} {r : Option (Nat × AV)} {es : List MapEntry}
    (hf : Fnd P d t k l 0 r) (he : EntR γ l es) : ∃ r' : Option (Nat × Value), FndR γ r r' ∧ (Instr.findKey t v es).run P w = .ok r' w := by
  obtain ⟨r', h1, h2, h3⟩ := hf.run hu hr hv hd he
  refine ⟨r', h1, ?_⟩
  unfold Instr.findKey
  simp only [Sem.run_bind, run_underlying hu, Result.andThen_ok]
  split
  · rename_i q hq
    rw [h3 q hq]; rfl
  · exact h2
theorem Fnd.lt {d : Nat} {t : TypeId} {k : AV} : ∀ {l : List (AV × AV × Nat)} {i j : Nat} {x : AV}, Fnd P d t k l i (some (j, x)) → i ≤ j ∧ j < i + l.length
  | _, _, _, _, .here _ => by simp
  | _, _, _, _, .there _ h => by have := h.lt; simp; omega
/-! ### lookups -/
theorem BM.run_ok {b : BM} {K : (AV → AV → (Bool → Ans) → Ans) → (AV → Ans → Ans) → TypeId → Ans} (e : b.run K = .ok rv rh) : ∃ f g t, b = .mk f g t ∧ K f g t = .ok rv rh := by
  cases b with
  | mk f g t => exact ⟨f, g, t, rfl, e⟩
  | no => cases e
theorem mapBM_ok {t : TypeId} {f : AV → AV → (Bool → Ans) → Ans} {g : AV → Ans → Ans} {e : TypeId} (h : mapBM P t = .mk f g e) : ∃ k ds, underP P t = some (.map k e) ∧ keyBK P 20 k = .mk g ∧ eqBQ P 20 k = .mk f ∧ underP P k = some ds := by
  unfold mapBM at h
  split at h
  · rename_i k e' hu
    split at h
    · rename_i g' f' hg hf
      cases h
      refine ⟨k, ?_⟩
      cases hk : underP P k with
      | none => simp only [keyBK, hk] at hg; cases hg
      | some ds => exact ⟨ds, hu, hg, hf, rfl⟩
    · cases h
  · cases h
theorem zeroK_ok {t : TypeId} {K : AV → Ans} (e : zeroK P t K = .ok rv rh) : ∃ z, K z = .ok rv rh ∧ ∀ w, ∃ u, (zeroValue t).run P w = .ok u w ∧ ∀ γ, VR γ z u := by
  unfold zeroK at e
  split at e
  · rename_i x hx
    unfold zeroV at hx
    split at hx
    · rename_i i hi
      split at hx
      · rename_i z hz
        exact ⟨x, e, fun w => ⟨z, run_zeroP hi hz w, fun γ => absV_rel 10 z x hx⟩⟩
      · cases hx
    · cases hx
  · cases e
/-- The entries of a map. -/
theorem entries_ok {h : H} {x : AV} {K : List (AV × AV × Nat) → Ans} (e : entriesA h x K = .ok rv rh) : ∃ es, K es = .ok rv rh ∧ (x = .m0 ∧ es = [] ∨ ∃ a c, x = .m a ∧ h.get a = some (.map es c)) := by
  unfold entriesA at e
  split at e
  · exact ⟨[], e, .inl ⟨rfl, rfl⟩⟩
  · rename_i a
    obtain ⟨ob, h1, e1⟩ := H.getK_ok e
    obtain ⟨es, c, rfl, e2⟩ := onMap_ok e1
    exact ⟨es, e2, .inr ⟨a, c, rfl, h1⟩⟩
  · cases e
theorem VR_m {γ : Gh} {h : H} {w : World} (hr : HR γ h w) {a c : Nat} {es : List (AV × AV × Nat)} (ha : h.get a = some (.map es c)) {v : Value} (hv : VR γ (.m a) v) :
    ∃ B es', v = .map (some B) ∧ (∃ N, γ a 0 = some (B, N)) ∧ w.heap[B]? = some (.map es' c) ∧ EntR γ es es'.toList := by
  simp only [VR] at hv
  obtain ⟨B, N, hg, rfl⟩ := hv
  obtain ⟨ob, o, h1, h2, h3⟩ := hr.ob _ _ _ _ hg
  rw [ha] at h1; cases h1
  obtain ⟨_, es', rfl, h4⟩ := h3
  exact ⟨B, es', rfl, ⟨N, hg⟩, h2, h4⟩
theorem lookup_ok {t : TypeId} {x k : AV} {ok : Bool} {h : H} {K : AV → Ans} (e : lookupA P t x k ok h K = .ok rv rh) :
    ∃ val, K val = .ok rv rh ∧ ∀ V x' k', V x' x → V k' k → SpecRead P (.lookup t x' k' ok) V h val := by
  obtain ⟨f, g, et, hb, e1⟩ := BM.run_ok (show (mapBM P t).run _ = .ok rv rh from e)
  obtain ⟨kt, ds, hu, hkey, heq, hds⟩ := mapBM_ok hb
  obtain ⟨hks, e2⟩ := keyBK_ok _ _ _ hkey _ _ e1
  obtain ⟨es, e3, hes⟩ := entries_ok e2
  obtain ⟨r, hf, e4⟩ := findA_ok heq k es 0 _ _ e3
  have pack : ∀ (v : AV) (b : Bool), (match ok with | true => K (.tu [v, .b b]) | false => K v) = .ok rv rh → ∃ val, K val = .ok rv rh ∧ ∀ γ u, VR γ v u → VR γ val (if ok then .tuple #[u, .bool b] else u) := by
    intro v b hk
    cases ok with
    | true => exact ⟨_, hk, fun γ u hu => by simp [VR, hu]⟩
    | false => exact ⟨_, hk, fun γ u hu => by simpa using hu⟩
  have main : ∃ val, K val = .ok rv rh ∧ ∀ γ (h' : H) w kv (esv : Array MapEntry), HR γ h' w → VR γ k kv → EntR γ es esv.toList → ∃ r' v b, (Instr.findKey kt kv esv.toList).run P w = .ok r' w ∧
      (∀ j u, r' = some (j, u) → v = u ∧ b = true) ∧ (r' = none → (zeroValue et).run P w = .ok v w ∧ b = false) ∧ VR γ val (if ok then .tuple #[v, .bool b] else v) := by
    cases r with
    | none =>
      obtain ⟨z, e5, hz⟩ := zeroK_ok (show zeroK P et _ = .ok rv rh from e4)
      obtain ⟨val, e6, hval⟩ := pack z false e5
      refine ⟨val, e6, fun γ h' w kv esv hr hk hen => ?_⟩
      obtain ⟨r', h1, h2⟩ := hf.findKey (underP_ok hds) hr hk (by decide) hen
      obtain rfl : r' = none := h1
      obtain ⟨u, h3, h4⟩ := hz w
      exact ⟨none, u, false, h2, fun j u h => by simp at h, fun _ => ⟨h3, rfl⟩, hval γ u (h4 γ)⟩
    | some q =>
      obtain ⟨j, v⟩ := q
      obtain ⟨val, e6, hval⟩ := pack v true e4
      refine ⟨val, e6, fun γ h' w kv esv hr hk hen => ?_⟩
      obtain ⟨r', h1, h2⟩ := hf.findKey (underP_ok hds) hr hk (by decide) hen
      obtain ⟨u, rfl, h3⟩ := h1
      exact ⟨_, u, true, h2, fun j u h => by cases h; exact ⟨rfl, rfl⟩, fun h => by simp at h, hval γ u h3⟩
  obtain ⟨val, e5, hval⟩ := main
  refine ⟨val, e5, fun V x' k' hx hk γ ac h' w op ho hsub hop hr => ?_⟩
  have hvx := hop x' _ (by simp [Op.operands]) hx
  have hvk := hop k' _ (by simp [Op.operands]) hk
  rcases hes with ⟨rfl, rfl⟩ | ⟨a, c, rfl, ha⟩
  · simp only [VR] at hvx
    obtain ⟨r', v, b, h1, h2, h2', h3⟩ := hval γ h' w _ #[] hr hvk rfl
    refine ⟨_, ?_, h3⟩
    have hck := hks γ (ac.eval k') w true 10000 hvk (by decide)
    have : (Instr.lookup t (ac.eval x') (ac.eval k') ok).run P w = .ok (if ok then .tuple #[v, .bool b] else v) w := by
      simp only [Instr.lookup, Sem.run_bind, run_underlyingP hu, Result.andThen_ok, hvx, Sem.run_pure]
      have hemp : (#[] : Array MapEntry).isEmpty = true := rfl
      rw [hemp, hck]
      simp only [Result.andThen_ok, Sem.run_bind, h1]
      cases r' with
      | none => obtain ⟨h5, rfl⟩ := h2' rfl; simp only [Sem.run_bind, h5, Result.andThen_ok, Sem.run_pure]
      | some q => obtain ⟨rfl, rfl⟩ := h2 q.1 q.2 rfl; rfl
    simp only [execOp, ho, Sem.run_bind, this, Result.andThen_ok, Sem.run_pure]
  · obtain ⟨B, es', hvx, _, hB, hen⟩ := VR_m hr (hsub _ _ ha) hvx
    obtain ⟨r', v, b, h1, h2, h2', h3⟩ := hval γ h' w _ es' hr hvk hen
    refine ⟨_, ?_, h3⟩
    have hck := hks γ (ac.eval k') w es'.isEmpty 10000 hvk (by decide)
    have : (Instr.lookup t (ac.eval x') (ac.eval k') ok).run P w = .ok (if ok then .tuple #[v, .bool b] else v) w := by
      simp only [Instr.lookup, Sem.run_bind, run_underlyingP hu, Result.andThen_ok, hvx, Sem.run_pure, run_getObj' hB (fun _ _ _ h => by cases h), hck, h1]
      cases r' with
      | none => obtain ⟨h5, rfl⟩ := h2' rfl; simp only [Sem.run_bind, h5, Result.andThen_ok, Sem.run_pure]
      | some q => obtain ⟨rfl, rfl⟩ := h2 q.1 q.2 rfl; rfl
    simp only [execOp, ho, Sem.run_bind, this, Result.andThen_ok, Sem.run_pure]
end Go.AB
namespace Go.AB
variable [Base]
variable {rv : AV} {rh : H} {P : Program}

theorem SpecPure.read {op : Op} {V : Operand → AV → Prop} {val : AV} (h : SpecPure P op V val) (h0 : H) : SpecRead P op V h0 val :=
  fun γ a h' w o ho _ hop hr => h γ a h' w o ho hop hr

/-! ### calls of builtins -/
theorem run_builtin {c : Call} {b : Builtin} (hc : c.callee = .builtin b) {o : Oper} (ho : o.op = .call c) (ac : Act) (w : World) :
    (execOp ac.eval o).run P w = (builtin b c.argTypes o.type (c.args.map fun | .const _ => true | _ => false) (c.args.map ac.eval)).run P w := by
  simp only [execOp, ho, resolve, hc, Sem.run_bind, Sem.run_pure, Result.andThen_ok, invoke]
  rfl
theorem opd_builtin {γ : Gh} {V : Operand → AV → Prop} {c : Call} {ac : Act} (hop : OpdsR γ V (.call c) ac) {x : Operand} {v : AV} (hx : x ∈ c.args.toList) (hv : V x v) : VR γ v (ac.eval x) :=
  hop x v (by simp only [Op.operands, Call.operands, Array.mem_append]; exact .inr (Array.mem_toList_iff.1 hx)) hv
theorem lenE_eq (l : List (AV × AV × Nat)) : lenE l = l.length := by
  induction l with
  | nil => rfl
  | cons x l ih => show Nat.succ (lenE l) = _; rw [ih]; rfl
theorem EntR.length {γ : Gh} : ∀ {l : List (AV × AV × Nat)} {m : List MapEntry}, EntR γ l m → l.length = m.length
  | [], _, e => by cases e; rfl
  | _ :: _, _, ⟨_, _, e, _, _, _, h⟩ => by subst e; simp [h.length]
theorem args1 {c : Call} {x : Operand} (h : c.args.toList = [x]) (ρ : Operand → Value) : c.args.map ρ = #[ρ x] := by
  have : c.args = #[x] := by rw [← Array.toArray_toList (xs := c.args), h]
  rw [this]; simp
theorem args2 {c : Call} {x y : Operand} (h : c.args.toList = [x, y]) (ρ : Operand → Value) : c.args.map ρ = #[ρ x, ρ y] := by
  have : c.args = #[x, y] := by rw [← Array.toArray_toList (xs := c.args), h]
  rw [this]; simp
theorem g10 {α : Type} (x : α) : (#[x] : Array α)[0]? = some x := rfl
theorem g20 {α : Type} (x y : α) : (#[x, y] : Array α)[0]? = some x := rfl
theorem g21 {α : Type} (x y : α) : (#[x, y] : Array α)[1]? = some y := rfl
theorem len_arr {c : Call} (hc : c.callee = .builtin .len) {x : Operand} (hx : c.args.toList = [x]) {t n : Nat} {el : TypeId} (ht : c.argTypes[0]? = some t) (hu : underP P t = some (.array n el)) (V : Operand → AV → Prop) :
    SpecPure P (.call c) V (.i .i64 (.ofNat n)) := by
  intro γ ac h w o ho hop hr
  refine ⟨_, ?_, VR_i⟩
  rw [run_builtin hc ho, args1 hx]
  simp only [builtin, Builtin.len_, ht, g10, Sem.run_bind, run_underlyingP hu, Result.andThen_ok]
  rfl
theorem len_str {c : Call} (hc : c.callee = .builtin .len) {x : Operand} (hx : c.args.toList = [x]) {t n code : Nat} (ht : c.argTypes[0]? = some t) (hu : underP P t = some .string) {V : Operand → AV → Prop} (hv : V x (.s n code)) :
    SpecPure P (.call c) V (.i .i64 (.ofNat n)) := by
  intro γ ac h w o ho hop hr
  have h1 := opd_builtin hop (x := x) (by rw [hx]; simp) hv
  simp only [VR] at h1
  obtain ⟨s, h1, rfl, _⟩ := h1
  refine ⟨_, ?_, VR_i⟩
  rw [run_builtin hc ho, args1 hx, h1]
  simp only [builtin, Builtin.len_, ht, g10, Sem.run_bind, run_underlyingP hu, Result.andThen_ok]
  rfl
theorem lenSl_ok {x : AV} {K : AV → Ans} (e : lenSl x K = .ok rv rh) : ∃ n, K (.i .i64 (.ofNat n)) = .ok rv rh ∧ ∀ γ v, VR γ x v → ∃ a c, v = .slice a n c := by
  cases x <;> first | cases e; done | skip
  · exact ⟨0, e, fun γ v h => by simp only [VR] at h; exact ⟨_, _, h⟩⟩
  · refine ⟨_, e, fun γ v h => ?_⟩
    obtain ⟨B, N, cap, _, oo, rfl⟩ := VR_sl_cases h
    exact ⟨_, _, rfl⟩
theorem len_sl {c : Call} (hc : c.callee = .builtin .len) {x : Operand} (hx : c.args.toList = [x]) {t n : Nat} {el : TypeId} {v : AV} (ht : c.argTypes[0]? = some t) (hu : underP P t = some (.slice el)) {V : Operand → AV → Prop} (hv : V x v)
    (hs : ∀ γ u, VR γ v u → ∃ a c, u = .slice a n c) : SpecPure P (.call c) V (.i .i64 (.ofNat n)) := by
  intro γ ac h w o ho hop hr
  have h1 := opd_builtin hop (x := x) (by rw [hx]; simp) hv
  obtain ⟨a, cp, h1⟩ := hs _ _ h1
  refine ⟨_, ?_, VR_i⟩
  rw [run_builtin hc ho, args1 hx, h1]
  simp only [builtin, Builtin.len_, ht, g10, Sem.run_bind, run_underlyingP hu, Result.andThen_ok]
  rfl
theorem len_map {c : Call} (hc : c.callee = .builtin .len) {x : Operand} (hx : c.args.toList = [x]) {t : Nat} {k el : TypeId} {v : AV} (ht : c.argTypes[0]? = some t) (hu : underP P t = some (.map k el)) {V : Operand → AV → Prop} (hv : V x v)
    {h0 : H} {es : List (AV × AV × Nat)} (hes : v = .m0 ∧ es = [] ∨ ∃ a c, v = .m a ∧ h0.get a = some (.map es c)) : SpecRead P (.call c) V h0 (.i .i64 (.ofNat es.length)) := by
  intro γ ac h w o ho hsub hop hr
  have h1 := opd_builtin hop (x := x) (by rw [hx]; simp) hv
  refine ⟨_, ?_, VR_i⟩
  rw [run_builtin hc ho, args1 hx]
  rcases hes with ⟨rfl, rfl⟩ | ⟨a, cl, rfl, ha⟩
  · simp only [VR] at h1
    rw [h1]
    simp only [builtin, Builtin.len_, ht, g10, Sem.run_bind, run_underlyingP hu, Result.andThen_ok]
    rfl
  · obtain ⟨B, es', h2, _, hB, hen⟩ := VR_m hr (hsub _ _ ha) h1
    rw [h2]
    have hl : es.length = es'.size := by rw [hen.length]; simp
    simp only [builtin, Builtin.len_, ht, g10, Sem.run_bind, run_underlyingP hu, Result.andThen_ok, run_getObj' hB (fun _ _ _ h => by cases h), Sem.run_pure, hl]
    rfl
theorem maxA_ok : ∀ (l : List AV) (x : AV) (K : AV → Ans), maxA x l K = .ok rv rh → ∃ r, K r = .ok rv rh ∧ ∀ γ v vs (w : World), VR γ x v → VRL γ l vs → ∃ u, (vs.foldlM Builtin.max2 v).run P w = .ok u w ∧ VR γ r u
  | [], x, K, e => ⟨x, e, fun γ v vs w hv hl => by simp at hl; subst hl; exact ⟨v, rfl, hv⟩⟩
  | y :: l, x, K, e => by
    obtain ⟨k, a, rfl, e1⟩ := onI_ok (show x.onI _ = .ok rv rh from e)
    obtain ⟨j, b, rfl, e2⟩ := onI_ok e1
    rw [ifK_eq] at e2
    split at e2
    · rename_i hk
      obtain rfl := kindEq_iff.1 hk
      rw [ifK_eq, ltI_eq] at e2
      have step : ∃ r, K r = .ok rv rh ∧ ∀ γ v vs (w : World), VR γ (.i k (if b > a then b else a)) v → VRL γ l vs → ∃ u, (vs.foldlM Builtin.max2 v).run P w = .ok u w ∧ VR γ r u := by
        by_cases hlt : a < b
        · rw [if_pos (by simpa using hlt)] at e2; rw [if_pos hlt]; exact maxA_ok l _ K e2
        · rw [if_neg (by simpa using hlt)] at e2; rw [if_neg hlt]; exact maxA_ok l _ K e2
      obtain ⟨r, h1, h2⟩ := step
      refine ⟨r, h1, fun γ v vs w hv hl => ?_⟩
      obtain ⟨u, us, rfl, h3, h4⟩ := hl
      simp only [VR] at hv h3; subst hv h3
      obtain ⟨z, h5, h6⟩ := h2 γ (.int k (if b > a then b else a)) us w VR_i h4
      exact ⟨z, by rw [List.foldlM_cons, Sem.run_bind]; simp only [Builtin.max2, Sem.run_pure, Result.andThen_ok, h5], h6⟩
    · cases e2
theorem minA_ok : ∀ (l : List AV) (x : AV) (K : AV → Ans), minA x l K = .ok rv rh → ∃ r, K r = .ok rv rh ∧ ∀ γ v vs (w : World), VR γ x v → VRL γ l vs → ∃ u, (vs.foldlM Builtin.min2 v).run P w = .ok u w ∧ VR γ r u
  | [], x, K, e => ⟨x, e, fun γ v vs w hv hl => by simp at hl; subst hl; exact ⟨v, rfl, hv⟩⟩
  | y :: l, x, K, e => by
    obtain ⟨k, a, rfl, e1⟩ := onI_ok (show x.onI _ = .ok rv rh from e)
    obtain ⟨j, b, rfl, e2⟩ := onI_ok e1
    rw [ifK_eq] at e2
    split at e2
    · rename_i hk
      obtain rfl := kindEq_iff.1 hk
      rw [ifK_eq, ltI_eq] at e2
      have step : ∃ r, K r = .ok rv rh ∧ ∀ γ v vs (w : World), VR γ (.i k (if b < a then b else a)) v → VRL γ l vs → ∃ u, (vs.foldlM Builtin.min2 v).run P w = .ok u w ∧ VR γ r u := by
        by_cases hlt : b < a
        · rw [if_pos (by simpa using hlt)] at e2; rw [if_pos hlt]; exact minA_ok l _ K e2
        · rw [if_neg (by simpa using hlt)] at e2; rw [if_neg hlt]; exact minA_ok l _ K e2
      obtain ⟨r, h1, h2⟩ := step
      refine ⟨r, h1, fun γ v vs w hv hl => ?_⟩
      obtain ⟨u, us, rfl, h3, h4⟩ := hl
      simp only [VR] at hv h3; subst hv h3
      obtain ⟨z, h5, h6⟩ := h2 γ (.int k (if b < a then b else a)) us w VR_i h4
      exact ⟨z, by rw [List.foldlM_cons, Sem.run_bind]; simp only [Builtin.min2, Sem.run_pure, Result.andThen_ok, h5], h6⟩
    · cases e2
theorem pure_max {c : Call} (hc : c.callee = .builtin .max) {V : Operand → AV → Prop} {x : AV} {l : List AV} {r : AV} (hl : (x :: l).length = c.args.toList.length) (hv : ∀ (i : Nat) y u, c.args.toList[i]? = some y → (x :: l)[i]? = some u → V y u)
    (hs : ∀ γ v vs (w : World), VR γ x v → VRL γ l vs → ∃ u, (vs.foldlM Builtin.max2 v).run P w = .ok u w ∧ VR γ r u) : SpecPure P (.call c) V r := by
  intro γ ac h w o ho hop hr
  have h1 := VRL_opds hop c.args.toList (x :: l) (fun y hy => by simp only [Op.operands, Call.operands, Array.mem_append]; exact .inr (Array.mem_toList_iff.1 hy)) hl hv
  obtain ⟨v, vs, h2, h3, h4⟩ := h1
  obtain ⟨u, h5, h6⟩ := hs γ v vs w h3 h4
  refine ⟨u, ?_, h6⟩
  rw [run_builtin hc ho]
  have h7 : (c.args.map ac.eval).toList = v :: vs := by simpa using h2
  simp only [builtin, Builtin.max_, h7, Sem.run_bind, h5, Result.andThen_ok, Sem.run_pure]
theorem pure_min {c : Call} (hc : c.callee = .builtin .min) {V : Operand → AV → Prop} {x : AV} {l : List AV} {r : AV} (hl : (x :: l).length = c.args.toList.length) (hv : ∀ (i : Nat) y u, c.args.toList[i]? = some y → (x :: l)[i]? = some u → V y u)
    (hs : ∀ γ v vs (w : World), VR γ x v → VRL γ l vs → ∃ u, (vs.foldlM Builtin.min2 v).run P w = .ok u w ∧ VR γ r u) : SpecPure P (.call c) V r := by
  intro γ ac h w o ho hop hr
  have h1 := VRL_opds hop c.args.toList (x :: l) (fun y hy => by simp only [Op.operands, Call.operands, Array.mem_append]; exact .inr (Array.mem_toList_iff.1 hy)) hl hv
  obtain ⟨v, vs, h2, h3, h4⟩ := h1
  obtain ⟨u, h5, h6⟩ := hs γ v vs w h3 h4
  refine ⟨u, ?_, h6⟩
  rw [run_builtin hc ho]
  have h7 : (c.args.map ac.eval).toList = v :: vs := by simpa using h2
  simp only [builtin, Builtin.min_, h7, Sem.run_bind, h5, Result.andThen_ok, Sem.run_pure]

/-! ### cells written -/
theorem VR_oneCell {γ : Gh} {x : AV} {v : Value} (h : VR γ x v) (hc : cellA x = true) : v.oneCell' = true := by
  cases x with
  | gp i o => simp only [VR] at h; obtain ⟨rfl, _⟩ := h; exact Base.one i
  | _ => cases v <;> first | rfl | (exfalso; simp_all [VR, cellA])
theorem VRL_oneCell {γ : Gh} {l : List AV} {vs : List Value} (h : VRL γ l vs) (hc : ∀ x ∈ l, cellA x = true) : ∀ v ∈ vs, v.oneCell' = true := by
  intro v hv
  obtain ⟨i, hi⟩ := List.mem_iff_getElem?.1 hv
  have hlt : i < l.length := by rw [h.length]; exact (List.getElem?_eq_some_iff.1 hi).1
  obtain ⟨u, h1, h2⟩ := h.get (List.getElem?_eq_getElem hlt)
  rw [hi] at h1; cases h1
  exact VR_oneCell h2 (hc _ (List.getElem_mem hlt))
/-- What a block holds when cells of it have been written. -/
theorem setCells_heap {B : Nat} {T : TypeId} {f : Nat × Nat} : ∀ (vs : List Value) (o : Nat) (w : World) (c : Array Value), w.heap[B]? = some (.cells c T f) → o + vs.length ≤ c.size →
    ∃ c', (w.setCells B o vs).heap[B]? = some (.cells c' T f) ∧ c'.size = c.size ∧ (∀ i, c'[i]? = if o ≤ i ∧ i < o + vs.length then vs[i - o]? else c[i]?) ∧
      (w.setCells B o vs).heap.size = w.heap.size ∧ ∀ C, C ≠ B → (w.setCells B o vs).heap[C]? = w.heap[C]?
  | [], o, w, c, h, _ => ⟨c, h, rfl, fun i => by rw [if_neg (by simp)], rfl, fun _ _ => rfl⟩
  | v :: vs, o, w, c, h, hle => by
    have hB : B < w.heap.size := (Array.getElem?_eq_some_iff.1 h).1
    have h1 : (w.setCell ⟨B, o, none⟩ v).heap[B]? = some (.cells (c.setIfInBounds o v) T f) := by
      simp only [World.setCell, Array.getElem?_modify, if_true, h, Option.map_some]
      rfl
    have h2 : ∀ C, C ≠ B → (w.setCell ⟨B, o, none⟩ v).heap[C]? = w.heap[C]? := fun C hC => by
      simp only [World.setCell, Array.getElem?_modify]
      rw [if_neg (Ne.symm hC)]
    have h3 : (w.setCell ⟨B, o, none⟩ v).heap.size = w.heap.size := by simp [World.setCell]
    obtain ⟨c', k1, k2, k3, k4, k5⟩ := setCells_heap vs (o + 1) _ _ h1 (by simp at hle ⊢; omega)
    refine ⟨c', k1, by simpa using k2, fun i => ?_, k4.trans h3, fun C hC => (k5 C hC).trans (h2 C hC)⟩
    rw [k3]
    by_cases hi : i = o
    · subst hi
      rw [if_neg (by omega), if_pos ⟨Nat.le_refl _, by simp⟩]
      simp only [Nat.sub_self, List.getElem?_cons_zero]
      rw [Array.getElem?_setIfInBounds_self_of_lt (by simp at hle; omega)]
    · by_cases hlt : o ≤ i ∧ i < o + (v :: vs).length
      · rw [if_pos hlt, if_pos (by simp at hlt ⊢; omega)]
        obtain ⟨j, rfl⟩ : ∃ j, i = o + 1 + j := ⟨i - (o + 1), by omega⟩
        simp [show o + 1 + j - o = j + 1 by omega]
      · rw [if_neg hlt, if_neg (by simp at hlt ⊢; omega), Array.getElem?_setIfInBounds_ne (by omega)]
/-- A row of the heap that may be written: its number of cells in use; behind the store. -/
inductive Wr (v o m : Nat) (l : List AV) : AO → AO → Prop
  | blk {n : Nat} {cs cs' : BV4} : o + m ≤ n → (∀ j, cs'.get j = if o ≤ j ∧ j < o + l.length then l[j - o]? else cs.get j) → Wr v o m l (.blk n cs) (.blk n cs')
  | grow {n lw : Nat} {cs cs' : BV4} : v = n → o + m ≤ n → (∀ j, cs'.get j = if o ≤ j ∧ j < o + l.length then l[j - o]? else cs.get j) → Wr v o m l (.grow n cs lw) (.grow n cs' n)
theorem storeCs_ok {size : Nat} {h : H} {p : AV} {K : H → Ans} {l : List AV} (e : storeCs size h p K l = .ok rv rh) :
    l.length = size ∧ ∃ a v o ob ob' h', p = .p a v o ∧ h.get a = some ob ∧ Wr v o size l ob ob' ∧ K h' = .ok rv rh ∧ h'.nx = h.nx ∧ ∀ b, h'.get b = if b = a then some ob' else h.get b := by
  unfold storeCs at e
  rw [ifK_eq, lenN_eq] at e
  split at e
  · rename_i hl
    have hl := Nat.eq_of_beq_eq_true hl
    obtain ⟨a, v, o, rfl, e1⟩ := onP_ok e
    obtain ⟨ob, ho, e2⟩ := H.getK_ok e1
    rcases row_ok e2 with ⟨n, cs, rfl, e3⟩ | ⟨n, cs, lw, rfl, e3⟩
    · rw [ifK_eq] at e3
      split at e3
      · rename_i hb
        obtain ⟨cs', e4, hcs⟩ := putCells_ok _ _ _ _ e3
        obtain ⟨h', e5, hn, hg⟩ := H.putK_ok e4
        exact ⟨hl, a, v, o, _, _, h', rfl, ho, .blk (Nat.le_of_ble_eq_true hb) hcs, e5, hn, hg⟩
      · cases e3
    · rw [ifK_eq, andB_eq] at e3
      split at e3
      · rename_i hb
        rw [Bool.and_eq_true] at hb
        obtain ⟨cs', e4, hcs⟩ := putCells_ok _ _ _ _ e3
        obtain ⟨h', e5, hn, hg⟩ := H.putK_ok e4
        exact ⟨hl, a, v, o, _, _, h', rfl, ho, .grow (Nat.eq_of_beq_eq_true hb.1) (Nat.le_of_ble_eq_true hb.2) hcs, e5, hn, hg⟩
      · cases e3
  · cases e
theorem still_setCells (b : Nat) : ∀ (vs : List Value) (o : Nat) (w : World), Still w (w.setCells b o vs)
  | [], _, w => Still.refl w
  | _ :: vs, o, w => Still.trans (w' := w.setCell ⟨b, o, none⟩ _) ⟨rfl, rfl, rfl⟩ (still_setCells b vs (o + 1) _)
/-- The same on both sides: cells of a row written over. -/
theorem Wr.run {γ : Gh} {h h' : H} {w : World} (hr : HR γ h w) {a v o B N : Nat} {l : List AV} {vs : List Value} {ob ob' : AO} (hg : γ a v = some (B, N)) (ho : h.get a = some ob) (hw : Wr v o l.length l ob ob')
    (hl : VRL γ l vs) (hc : ∀ x ∈ l, cellA x = true) (hn : h'.nx = h.nx) (hget : ∀ b, h'.get b = if b = a then some ob' else h.get b) :
    w.there B o vs.length ∧ HR γ h' (w.setCells B o vs) ∧ Ext γ h w γ h' (w.setCells B o vs) := by
  obtain ⟨ob1, o1, h1, h2, h3⟩ := hr.ob a v B N hg
  rw [ho] at h1; cases h1
  have hlen := hl.length
  have main : ∃ c T m cs cs', o1 = .cells c T (0, 0) ∧ c.size = N ∧ CellsR γ cs m c ∧ o + l.length ≤ m ∧ m ≤ N ∧ (∀ j, cs'.get j = if o ≤ j ∧ j < o + l.length then l[j - o]? else cs.get j) ∧
      (∀ v' C N', γ a v' = some (C, N') → C = B → N' = N → ∀ c', c'.size = N → CellsR γ cs' m c' → ObR γ v' N' (.cells c' T (0, 0)) ob') ∧
      (∀ v' C N' o', γ a v' = some (C, N') → C ≠ B → ObR γ v' N' o' ob → ObR γ v' N' o' ob') := by
    cases hw with
    | @blk n cs cs' q1 q2 =>
      obtain ⟨rfl, rfl, c, T, rfl, q3, q4⟩ := h3
      refine ⟨c, T, _, cs, cs', rfl, q3, q4, q1, Nat.le_refl _, q2, fun v' C N' hg' hC hN c' hc' hcr => ?_, fun v' C N' o' hg' hC ho' => ?_⟩
      · obtain ⟨_, _, _, _, hh⟩ := hr.ob a v' C N' hg'
        rw [ho] at *
        rename_i x1 x2 x3 x4
        cases x3
        obtain ⟨rfl, rfl, _⟩ := hh
        exact ⟨rfl, rfl, c', T, rfl, hc', hcr⟩
      · obtain ⟨rfl, _⟩ := ho'
        rw [hg] at hg'; cases hg'; exact absurd rfl hC
    | @grow n lw cs cs' q0 q1 q2 =>
      subst q0
      obtain ⟨r1, r2, c, T, rfl, q3, q4, q5⟩ := h3
      refine ⟨c, T, v, cs, cs', rfl, q3, q5 r2, q1, q4, q2, fun v' C N' hg' hC hN c' hc' hcr => ?_, fun v' C N' o' hg' hC ho' => ?_⟩
      · obtain ⟨ob2, o2, x1, x2, x3⟩ := hr.ob a v' C N' hg'
        rw [ho] at x1; cases x1
        obtain ⟨y1, y2, _, _, _, _, y3, _⟩ := x3
        refine ⟨y1, Nat.le_refl _, c', T, rfl, by omega, y3, fun hle => ?_⟩
        obtain rfl : v' = v := by omega
        exact hcr
      · obtain ⟨y1, y2, c2, T2, y3, y4, y5, _⟩ := ho'
        refine ⟨y1, Nat.le_refl _, c2, T2, y3, y4, y5, fun hle => ?_⟩
        obtain rfl : v' = v := by omega
        rw [hg] at hg'; cases hg'; exact absurd rfl hC
  obtain ⟨c, T, m, cs, cs', rfl, hcN, hcr, hom, hmN, hcs, hsame, hoth⟩ := main
  obtain ⟨c', k1, k2, k3, k4, k5⟩ := setCells_heap vs o w c h2 (by omega)
  have hcr' : CellsR γ cs' m c' := hcr.put hl hc hcs k3
  refine ⟨fun j hj => ?_, ?_⟩
  · have hlt : o + j < c.size := by omega
    constructor
    · simp [World.cell?, h2, hlt]
    · simp [World.frozen?, h2]
  · refine HR.put hr hg hn hget k1 k4 k5 (fun v' C N' hg' => ?_) (still_setCells _ _ _ _)
    by_cases hC : C = B
    · subst hC
      obtain ⟨ob2, o2, x1, x2, x3⟩ := hr.ob a v' C N' hg'
      rw [h2] at x2; cases x2
      have hN : N' = N := by
        cases ob2 <;> first
          | (obtain ⟨_, rfl, c2, T2, y3, y4, _⟩ := x3; cases y3; omega)
          | (obtain ⟨_, _, c2, T2, y3, y4, _⟩ := x3; cases y3; omega)
          | (obtain ⟨_, _, y3, _⟩ := x3; cases y3)
          | (obtain ⟨_, y3, _⟩ := x3; cases y3)
      exact ⟨_, k1, hsame v' C N' hg' rfl hN c' (by omega) hcr'⟩
    · obtain ⟨ob2, o2, x1, x2, x3⟩ := hr.ob a v' C N' hg'
      rw [ho] at x1; cases x1
      exact ⟨o2, by rw [k5 C hC]; exact x2, hoth v' C N' o2 hg' hC x3⟩
theorem store_ok {t : TypeId} {d : TypeDesc} (hd : underP P t = some d) {p x : AV} {h : H} {K : H → Ans} (e : storeK (sizeP P t) h p x K = .ok rv rh) :
    ∃ h', K h' = .ok rv rh ∧ ∀ V p' x', V p' p → V x' x → SpecAct P (.store t p' x') V h und h' := by
  obtain ⟨l, hl, e1⟩ := cellsK_ok (show cellsK x _ = .ok rv rh from e)
  obtain ⟨hsz, a, v, o, ob, ob', h', rfl, ho, hw, e2, hn, hget⟩ := storeCs_ok e1
  refine ⟨h', e2, fun V p' x' hp hx γ ac w op hop' hop hr => ?_⟩
  have h1 := hop p' _ (by simp [Op.operands]) hp
  have h2 := hop x' _ (by simp [Op.operands]) hx
  simp only [VR] at h1
  obtain ⟨B, N, hg, h1⟩ := h1
  obtain ⟨q1, q2⟩ := cellsL_rel h2 hl
  rw [← hsz] at hw
  obtain ⟨k1, k2, k3⟩ := hw.run hr hg ho q1 q2 hn hget
  obtain ⟨i, hi⟩ := underP_type hd
  have hlen : (ac.eval x').cells.size = sizeP P t := by rw [← hsz, q1.length]; simp
  refine ⟨.skip, _, γ, undef, ?_, .inr ⟨rfl, rfl⟩, by simp [und, VR, undef], k3, k2⟩
  have hst := run_storeCells_cells (P := P) B o (ac.eval x').cells.toList 0 w (fun j hj => by simpa using (k1 j hj).1) (fun j hj => by simpa using (k1 j hj).2) (VRL_oneCell q1 q2)
  simp only [Nat.add_zero] at hst
  have hsto : (Instr.storeAt t (ac.eval p') (ac.eval x')).run P w = .ok () (w.setCells B o (ac.eval x').cells.toList) := by
    simp only [Instr.storeAt, h1, Instr.sureAddr, Sem.run_bind, Sem.run_pure, Result.andThen_ok, storeVar, run_sizeOfP hi, hlen, ne_eq, not_true_eq_false, if_false, hst]
  simp only [execOp, hop', Sem.run_bind, hsto, Result.andThen_ok, Sem.run_pure]
end Go.AB
namespace Go.AB
variable [Base]
variable {rv : AV} {rh : H} {P : Program}

/-! ### the same value -/
theorem sameC_ok {x y : AV} {K e : Ans} (he : e ≠ .ok rv rh) (h : sameC x y K e = .ok rv rh) : x = y ∧ K = .ok rv rh := by
  unfold sameC at h
  split at h
  · rw [ifK_eq, eqB_eq] at h
    split at h
    · rename_i hh; exact ⟨by rw [eq_of_beq hh], h⟩
    · exact absurd h he
  · rw [ifK_eq, andB_eq, eqI_eq] at h
    split at h
    · rename_i hh; rw [Bool.and_eq_true] at hh; exact ⟨by rw [kindEq_iff.1 hh.1, eq_of_beq hh.2], h⟩
    · exact absurd h he
  · rw [ifK_eq] at h
    split at h
    · rename_i hh
      unfold strEq at hh
      rw [andB_eq, Bool.and_eq_true] at hh
      exact ⟨by rw [Nat.eq_of_beq_eq_true hh.1, Nat.eq_of_beq_eq_true hh.2], h⟩
    · exact absurd h he
  · exact ⟨rfl, h⟩
  · rw [ifK_eq] at h
    simp only [andB_eq] at h
    split at h
    · rename_i hh
      simp only [Bool.and_eq_true] at hh
      exact ⟨by rw [Nat.eq_of_beq_eq_true hh.1, Nat.eq_of_beq_eq_true hh.2.1, Nat.eq_of_beq_eq_true hh.2.2], h⟩
    · exact absurd h he
  · exact ⟨rfl, h⟩
  · rw [ifK_eq] at h
    simp only [andB_eq] at h
    split at h
    · rename_i hh
      simp only [Bool.and_eq_true] at hh
      obtain ⟨⟨h1, h2, h3⟩, h4, h5, h6⟩ := hh
      exact ⟨by rw [Nat.eq_of_beq_eq_true h1, Nat.eq_of_beq_eq_true h2, Nat.eq_of_beq_eq_true h3, Nat.eq_of_beq_eq_true h4, Nat.eq_of_beq_eq_true h5, Nat.eq_of_beq_eq_true h6], h⟩
    · exact absurd h he
  · exact ⟨rfl, h⟩
  · rw [ifK_eq] at h
    split at h
    · rename_i hh; exact ⟨by rw [Nat.eq_of_beq_eq_true hh], h⟩
    · exact absurd h he
  · exact ⟨rfl, h⟩
  · exact ⟨rfl, h⟩
  · exact absurd h he
theorem sameCs_ok : ∀ {l m : List AV} {K e : Ans}, e ≠ .ok rv rh → sameCs l m K e = .ok rv rh → l = m ∧ K = .ok rv rh
  | [], [], K, e, _, h => ⟨rfl, h⟩
  | x :: l, y :: m, K, e, he, h => by
    obtain ⟨h1, h2⟩ := sameC_ok he (show sameC x y (sameCs l m K e) e = .ok rv rh from h)
    obtain ⟨h3, h4⟩ := sameCs_ok he h2
    exact ⟨by rw [h1, h3], h4⟩
  | [], _ :: _, K, e, he, h => absurd h he
  | _ :: _, [], K, e, he, h => absurd h he
theorem sameV_ok {x y : AV} {K : Ans} (h : sameV x y K = .ok rv rh) : x = y ∧ K = .ok rv rh := by
  unfold sameV at h
  split at h
  · obtain ⟨h1, h2⟩ := sameCs_ok (by simp) h; exact ⟨by rw [h1], h2⟩
  · obtain ⟨h1, h2⟩ := sameCs_ok (by simp) h; exact ⟨by rw [h1], h2⟩
  · exact sameC_ok (by simp) h

/-! ### maps written -/
theorem revE_eq (l : List (AV × AV × Nat)) : ∀ (acc : List (AV × AV × Nat)) (K : List (AV × AV × Nat) → Ans), revE l acc K = K (l.reverse ++ acc) := by
  induction l with
  | nil => intro acc K; rfl
  | cons x l ih => intro acc K; show revE l (x :: acc) K = _; rw [ih]; simp
theorem setAt_ok : ∀ (es : List (AV × AV × Nat)) (i : Nat) (k v : AV) (acc : List (AV × AV × Nat)) (K : List (AV × AV × Nat) → Ans), setAt es i k v acc K = .ok rv rh →
    ∃ pre v' b post, es = pre ++ (k, v', b) :: post ∧ pre.length = i ∧ K (acc.reverse ++ (pre ++ (k, v, b) :: post)) = .ok rv rh
  | [], i, k, v, acc, K, e => by simp [setAt] at e
  | (k', v', b) :: l, 0, k, v, acc, K, e => by
    rw [setAt] at e
    obtain ⟨rfl, e1⟩ := sameV_ok e
    rw [revE_eq] at e1
    exact ⟨[], v', b, l, rfl, rfl, by simpa using e1⟩
  | x :: l, i + 1, k, v, acc, K, e => by
    rw [setAt] at e
    obtain ⟨pre, v', b, post, h1, h2, h3⟩ := setAt_ok l i k v (x :: acc) K e
    exact ⟨x :: pre, v', b, post, by simp [h1], by simp [h2], by simpa using h3⟩
theorem dropAt_ok : ∀ (es : List (AV × AV × Nat)) (i : Nat) (acc : List (AV × AV × Nat)) (K : List (AV × AV × Nat) → Ans), dropAt es i acc K = .ok rv rh →
    ∃ pre x post, es = pre ++ x :: post ∧ pre.length = i ∧ K (acc.reverse ++ (pre ++ post)) = .ok rv rh
  | [], i, acc, K, e => by simp [dropAt] at e
  | x :: l, 0, acc, K, e => by
    rw [dropAt, revE_eq] at e
    exact ⟨[], x, l, rfl, rfl, by simpa using e⟩
  | x :: l, i + 1, acc, K, e => by
    rw [dropAt] at e
    obtain ⟨pre, y, post, h1, h2, h3⟩ := dropAt_ok l i (x :: acc) K e
    exact ⟨x :: pre, y, post, by simp [h1], by simp [h2], by simpa using h3⟩
theorem modify_mid {α : Type} (f : α → α) (e : α) (m2 : List α) : ∀ m1 : List α, (m1 ++ e :: m2).modify m1.length f = m1 ++ f e :: m2
  | [] => rfl
  | x :: m1 => by simp [List.modify_succ_cons, modify_mid f e m2 m1]
theorem EntR.split {γ : Gh} : ∀ {pre : List (AV × AV × Nat)} {x : AV × AV × Nat} {post : List (AV × AV × Nat)} {m : List MapEntry}, EntR γ (pre ++ x :: post) m →
    ∃ m1 e m2, m = m1 ++ e :: m2 ∧ m1.length = pre.length ∧ EntR γ pre m1 ∧ VR γ x.1 e.key ∧ VR γ x.2.1 e.val ∧ e.born = x.2.2 ∧ EntR γ post m2
  | [], x, post, m, ⟨e, es, h0, h1, h2, h3, h4⟩ => ⟨[], e, es, h0, rfl, rfl, h1, h2, h3, h4⟩
  | y :: pre, x, post, m, ⟨e, es, h0, h1, h2, h3, h4⟩ => by
    obtain ⟨m1, e', m2, q1, q2, q3, q4⟩ := EntR.split h4
    exact ⟨e :: m1, e', m2, by simp [h0, q1], by simp [q2], ⟨e, m1, rfl, h1, h2, h3, q3⟩, q4⟩
theorem EntR.append {γ : Gh} : ∀ {l l' : List (AV × AV × Nat)} {m m' : List MapEntry}, EntR γ l m → EntR γ l' m' → EntR γ (l ++ l') (m ++ m')
  | [], _, _, _, h, h' => by cases h; simpa using h'
  | _ :: _, _, _, _, ⟨e, es, h0, h1, h2, h3, h4⟩, h' => by subst h0; exact ⟨e, es ++ _, by simp, h1, h2, h3, h4.append h'⟩
theorem run_setObj' {w : World} {B : Nat} {o o' : Obj} (h : w.heap[B]? = some o) (hn : ∀ c e f, o ≠ .cells c e f) : (setObj B o').run P w = .ok () { w with heap := w.heap.setIfInBounds B o' } := by
  cases o <;> first | exact absurd rfl (hn _ _ _) | simp [setObj, Sem.run, h]
/-- A map is written over. -/
theorem HR.putMap {γ : Gh} {h h' : H} {w : World} (hr : HR γ h w) {a B N c c' : Nat} {es es' : List (AV × AV × Nat)} {ev ev' : Array MapEntry} (ha : h.get a = some (.map es c)) (hg : γ a 0 = some (B, N)) (hB : w.heap[B]? = some (.map ev c))
    (hen : EntR γ es' ev'.toList) (hn : h'.nx = h.nx) (hget : ∀ b, h'.get b = if b = a then some (.map es' c') else h.get b) {w' : World} (hw : w'.heap = w.heap.setIfInBounds B (.map ev' c')) (hst : Still w w' := by exact ⟨rfl, rfl, rfl⟩) : Ext γ h w γ h' w' ∧ HR γ h' w' := by
  have hlt : B < w.heap.size := (Array.getElem?_eq_some_iff.1 hB).1
  have h1 : w'.heap[B]? = some (.map ev' c') := by rw [hw, Array.getElem?_setIfInBounds_self_of_lt hlt]
  have h2 : ∀ C, C ≠ B → w'.heap[C]? = w.heap[C]? := fun C hC => by rw [hw, Array.getElem?_setIfInBounds_ne (Ne.symm hC)]
  refine (HR.put hr hg hn hget h1 (by rw [hw]; simp) h2 (fun v' C N' hg' => ?_) hst).symm
  obtain ⟨ob2, o2, x1, x2, x3⟩ := hr.ob a v' C N' hg'
  rw [ha] at x1; cases x1
  obtain ⟨rfl, _⟩ := x3
  rw [hg] at hg'; cases hg'
  exact ⟨_, h1, rfl, ev', rfl, hen⟩
theorem run_keyThatStays (old new : Value) (w : World) : ∃ r w', (Instr.keyThatStays old new).run P w = .ok r w' ∧ (w'.heap = w.heap ∧ Still w w') ∧ (r = old ∨ r = new) := by
  unfold Instr.keyThatStays
  split
  · exact ⟨new, w, rfl, ⟨rfl, Still.refl w⟩, .inr rfl⟩
  · rw [Sem.run_bind]
    have : ∃ n w', (choose (.extern "map.whichKeyStays" 2)).run P w = .ok n w' ∧ (w'.heap = w.heap ∧ Still w w') := by
      simp only [choose, Sem.run]
      split
      · exact ⟨_, _, rfl, rfl, rfl, rfl, rfl⟩
      · exact ⟨_, _, rfl, rfl, rfl, rfl, rfl⟩
    obtain ⟨n, w', h1, h2⟩ := this
    rw [h1]
    simp only [Result.andThen_ok, Sem.run_pure]
    by_cases hn : n = 0
    · exact ⟨new, w', by rw [if_pos hn], h2, .inr rfl⟩
    · exact ⟨old, w', by rw [if_neg hn], h2, .inl rfl⟩
theorem mapUpdate_ok {t : TypeId} {m k v : AV} {h : H} {K : H → Ans} (e : mapUpdateA P t m k v h K = .ok rv rh) :
    ∃ h', K h' = .ok rv rh ∧ ∀ V m' k' v' op, (op = .mapUpdate t m' k' v' ∨ op = .insert t m' k' v') → V m' m → V k' k → V v' v → SpecAct P op V h und h' := by
  obtain ⟨f, g, et, hb, e1⟩ := BM.run_ok (show (mapBM P t).run _ = .ok rv rh from e)
  obtain ⟨kt, ds, hu, hkey, heq, hds⟩ := mapBM_ok hb
  obtain ⟨hks, e2⟩ := keyBK_ok _ _ _ hkey _ _ e1
  obtain ⟨a, rfl, e3⟩ := onM_ok e2
  obtain ⟨ob, ha, e4⟩ := H.getK_ok e3
  obtain ⟨es, c, rfl, e5⟩ := onMap_ok e4
  obtain ⟨r, hf, e6⟩ := findA_ok heq k es 0 _ _ e5
  have wrap : ∀ (h' : H), (∀ γ w (mv kv vv : Value), HR γ h w → VR γ (.m a) mv → VR γ k kv → VR γ v vv → ∃ w', (Instr.mapUpdate t mv kv vv).run P w = .ok () w' ∧ Ext γ h w γ h' w' ∧ HR γ h' w') →
      ∀ V m' k' v' op, (op = .mapUpdate t m' k' v' ∨ op = .insert t m' k' v') → V m' (.m a) → V k' k → V v' v → SpecAct P op V h und h' := by
    intro h' hh V m' k' v' op hop' hm hk hv γ ac w o ho hop hr
    have h1 : VR γ (.m a) (ac.eval m') := hop m' _ (by rcases hop' with rfl | rfl <;> simp [Op.operands]) hm
    have h2 : VR γ k (ac.eval k') := hop k' _ (by rcases hop' with rfl | rfl <;> simp [Op.operands]) hk
    have h3 : VR γ v (ac.eval v') := hop v' _ (by rcases hop' with rfl | rfl <;> simp [Op.operands]) hv
    obtain ⟨w', q1, q2, q3⟩ := hh γ w _ _ _ hr h1 h2 h3
    refine ⟨.skip, w', γ, undef, ?_, .inr ⟨rfl, rfl⟩, by simp [und, VR, undef], q2, q3⟩
    rcases hop' with rfl | rfl <;> simp only [execOp, ho, Sem.run_bind, q1, Result.andThen_ok, Sem.run_pure]
  cases r with
  | none =>
    simp only [revE_eq, forceN_eq] at e6
    obtain ⟨h', e7, hn, hget⟩ := H.putK_ok e6
    refine ⟨h', e7, wrap h' fun γ w mv kv vv hr hm hk hv => ?_⟩
    obtain ⟨B, ev, rfl, ⟨N, hg⟩, hB, hen⟩ := VR_m hr ha hm
    obtain ⟨r', h1, h2⟩ := hf.findKey (underP_ok hds) hr hk (by decide) hen
    obtain rfl : r' = none := h1
    have hck := hks γ kv w false 10000 hk (by decide)
    have hen' : EntR γ ((es.reverse ++ []).reverse ++ [(k, v, c)]) (ev.push { key := kv, val := vv, born := c }).toList := by
      simp only [List.append_nil, List.reverse_reverse, Array.toList_push]
      exact hen.append ⟨_, [], rfl, hk, hv, rfl, rfl⟩
    have hfin := hr.putMap (w' := { w with heap := w.heap.setIfInBounds B (.map (ev.push { key := kv, val := vv, born := c }) (c + 1)) }) ha hg hB hen' hn hget rfl
    exact ⟨_, by simp only [Instr.mapUpdate, Sem.run_bind, run_underlyingP hu, Result.andThen_ok, run_getObj' hB (fun _ _ _ h => by cases h), hck, h2, run_setObj' hB (fun _ _ _ h => by cases h)], hfin⟩
  | some q =>
    obtain ⟨i, v0⟩ := q
    obtain ⟨pre, v', b, post, rfl, hi, e7⟩ := setAt_ok _ _ _ _ _ _ e6
    obtain ⟨h', e8, hn, hget⟩ := H.putK_ok e7
    refine ⟨h', e8, wrap h' fun γ w mv kv vv hr hm hk hv => ?_⟩
    obtain ⟨B, ev, rfl, ⟨N, hg⟩, hB, hen⟩ := VR_m hr ha hm
    obtain ⟨r', h1, h2⟩ := hf.findKey (underP_ok hds) hr hk (by decide) hen
    obtain ⟨u, rfl, hu0⟩ := h1
    have hck := hks γ kv w false 10000 hk (by decide)
    obtain ⟨m1, e0, m2, q1, q2, q3, q4, q5, q6, q7⟩ := hen.split
    have hei : ev[i]? = some e0 := by rw [← Array.getElem?_toList, q1, ← hi, ← q2]; simp
    obtain ⟨r, w', s1, ⟨s2, s4⟩, s3⟩ := run_keyThatStays (P := P) e0.key kv w
    have hrk : VR γ k r := by rcases s3 with rfl | rfl; exact q4; exact hk
    have hB' : w'.heap[B]? = some (.map ev c) := by rw [s2]; exact hB
    have hmod : (ev.modify i fun e => { e with key := r, val := vv }).toList = m1 ++ { e0 with key := r, val := vv } :: m2 := by
      rw [Array.toList_modify, q1, ← hi, ← q2, modify_mid]
    have hen' : EntR γ ([].reverse ++ (pre ++ (k, v, b) :: post)) (ev.modify i fun e => { e with key := r, val := vv }).toList := by
      rw [hmod]
      exact q3.append ⟨_, m2, rfl, hrk, hv, q6, q7⟩
    have hr' : HR γ h w' := ⟨fun a v B N hh => by rw [s2]; exact hr.ob a v B N hh, hr.inj, hr.lt, hr.wf, fun B o hb => by rw [s2]; exact hr.base B o hb⟩
    have hfin := hr.putMap (w' := { w' with heap := w'.heap.setIfInBounds B (.map (ev.modify i fun e => { e with key := r, val := vv }) c) }) ha hg hB hen' hn hget (by rw [s2]) ⟨s4.os, s4.tape, s4.output⟩
    exact ⟨_, by simp only [Instr.mapUpdate, Sem.run_bind, run_underlyingP hu, Result.andThen_ok, run_getObj' hB (fun _ _ _ h => by cases h), hck, h2, hei, Option.map_some, Option.getD_some, s1, run_setObj' hB' (fun _ _ _ h => by cases h)], hfin⟩
theorem SpecAct_builtin {c : Call} {b : Builtin} (hc : c.callee = .builtin b) {V : Operand → AV → Prop} {h h' : H} {val : AV}
    (hh : ∀ γ (ac : Act) w ty cs, OpdsR γ V (.call c) ac → HR γ h w → ∃ w' γ' v, (builtin b c.argTypes ty cs (c.args.map ac.eval)).run P w = .ok (.value v) w' ∧ VR γ' val v ∧ Ext γ h w γ' h' w' ∧ HR γ' h' w') :
    SpecAct P (.call c) V h val h' := by
  intro γ ac w o ho hop hr
  obtain ⟨w', γ', v, h1, h2, h3, h4⟩ := hh γ ac w o.type (c.args.map fun | .const _ => true | _ => false) hop hr
  exact ⟨.value v, w', γ', v, by rw [run_builtin hc ho]; exact h1, .inl rfl, h2, h3, h4⟩
theorem delete_ok {t : TypeId} {m k : AV} {h : H} {K : H → Ans} (e : deleteA P t m k h K = .ok rv rh) :
    ∃ h', K h' = .ok rv rh ∧ ∀ V (c : Call) m' k', c.callee = .builtin .delete → c.args.toList = [m', k'] → c.argTypes[0]? = some t → V m' m → V k' k → SpecAct P (.call c) V h (.tu []) h' := by
  obtain ⟨f, g, et, hb, e1⟩ := BM.run_ok (show (mapBM P t).run _ = .ok rv rh from e)
  obtain ⟨kt, ds, hu, hkey, heq, hds⟩ := mapBM_ok hb
  obtain ⟨hks, e2⟩ := keyBK_ok _ _ _ hkey _ _ e1
  have wrap : ∀ (h' : H), (∀ γ w (mv kv : Value), HR γ h w → VR γ m mv → VR γ k kv → ∃ w', (Builtin.delete_ #[t] 0 #[mv, kv]).run P w = .ok (.tuple #[]) w' ∧ Ext γ h w γ h' w' ∧ HR γ h' w') →
      ∀ V (c : Call) m' k', c.callee = .builtin .delete → c.args.toList = [m', k'] → c.argTypes[0]? = some t → V m' m → V k' k → SpecAct P (.call c) V h (.tu []) h' := by
    intro h' hh V c m' k' hc hargs ht hm hk
    refine SpecAct_builtin hc fun γ ac w ty cs hop hr => ?_
    have h1 := opd_builtin hop (x := m') (by rw [hargs]; simp) hm
    have h2 := opd_builtin hop (x := k') (by rw [hargs]; simp) hk
    obtain ⟨w', q1, q2, q3⟩ := hh γ w _ _ hr h1 h2
    refine ⟨w', γ, .tuple #[], ?_, by simp [VR], q2, q3⟩
    rw [args2 hargs]
    have q1' : (Builtin.delete_ c.argTypes ty #[ac.eval m', ac.eval k']).run P w = .ok (.tuple #[]) w' := by
      rw [← q1]; simp only [Builtin.delete_, ht, g10, g20, g21]
    simp only [builtin, Sem.run_bind, q1', Result.andThen_ok, Sem.run_pure]
  split at e2
  · refine ⟨h, e2, wrap h fun γ w mv kv hr hm hk => ?_⟩
    simp only [VR] at hm; subst hm
    have hck := hks γ kv w true 10000 hk (by decide)
    exact ⟨w, by simp only [Builtin.delete_, g10, g20, g21, Sem.run_bind, run_underlyingP hu, Result.andThen_ok, hck, Sem.run_pure], Ext.refl γ h w, hr⟩
  · rename_i a
    obtain ⟨ob, ha, e4⟩ := H.getK_ok e2
    obtain ⟨es, c, rfl, e5⟩ := onMap_ok e4
    obtain ⟨r, hf, e6⟩ := findA_ok heq k es 0 _ _ e5
    cases r with
    | none =>
      obtain ⟨h', e7, hn, hget⟩ := H.putK_ok e6
      refine ⟨h', e7, wrap h' fun γ w mv kv hr hm hk => ?_⟩
      obtain ⟨B, ev, rfl, ⟨N, hg⟩, hB, hen⟩ := VR_m hr ha hm
      obtain ⟨r', h1, h2⟩ := hf.findKey (underP_ok hds) hr hk (by decide) hen
      obtain rfl : r' = none := h1
      have hck := hks γ kv w ev.isEmpty 10000 hk (by decide)
      have hfin := hr.putMap (w' := { w with heap := w.heap.setIfInBounds B (.map ev c) }) ha hg hB hen hn hget rfl
      exact ⟨_, by simp only [Builtin.delete_, g10, g20, g21, Sem.run_bind, run_underlyingP hu, Result.andThen_ok, run_getObj' hB (fun _ _ _ h => by cases h), hck, h2, run_setObj' hB (fun _ _ _ h => by cases h), Sem.run_pure], hfin⟩
    | some q =>
      obtain ⟨i, v0⟩ := q
      obtain ⟨pre, x, post, rfl, hi, e7⟩ := dropAt_ok _ _ _ _ e6
      obtain ⟨h', e8, hn, hget⟩ := H.putK_ok e7
      refine ⟨h', e8, wrap h' fun γ w mv kv hr hm hk => ?_⟩
      obtain ⟨B, ev, rfl, ⟨N, hg⟩, hB, hen⟩ := VR_m hr ha hm
      obtain ⟨r', h1, h2⟩ := hf.findKey (underP_ok hds) hr hk (by decide) hen
      obtain ⟨u, rfl, hu0⟩ := h1
      have hck := hks γ kv w ev.isEmpty 10000 hk (by decide)
      obtain ⟨m1, e0, m2, q1, q2, q3, q4, q5, q6, q7⟩ := hen.split
      have hlt : i < ev.size := by rw [← Array.length_toList, q1]; simp; omega
      have hdr : (ev.eraseIdxIfInBounds i).toList = m1 ++ m2 := by
        rw [Array.eraseIdxIfInBounds, dif_pos hlt, Array.toList_eraseIdx, q1, ← hi, ← q2]
        simp [List.eraseIdx_append]
      have hen' : EntR γ ([].reverse ++ (pre ++ post)) (ev.eraseIdxIfInBounds i).toList := by
        rw [hdr]; exact q3.append q7
      have hfin := hr.putMap (w' := { w with heap := w.heap.setIfInBounds B (.map (ev.eraseIdxIfInBounds i) c) }) ha hg hB hen' hn hget rfl
      exact ⟨_, by simp only [Builtin.delete_, g10, g20, g21, Sem.run_bind, run_underlyingP hu, Result.andThen_ok, run_getObj' hB (fun _ _ _ h => by cases h), hck, h2, run_setObj' hB (fun _ _ _ h => by cases h), Sem.run_pure], hfin⟩
  · cases e2
theorem clear_ok {t : TypeId} {x : AV} {h : H} {K : H → Ans} (e : clearA P t x h K = .ok rv rh) :
    ∃ h', K h' = .ok rv rh ∧ ∀ V (c : Call) x', c.callee = .builtin .clear → c.args.toList = [x'] → c.argTypes[0]? = some t → V x' x → SpecAct P (.call c) V h (.tu []) h' := by
  unfold clearA at e
  split at e
  · rename_i d hu
    have wrap : ∀ (h' : H), (∀ γ w (mv : Value), HR γ h w → VR γ x mv → ∃ w', (Builtin.clear_ #[t] 0 #[mv]).run P w = .ok (.tuple #[]) w' ∧ Ext γ h w γ h' w' ∧ HR γ h' w') →
        ∀ V (c : Call) x', c.callee = .builtin .clear → c.args.toList = [x'] → c.argTypes[0]? = some t → V x' x → SpecAct P (.call c) V h (.tu []) h' := by
      intro h' hh V c x' hc hargs ht hm
      refine SpecAct_builtin hc fun γ ac w ty cs hop hr => ?_
      have h1 := opd_builtin hop (x := x') (by rw [hargs]; simp) hm
      obtain ⟨w', q1, q2, q3⟩ := hh γ w _ hr h1
      refine ⟨w', γ, .tuple #[], ?_, by simp [VR], q2, q3⟩
      rw [args1 hargs]
      have q1' : (Builtin.clear_ c.argTypes ty #[ac.eval x']).run P w = .ok (.tuple #[]) w' := by
        rw [← q1]; simp only [Builtin.clear_, ht, g10]
      simp only [builtin, Sem.run_bind, q1', Result.andThen_ok, Sem.run_pure]
    split at e
    · refine ⟨h, e, wrap h fun γ w mv hr hm => ?_⟩
      simp only [VR] at hm; subst hm
      exact ⟨w, by simp only [Builtin.clear_, g10, Sem.run_bind, run_underlyingP hu, Result.andThen_ok, Sem.run_pure], Ext.refl γ h w, hr⟩
    · refine ⟨h, e, wrap h fun γ w mv hr hm => ?_⟩
      simp only [VR] at hm; subst hm
      exact ⟨w, by simp only [Builtin.clear_, g10, Sem.run_bind, run_underlyingP hu, Result.andThen_ok, Sem.run_pure], Ext.refl γ h w, hr⟩
    · rename_i a
      obtain ⟨ob, ha, e4⟩ := H.getK_ok e
      obtain ⟨es, c, rfl, e5⟩ := onMap_ok e4
      obtain ⟨h', e7, hn, hget⟩ := H.putK_ok e5
      refine ⟨h', e7, wrap h' fun γ w mv hr hm => ?_⟩
      obtain ⟨B, ev, rfl, ⟨N, hg⟩, hB, hen⟩ := VR_m hr ha hm
      have hfin := hr.putMap (es' := []) (ev' := #[]) (w' := { w with heap := w.heap.setIfInBounds B (.map #[] c) }) ha hg hB rfl hn hget rfl
      exact ⟨_, by simp only [Builtin.clear_, g10, Sem.run_bind, run_underlyingP hu, Result.andThen_ok, run_getObj' hB (fun _ _ _ h => by cases h), run_setObj' hB (fun _ _ _ h => by cases h), Sem.run_pure], hfin⟩
    · cases e
  · cases e
end Go.AB
namespace Go.AB
variable [Base]
variable {rv : AV} {rh : H} {P : Program}

/-! ### what is appended or copied -/
theorem unbytes_eq (n code : Nat) : ∀ (k : Nat) (acc : List AV) (K : List AV → Ans), unbytes n code k acc K = K ((List.range k).map (fun j => AV.i .u8 (.ofNat (strAt n code j))) ++ acc)
  | 0, acc, K => rfl
  | k + 1, acc, K => by
    show forceN (strAt n code k) (fun c => unbytes n code k (.i .u8 (.ofNat c) :: acc) K) = _
    rw [forceN_eq, unbytes_eq n code k, List.range_succ]
    simp
theorem source_ok {size : Nat} {h : H} {x : AV} {K : Nat → List AV → Ans} (e : sourceA size h x K = .ok rv rh) :
    ∃ m new, K m new = .ok rv rh ∧ ∀ γ w v, HR γ h w → VR γ x v → new.length = m * size ∧ (Builtin.lenOf v).run P w = .ok m w ∧
      ∀ k, k ≤ m → ∃ c : Array Value, (Builtin.firstCells size k v).run P w = .ok c w ∧ VRL γ (new.take (k * size)) c.toList ∧ ∀ y ∈ new.take (k * size), cellA y = true := by
  unfold sourceA at e
  split at e
  · refine ⟨0, [], e, fun γ w v hr hv => ?_⟩
    simp only [VR] at hv; subst hv
    refine ⟨by simp, rfl, fun k hk => ⟨#[], ?_, by simp, by simp⟩⟩
    rfl
  · rename_i a vr o n es c
    rw [ifK_eq] at e
    split at e
    · rename_i hes
      have hes := Nat.eq_of_beq_eq_true hes
      subst hes
      obtain ⟨a', v', o', l, y, hp, e1, hl, hrow⟩ := loadK_ok (by simp) e
      cases hp
      rcases hl with ⟨_, rfl, hlen⟩ | ⟨hf, _⟩
      · refine ⟨n, l, e1, fun γ w v hr hv => ?_⟩
        simp only [VR] at hv
        obtain ⟨B, N, cap, hg, oo, rfl, hoo, hes, hnc, hN, hc0, hc1⟩ := hv
        obtain ⟨vals, q1, q2, q3, q4⟩ := hrow.read hr hg
        refine ⟨hlen, rfl, fun k hk => ⟨(vals.take (k * es)).toArray, ?_, by simpa using q3.take (k * es), fun y hy => q4 y (List.mem_of_mem_take hy)⟩⟩
        have hkl : (vals.take (k * es)).length = k * es := by
          rw [List.length_take, q2, hlen]
          have := Nat.mul_le_mul_right es hk
          omega
        rcases Nat.eq_zero_or_pos k with rfl | hpos
        · simp [Builtin.firstCells, loadCells, loadCellsFrom]
        · obtain rfl : oo = o := hoo (by omega)
          have hl := run_loadCells_list (P := P) w ⟨B, oo, none⟩ (vals.take (k * es)) (fun j u hu => by
            rw [Addr.add_mid]
            refine q1 j u ?_
            rw [List.getElem?_take] at hu
            split at hu
            · exact hu
            · cases hu)
          rw [hkl] at hl
          simpa [Builtin.firstCells] using hl
      · cases hf
    · cases e
  · rename_i n code
    rw [ifK_eq] at e
    split at e
    · rename_i hsz
      have hsz := Nat.eq_of_beq_eq_true hsz
      subst hsz
      rw [unbytes_eq, List.append_nil] at e
      refine ⟨n, _, e, fun γ w v hr hv => ?_⟩
      simp only [VR] at hv
      obtain ⟨s, rfl, rfl, rfl⟩ := hv
      refine ⟨by simp, rfl, fun k hk => ⟨(s.extract 0 k).data.map fun b => .int .u8 b.toNat, rfl, ?_, ?_⟩⟩
      · have hd : (s.extract 0 k).data.toList = s.data.toList.take k := by
          rw [ByteArray.data_extract, Array.toList_extract, List.extract_eq_take_drop]
          try simp
        rw [Array.toList_map, hd, Nat.mul_one]
        have hk' : k ≤ s.data.toList.length := by rw [← size_list]; exact hk
        refine (VRL_iff (l := _) (m := _)).2 ⟨?_, fun i x u hx hu => ?_⟩
        · simp [List.length_take] <;> omega
        · rw [List.getElem?_take] at hx
          split at hx
          · rename_i hik
            rw [List.getElem?_map, List.getElem?_take, if_pos hik] at hu
            simp only [List.getElem?_map, Option.map_eq_some_iff] at hx hu
            obtain ⟨j, hj, rfl⟩ := hx
            obtain ⟨b, hb, rfl⟩ := hu
            have hlt : i < s.data.toList.length := (List.getElem?_eq_some_iff.1 hb).1
            have hji : j = i := by
              rw [List.getElem?_range (by rw [size_list]; exact hlt)] at hj
              exact (Option.some.inj hj).symm
            subst hji
            have hbe : s.data.toList[j] = b := by rw [List.getElem?_eq_getElem hlt] at hb; exact Option.some.inj hb
            simp only [VR]
            rw [size_list]
            show _ = Value.int .u8 (strAt s.data.toList.length (encB s.data.toList) j)
            rw [strAt_eq _ _ hlt, hbe]
          · cases hx
      · intro y hy
        have := List.mem_of_mem_take hy
        simp only [List.mem_map] at this
        obtain ⟨_, _, rfl⟩ := this
        rfl
    · cases e
  · cases e

/-! ### appends -/
theorem BAp.run_ok {b : BAp} {K : Nat → Ans} (e : b.run K = .ok rv rh) : ∃ n, b = .mk n ∧ K n = .ok rv rh := by
  cases b with
  | mk n => exact ⟨n, rfl, e⟩
  | no => cases e
theorem appBA_ok {t es : Nat} (h : appBA P t = .mk es) : ∃ e i z l, underP P t = some (.slice e) ∧ typeP P e = some i ∧ i.zero = some z ∧ es = i.size ∧ 1 ≤ es ∧ i.bytes ≤ 1000000 ∧ es = l.length ∧ (∀ γ, VRL γ l z.cells.toList) ∧ z.cells.size = es := by
  unfold appBA at h
  split at h
  · rename_i e he
    obtain ⟨hu, d, hd⟩ := elemP_ok he
    split at h
    · rename_i i hi
      split at h
      · rename_i zs tz l hz
        split at h
        · rename_i h1 h2 h3
          cases h
          obtain ⟨i', z, hi', hiz, hzs, _, _, hzr⟩ := zeroBZ_ok hz
          rw [hi] at hi'; cases hi'
          refine ⟨e, i, z, l, hu, hi, hiz, Nat.eq_of_beq_eq_true h1, ?_, Nat.le_of_ble_eq_true h2, hzs, hzr, ?_⟩
          · rw [Nat.eq_of_beq_eq_true h1]; exact Nat.le_of_ble_eq_true h3
          · rw [hzs, (hzr (fun _ _ => none)).length]; simp
        · cases h
      · cases h
    · cases h
  · cases h
theorem growBy_le (newLen : Nat) : ∀ (r c : Nat), c ≤ 2 * newLen + 768 → Builtin.growBy newLen r c ≤ 2 * newLen + 768
  | 0, c, h => h
  | r + 1, c, h => by
    unfold Builtin.growBy
    split
    · exact h
    · exact growBy_le newLen r _ (by omega)
theorem nextslicecap_le {need cap : Nat} (h : cap < need) : Builtin.nextslicecap need cap ≤ 2 * need + 768 := by
  unfold Builtin.nextslicecap
  split
  · omega
  · split
    · omega
    · exact growBy_le _ _ _ (by omega)
theorem zeroCells_size (z : Array Value) (n : Nat) : (Builtin.zeroCells z n).size = n * z.size := by simp [Builtin.zeroCells]
theorem asks_append {ts : Array TypeId} (h : ts[1]? = none ∨ ∃ u d, ts[1]? = some u ∧ underP P u = some d ∧ ∀ k, d ≠ .int k) (w : World) :
    ((match ts[1]? with | some xType => do pure ((← underlying xType) matches .int _) | none => pure false : Sem Bool)).run P w = .ok false w := by
  rcases h with h | ⟨u, d, h, hu, hd⟩
  · rw [h]; rfl
  · rw [h]
    simp only [Sem.run_bind, run_underlyingP hu, Result.andThen_ok]
    cases d <;> first | exact absurd rfl (hd _) | rfl
def ArgTs (P : Program) (ts : Array TypeId) (t : TypeId) : Prop := ts[0]? = some t ∧ (ts[1]? = none ∨ ∃ u d, ts[1]? = some u ∧ underP P u = some d ∧ ∀ k, d ≠ .int k)
theorem run_append_in {ts : Array TypeId} {t ty es e m : Nat} {i : TypeInfo} (hts : ArgTs P ts t) (hu : underP P t = some (.slice e)) (hi : typeP P e = some i) (hes : es = i.size) {base : Option Addr} {n cap : Nat} {xv : Value} {w : World} {new : Array Value}
    (hlen : (Builtin.lenOf xv).run P w = .ok m w) (hnew : (Builtin.firstCells es m xv).run P w = .ok new w) (hle : n + m ≤ cap) {w' : World} (hst : ∀ a, base = some a → (storeCells (a.add (n * es)) new.toList).run P w = .ok () w') (hb : base = none → w' = w) :
    (Builtin.append_ ts ty #[.slice base n cap, xv]).run P w = .ok (.slice base (n + m) cap) w' := by
  have hsz : (sizeOf e).run P w = .ok es w := by rw [hes]; simp [sizeOf, run_typeInfoP hi]
  have fin : (do
      if let some a := base then storeCells (a.add (n * es)) new.toList
      pure (Value.slice base (n + m) cap) : Sem Value).run P w = .ok (.slice base (n + m) cap) w' := by
    cases base with
    | none => rw [hb rfl]; rfl
    | some a => simp only [Sem.run_bind, hst a rfl, Result.andThen_ok, Sem.run_pure]
  rcases hts.2 with h1 | ⟨u, d, h1, hu', hd⟩
  · simp only [Builtin.append_, hts.1, h1, g20, g21, Sem.run_bind, run_underlyingP hu, Result.andThen_ok, hsz, Sem.run_pure, Bool.false_eq_true, if_false, hlen, hle, if_true, Bool.not_false, hnew]
    exact fin
  · simp only [Builtin.append_, hts.1, h1, g20, g21, Sem.run_bind, run_underlyingP hu, run_underlyingP hu', Result.andThen_ok, hsz, Sem.run_pure]
    have hdf : (match d with | .int _ => true | _ => false) = false := by cases d <;> first | exact absurd rfl (hd _) | rfl
    simp only [hdf, Bool.false_eq_true, if_false, Sem.run_bind, Sem.run_pure, Result.andThen_ok, hlen, hle, if_true, Bool.not_false, hnew]
    exact fin
theorem run_append_out {ts : Array TypeId} {t ty es e m : Nat} {i : TypeInfo} {z : Value} (hts : ArgTs P ts t) (hu : underP P t = some (.slice e)) (hi : typeP P e = some i) (hes : es = i.size) (hiz : i.zero = some z) (hzs : z.cells.size = es) (hby : i.bytes ≤ 1000000)
    {base : Option Addr} {n cap : Nat} {xv : Value} {w : World} {new old : Array Value}
    (hlen : (Builtin.lenOf xv).run P w = .ok m w) (hnew : (Builtin.firstCells es m xv).run P { w with drawn := w.drawn + 1 } = .ok new { w with drawn := w.drawn + 1 }) (hold : (Builtin.firstCells es n (.slice base n cap)).run P { w with drawn := w.drawn + 1 } = .ok old { w with drawn := w.drawn + 1 })
    (hlt : cap < n + m) (hle : n + m ≤ 1000000) :
    ∃ newCap w', n + m ≤ newCap ∧ (Builtin.append_ ts ty #[.slice base n cap, xv]).run P w = .ok (.slice (some ⟨w.heap.size, 0, none⟩) (n + m) newCap) w' ∧
      (w'.heap = w.heap.push (.cells (old ++ new ++ Builtin.zeroCells z.cells (newCap - (n + m))) e) ∧ Still w w') := by
  have hsz : ∀ w, (sizeOf e).run P w = .ok es w := fun w => by rw [hes]; simp [sizeOf, run_typeInfoP hi]
  have hcap : ¬ (Builtin.nextslicecap (n + m) cap * i.bytes > 2 ^ 48) := by
    have h1 := nextslicecap_le hlt
    have h2 : Builtin.nextslicecap (n + m) cap * i.bytes ≤ 2000768 * 1000000 := Nat.mul_le_mul (by omega) hby
    omega
  have hmax : ¬ (((n + m : Nat) : Int) > IntKind.i64.max ∧ (False ∨ i.bytes = 0)) := by
    rintro ⟨h, _⟩
    rw [IntKind.max_i64] at h
    omega
  have hch : ∃ N, n + m ≤ N ∧ (choose (.appendCap (n + m) cap e)).run P w = .ok N { w with drawn := w.drawn + 1 } := by
    refine ⟨Question.cut (.appendCap (n + m) cap e) (w.tape w.drawn (.appendCap (n + m) cap e)), ?_, ?_⟩
    · simp only [Question.cut]; omega
    · simp [choose, Sem.run, Question.forced]
  obtain ⟨N, hN, hch⟩ := hch
  refine ⟨N, { w with heap := w.heap.push (.cells (old ++ new ++ Builtin.zeroCells z.cells (N - (n + m))) e), drawn := w.drawn + 1 }, hN, ?_, rfl, rfl, rfl, rfl⟩
  have hnle : ¬ (n + m ≤ cap) := by omega
  have hmax' : ¬ (((n + m : Nat) : Int) > IntKind.i64.max ∧ (false = true ∨ i.bytes = 0)) := fun h => hmax ⟨h.1, h.2.imp (by simp) id⟩
  have hmax'' : ¬ ((n : Int) + (m : Int) > IntKind.i64.max ∧ (false = true ∨ i.bytes = 0)) := by rw [← Int.natCast_add]; exact hmax'
  rcases hts.2 with h1 | ⟨u, d, h1, hu', hd⟩
  · simp only [Builtin.append_, hts.1, h1, g20, g21, Sem.run_bind, run_underlyingP hu, Result.andThen_ok, hsz, Sem.run_pure, Bool.false_eq_true, if_false, hlen, hnle, run_typeInfoP hi, Bool.not_false]
    rw [if_neg hmax]
    simp only [Sem.run_bind, run_typeInfoP hi, Result.andThen_ok, if_neg hcap, hch, askRoom_run, hold, if_true, hnew, run_zeroP hi hiz, newRow_run, Sem.run_pure]
  · simp only [Builtin.append_, hts.1, h1, g20, g21, Sem.run_bind, run_underlyingP hu, run_underlyingP hu', Result.andThen_ok, hsz, Sem.run_pure]
    have hdf : (match d with | .int _ => true | _ => false) = false := by cases d <;> first | exact absurd rfl (hd _) | rfl
    simp only [hdf, Bool.false_eq_true, if_false, Sem.run_bind, Sem.run_pure, Result.andThen_ok, hlen, hnle, if_true, Bool.not_false, run_typeInfoP hi]
    rw [if_neg hmax]
    simp only [Sem.run_bind, run_typeInfoP hi, Result.andThen_ok, if_neg hcap, hch, askRoom_run, hold, if_true, hnew, run_zeroP hi hiz, newRow_run, Sem.run_pure]
theorem HR.grow {γ : Gh} {h h' : H} {w w' : World} (hr : HR γ h w) {a N N' B Nb C Nc lw : Nat} {cs cs' : BV4} {c : Array Value} {T : TypeId} (ha : h.get a = some (.grow N cs lw)) (hg : γ a N = some (B, Nb)) (hN : N < N') (hn : h'.nx = h.nx)
    (hget : ∀ b, h'.get b = if b = a then some (.grow N' cs' lw) else h.get b) (hcs : ∀ j, j < N → cs'.get j = cs.get j) (hC : C = B ∨ w.heap.size ≤ C) (hwC : w'.heap[C]? = some (.cells c T (0, 0))) (hsz : c.size = Nc) (hle : N' ≤ Nc) (hcr : CellsR γ cs' N' c)
    (hD : ∀ D, D < w.heap.size → D ≠ B → w'.heap[D]? = w.heap[D]?) (hB : ∀ c T, w.heap[B]? = some (.cells c T (0, 0)) → ∃ c', w'.heap[B]? = some (.cells c' T (0, 0)) ∧ c'.size = c.size ∧ ∀ i, i < N → c'[i]? = c[i]?) (hwsz : w.heap.size ≤ w'.heap.size) (hst : Still w w' := by exact ⟨rfl, rfl, rfl⟩) :
    HR (γ.put a N' C Nc) h' w' ∧ Ext γ h w (γ.put a N' C Nc) h' w' := by
  have hold : ∀ a v' B N', γ a v' = some (B, N') → B < w.heap.size := fun a v' B N' e => by
    obtain ⟨_, o', _, h2, _⟩ := hr.ob a v' B N' e
    exact (Array.getElem?_eq_some_iff.1 h2).1
  have hvers : ∀ v' C N1, γ a v' = some (C, N1) → v' ≤ N := fun v' C N1 e => by
    obtain ⟨ob, o, h1, _, h3⟩ := hr.ob _ _ _ _ e
    rw [ha] at h1; cases h1
    exact h3.1
  have hno : γ a N' = none := by
    cases e : γ a N' with
    | none => rfl
    | some x => have := hvers N' x.1 x.2 e; omega
  have hmono := Gh.le_put (γ := γ) (a := a) (v := N') (B := C) (N := Nc) hno
  refine ⟨⟨fun b v D M e => ?_, fun b v D M b' v' M' e1 e2 => ?_, fun b v x e => ?_, fun b ob' e => ?_, fun D o' hb => ?_⟩, ⟨hmono, fun b v D M e => ?_, by omega, fun b hb hno' => ?_, fun D hD' hno' => ?_, hwsz, hst⟩⟩
  · rcases Gh.put_some e with ⟨rfl, rfl, e'⟩ | ⟨e', hne⟩
    · cases e'
      refine ⟨.grow v cs' lw, .cells c T (0, 0), by rw [hget, if_pos rfl], hwC, Nat.le_refl _, ?_, c, T, rfl, hsz, hle, fun _ => hcr.mono hmono⟩
      obtain ⟨ob, o, h1, _, h3⟩ := hr.ob _ _ _ _ hg
      rw [ha] at h1; cases h1
      have := h3.2.1; omega
    · obtain ⟨ob, o, h1, h2, h3⟩ := hr.ob _ _ _ _ e'
      by_cases hba : b = a
      · subst hba
        rw [ha] at h1; cases h1
        obtain ⟨q1, q2, c0, T0, rfl, q3, q4, q5⟩ := h3
        have hD0 : ∃ c1, w'.heap[D]? = some (.cells c1 T0 (0, 0)) ∧ c1.size = c0.size ∧ ∀ i, i < N → c1[i]? = c0[i]? := by
          by_cases hDB : D = B
          · subst hDB; exact hB c0 T0 h2
          · exact ⟨c0, by rw [hD D (hold _ _ _ _ e') hDB]; exact h2, rfl, fun _ _ => rfl⟩
        obtain ⟨c1, r1, r2, r3⟩ := hD0
        refine ⟨.grow N' cs' lw, .cells c1 T0 (0, 0), by rw [hget, if_pos rfl], r1, by omega, by omega, c1, T0, rfl, by omega, q4, fun hlw i hi => ?_⟩
        obtain ⟨x, u, s1, s2, s3, s4⟩ := q5 hlw i hi
        exact ⟨x, u, by rw [hcs i (by omega)]; exact s1, by rw [r3 i (by omega)]; exact s2, s3, s4.mono hmono⟩
      · have hDB : D ≠ B := fun hh => hba (hr.inj _ _ _ _ _ _ _ e' (hh ▸ hg))
        exact ⟨ob, o, by rw [hget, if_neg hba]; exact h1, by rw [hD D (hold _ _ _ _ e') hDB]; exact h2, h3.mono hmono⟩
  · have key : ∀ b v M, γ b v = some (C, M) → b = a := fun b v M e => by
      rcases hC with rfl | hC
      · exact hr.inj _ _ _ _ _ _ _ e hg
      · have := hold _ _ _ _ e; omega
    rcases Gh.put_some e1 with ⟨rfl, _, e1'⟩ | ⟨e1', _⟩ <;> rcases Gh.put_some e2 with ⟨rfl, _, e2'⟩ | ⟨e2', _⟩
    · rfl
    · cases e1'; exact (key _ _ _ e2').symm
    · cases e2'; exact key _ _ _ e1'
    · exact hr.inj _ _ _ _ _ _ _ e1' e2'
  · rcases Gh.put_some e with ⟨rfl, _, _⟩ | ⟨e', _⟩
    · have := hr.lt _ _ _ hg; omega
    · have := hr.lt _ _ _ e'; omega
  · rw [hget] at e
    split at e
    · rename_i hba; rw [hn, hba]; exact hr.lt _ _ _ hg
    · rw [hn]; exact hr.wf _ _ e
  · obtain ⟨h1, h2⟩ := hr.base D o' hb
    have hlt : D < w.heap.size := (Array.getElem?_eq_some_iff.1 h1).1
    have hDB : D ≠ B := fun hh => h2 a N Nb (hh ▸ hg)
    refine ⟨by rw [hD D hlt hDB]; exact h1, fun b v M e => ?_⟩
    rcases Gh.put_some e with ⟨_, _, e'⟩ | ⟨e', _⟩
    · cases e'
      rcases hC with hh | hh
      · exact hDB hh
      · omega
    · exact h2 _ _ _ e'
  · rcases Gh.put_some e with ⟨rfl, _, e'⟩ | ⟨e', _⟩
    · cases e'
      rcases hC with rfl | hC
      · exact .inl ⟨_, _, hg⟩
      · exact .inr hC
    · exact .inl ⟨_, _, e'⟩
  · have hba : b ≠ a := fun hh => by rw [hh] at hno'; rw [hno'] at hg; cases hg
    refine ⟨by rw [hget, if_neg hba], fun v => ?_⟩
    unfold Gh.put
    rw [if_neg (by rintro ⟨h, _⟩; exact hba h), hno']
  · exact hD D hD' fun hh => hno' a N Nb (hh ▸ hg)
end Go.AB
namespace Go.AB
variable [Base]
variable {rv : AV} {rh : H} {P : Program}

theorem first_ok {γ : Gh} {h : H} {w : World} (hr : HR γ h w) {a v o n es c : Nat} {l : List AV} {sv : Value} (hv : VR γ (.sl a v o n es c) sv) (hrow : RowAt h a v o l) (hlen : l.length = n * es) :
    ∃ cv : Array Value, (Builtin.firstCells es n sv).run P w = .ok cv w ∧ VRL γ l cv.toList ∧ ∀ y ∈ l, cellA y = true := by
  simp only [VR] at hv
  obtain ⟨B, N, cap, hg, oo, rfl, hoo, hes, hnc, hN, hc0, hc1⟩ := hv
  obtain ⟨vals, q1, q2, q3, q4⟩ := hrow.read hr hg
  refine ⟨vals.toArray, ?_, by simpa using q3, q4⟩
  rcases Nat.eq_zero_or_pos n with rfl | hpos
  · have : vals = [] := by
      apply List.eq_nil_of_length_eq_zero; omega
    subst this
    simp [Builtin.firstCells, loadCells, loadCellsFrom]
  · obtain rfl : oo = o := hoo (by omega)
    have hl := run_loadCells_list (P := P) w ⟨B, oo, none⟩ vals (fun j u hu => by rw [Addr.add_mid]; exact q1 j u hu)
    rw [q2, hlen] at hl
    simpa [Builtin.firstCells] using hl
theorem appNew_ok {es n : Nat} {l : List AV} {h : H} {K : KV} (e : appNew es n l h K = .ok rv rh) :
    ∃ t h', K (.sl h.nx (n * es) 0 n es 0) h' = .ok rv rh ∧ h'.nx = h.nx + 1 ∧ (∀ a, h'.get a = if a = h.nx then some (.grow (n * es) t 0) else h.get a) ∧ ∀ j, j < l.length → t.get j = l[j]? := by
  obtain ⟨t, e1, ht⟩ := putCells_ok l 0 .e _ (show putCells l Nat.zero .e _ = .ok rv rh from e)
  rw [forceN_eq] at e1
  obtain ⟨h', e2, hn, hg⟩ := H.newK_ok e1
  exact ⟨t, h', e2, hn, hg, fun j hj => by rw [ht, if_pos ⟨Nat.zero_le _, by omega⟩]; rfl⟩
/-- A slice grown into a new block. -/
theorem HR.newGrow {γ : Gh} {h h' : H} {w w' : World} (hr : HR γ h w) {n es cap : Nat} {l : List AV} {vals : List Value} {t : BV4} {c : Array Value} {e : TypeId} (hn : h'.nx = h.nx + 1) (hget : ∀ a, h'.get a = if a = h.nx then some (.grow (n * es) t 0) else h.get a)
    (ht : ∀ j, j < l.length → t.get j = l[j]?) (hl : VRL γ l vals) (hc : ∀ y ∈ l, cellA y = true) (hlen : l.length = n * es) (hes : 0 < es) (hw : w'.heap = w.heap.push (.cells c e)) (hst : Still w w') (hsz : c.size = cap * es) (hle : n ≤ cap) (hcv : ∀ i, i < l.length → c[i]? = vals[i]?) :
    ∃ γ', VR γ' (.sl h.nx (n * es) 0 n es 0) (.slice (some ⟨w.heap.size, 0, none⟩) n cap) ∧ Ext γ h w γ' h' w' ∧ HR γ' h' w' := by
  have hle' : n * es ≤ cap * es := Nat.mul_le_mul_right es hle
  have hno : γ h.nx (n * es) = none := by
    cases q : γ h.nx (n * es) with
    | none => rfl
    | some x => exact absurd (hr.lt _ _ _ q) (Nat.lt_irrefl _)
  have hmono := Gh.le_put (γ := γ) (a := h.nx) (v := n * es) (B := w.heap.size) (N := cap * es) hno
  have hob : ObR (γ.put h.nx (n * es) w.heap.size (cap * es)) (n * es) (cap * es) (.cells c e) (.grow (n * es) t 0) := by
    refine ⟨Nat.le_refl _, Nat.zero_le _, c, e, rfl, hsz, hle', fun _ i hi => ?_⟩
    have hi' : i < l.length := by omega
    obtain ⟨u, h1, h2⟩ := hl.get (List.getElem?_eq_getElem hi')
    exact ⟨l[i], u, by rw [ht i hi', List.getElem?_eq_getElem hi'], by rw [hcv i hi', h1], hc _ (List.getElem_mem hi'), h2.mono hmono⟩
  obtain ⟨h1, h2⟩ := hr.new hn hget hw hob hst
  refine ⟨_, ?_, h2, h1⟩
  simp only [VR]
  exact ⟨w.heap.size, cap * es, cap, Gh.put_same, 0, rfl, fun _ => rfl, hes, hle, by omega, fun _ => by omega, fun h => absurd rfl h⟩
theorem getElem?_append3 {x y z : Array Value} {i : Nat} (h : i < x.size + y.size) : (x ++ y ++ z)[i]? = (x.toList ++ y.toList)[i]? := by
  rw [Array.getElem?_append_left (by simpa using h), ← Array.getElem?_toList, Array.toList_append]
theorem append_ok {t : TypeId} {s x : AV} {h : H} {K : KV} (e : appendA P t s x h K = .ok rv rh) :
    ∃ val h', K val h' = .ok rv rh ∧ ∀ V (c : Call) s' x', c.callee = .builtin .append → c.args.toList = [s', x'] → ArgTs P c.argTypes t → V s' s → V x' x → SpecAct P (.call c) V h val h' := by
  obtain ⟨es, hap, e1⟩ := BAp.run_ok (show (appBA P t).run _ = .ok rv rh from e)
  obtain ⟨el, i, z, zl, hu, hi, hiz, hesi, hes1, hby, hesl, hzr, hzs⟩ := appBA_ok hap
  obtain ⟨m, new, e2, hsrc⟩ := source_ok (P := P) e1
  have wrap : ∀ val (h' : H), (∀ γ w (sv xv : Value) ts ty, HR γ h w → VR γ s sv → VR γ x xv → ArgTs P ts t → ∃ w' γ' r, (Builtin.append_ ts ty #[sv, xv]).run P w = .ok r w' ∧ VR γ' val r ∧ Ext γ h w γ' h' w' ∧ HR γ' h' w') →
      ∀ V (c : Call) s' x', c.callee = .builtin .append → c.args.toList = [s', x'] → ArgTs P c.argTypes t → V s' s → V x' x → SpecAct P (.call c) V h val h' := by
    intro val h' hh V c s' x' hc hargs ht hs hx
    refine SpecAct_builtin hc fun γ ac w ty cs hop hr => ?_
    obtain ⟨w', γ', r, q1, q2⟩ := hh γ w _ _ c.argTypes ty hr (opd_builtin hop (x := s') (by rw [hargs]; simp) hs) (opd_builtin hop (x := x') (by rw [hargs]; simp) hx) ht
    refine ⟨w', γ', r, ?_, q2⟩
    rw [args2 hargs]
    simp only [builtin, Sem.run_bind, q1, Result.andThen_ok, Sem.run_pure]
  -- into a new block
  have out : ∀ (n cap : Nat) (base : Option Addr) (old : List AV) (K' : KV), appNew es (n + m) (old ++ new) h K' = .ok rv rh → n + m ≤ 1000000 →
      ∃ val h', K' val h' = .ok rv rh ∧ ∀ γ w (xv : Value) ts ty, HR γ h w → VR γ x xv → ArgTs P ts t → old.length = n * es →
        ∀ cap base, cap < n + m → (∀ w', HR γ h w' → ∃ cv : Array Value, (Builtin.firstCells es n (.slice base n cap)).run P w' = .ok cv w' ∧ VRL γ old cv.toList ∧ ∀ y ∈ old, cellA y = true) →
        ∃ w' γ' r, (Builtin.append_ ts ty #[.slice base n cap, xv]).run P w = .ok r w' ∧ VR γ' val r ∧ Ext γ h w γ' h' w' ∧ HR γ' h' w' := by
    intro n _ _ old K' e3 hle
    obtain ⟨t', h', e4, hn, hget, ht'⟩ := appNew_ok e3
    refine ⟨_, h', e4, fun γ w xv ts ty hr hx hts holdl cap base hlt hfirst => ?_⟩
    have hr1 : HR γ h { w with drawn := w.drawn + 1 } := ⟨hr.ob, hr.inj, hr.lt, hr.wf, hr.base⟩
    obtain ⟨hnl, hln, hsc⟩ := hsrc γ w xv hr hx
    obtain ⟨_, _, hsc1⟩ := hsrc γ { w with drawn := w.drawn + 1 } xv hr1 hx
    obtain ⟨nv, k1, k2, k3⟩ := hsc1 m (Nat.le_refl _)
    obtain ⟨ov, k4, k5, k6⟩ := hfirst _ hr1
    rw [← hnl, List.take_length] at k2 k3
    obtain ⟨newCap, w', k7, k8, k9, k10⟩ := run_append_out (ty := ty) hts hu hi hesi hiz hzs hby hln k1 k4 hlt hle
    have hvl : VRL γ (old ++ new) (ov.toList ++ nv.toList) := k5.append k2
    have hal : (old ++ new).length = (n + m) * es := by rw [List.length_append, holdl, hnl, Nat.add_mul]
    have hovs : ov.size + nv.size = (n + m) * es := by
      have := hvl.length; rw [hal] at this; simpa using this.symm
    obtain ⟨γ', g1, g2, g3⟩ := hr.newGrow (w' := w') (cap := newCap) (c := ov ++ nv ++ Builtin.zeroCells z.cells (newCap - (n + m))) (e := el) hn hget ht' hvl
      (fun y hy => by rcases List.mem_append.1 hy with hy | hy; exact k6 y hy; exact k3 y hy) hal hes1 k9 k10
      (by simp only [Array.size_append, zeroCells_size, hzs]; rw [hovs, ← Nat.add_mul]; congr 1; omega) k7
      (fun i hi => getElem?_append3 (by rw [hovs, ← hal]; exact hi))
    exact ⟨w', γ', _, k8, g1, g2, g3⟩
  split at e2
  · -- onto nil
    rw [ifK_eq] at e2
    split at e2
    · rename_i hm
      obtain rfl : m = 0 := Nat.eq_of_beq_eq_true hm
      refine ⟨_, h, e2, wrap _ h fun γ w sv xv ts ty hr hs hx hts => ?_⟩
      simp only [VR] at hs; subst hs
      obtain ⟨hnl, hln, hsc⟩ := hsrc γ w xv hr hx
      obtain ⟨nv, k1, k2, k3⟩ := hsc 0 (Nat.le_refl _)
      have := run_append_in (ty := ty) (base := none) (n := 0) (cap := 0) (w' := w) hts hu hi hesi hln k1 (by omega) (fun a h => by cases h) (fun _ => rfl)
      exact ⟨w, γ, _, this, by simp [VR], Ext.refl γ h w, hr⟩
    · rename_i hm
      rw [ifK_eq] at e2
      split at e2
      · rename_i hle
        have hle := Nat.le_of_ble_eq_true hle
        have hm' : m ≠ 0 := fun hh => hm (by rw [hh]; rfl)
        obtain ⟨val, h', e4, hh⟩ := out 0 0 none [] K (by simpa using e2) (by omega)
        refine ⟨val, h', e4, wrap _ h' fun γ w sv xv ts ty hr hs hx hts => ?_⟩
        simp only [VR] at hs; subst hs
        exact hh γ w xv ts ty hr hx hts (by simp) 0 none (by omega) fun w' _ => ⟨#[], rfl, by simp, by simp⟩
      · cases e2
  · rename_i a v o n es2 c
    rw [ifK_eq] at e2
    split at e2
    · rename_i hes2
      obtain rfl : es2 = es := Nat.eq_of_beq_eq_true hes2
      rw [ifK_eq] at e2
      split at e2
      · rename_i hm
        obtain rfl : m = 0 := Nat.eq_of_beq_eq_true hm
        refine ⟨_, h, e2, wrap _ h fun γ w sv xv ts ty hr hs hx hts => ?_⟩
        have hs' := hs
        simp only [VR] at hs
        obtain ⟨B, N, cap, hg, oo, rfl, hoo, hes, hnc, hN, hc0, hc1⟩ := hs
        obtain ⟨hnl, hln, hsc⟩ := hsrc γ w xv hr hx
        obtain ⟨nv, k1, k2, k3⟩ := hsc 0 (Nat.le_refl _)
        have hnv : nv.toList = [] := by simp at k2; simp [k2]
        have := run_append_in (ty := ty) (base := some ⟨B, oo, none⟩) (n := n) (cap := cap) (w' := w) hts hu hi hesi hln k1 (by omega) (fun a h => by cases h; rw [hnv]; rfl) (fun h => by cases h)
        exact ⟨w, γ, _, this, hs', Ext.refl γ h w, hr⟩
      · rename_i hm
        have hm' : m ≠ 0 := fun hh => hm (by rw [hh]; rfl)
        rw [forceN_eq, ifK_eq] at e2
        split at e2
        · rename_i hle
          have hle : n + m ≤ 1000000 := Nat.le_of_ble_eq_true hle
          have hnm : Nat.add n m = n + m := rfl
          rw [hnm] at e2
          obtain ⟨ob, ho, e3⟩ := H.getK_ok e2
          -- in place
          have inp : ∀ (ob' : AO) (h' : H), Wr v (o + n * es2) (m * es2) new ob ob' → h'.nx = h.nx → (∀ b, h'.get b = if b = a then some ob' else h.get b) → (∀ γ w N B cap, HR γ h w → γ a v = some (B, N) → o + cap * es2 ≤ N → (c = 0 → o + cap * es2 = N) → (c ≠ 0 → c = cap + 1) → n + m ≤ cap) →
              ∀ γ w (sv xv : Value) ts ty, HR γ h w → VR γ (.sl a v o n es2 c) sv → VR γ x xv → ArgTs P ts t → ∃ w' γ' r, (Builtin.append_ ts ty #[sv, xv]).run P w = .ok r w' ∧ VR γ' (.sl a v o (n + m) es2 c) r ∧ Ext γ h w γ' h' w' ∧ HR γ' h' w' := by
            intro ob' h' hw hn hget hcap γ w sv xv ts ty hr hs hx hts
            simp only [VR] at hs
            obtain ⟨B, N, cap, hg, oo, rfl, hoo, hes, hnc, hN, hc0, hc1⟩ := hs
            have hcp := hcap γ w N B cap hr hg hN hc0 hc1
            obtain rfl : oo = o := hoo (by omega)
            obtain ⟨hnl, hln, hsc⟩ := hsrc γ w xv hr hx
            obtain ⟨nv, k1, k2, k3⟩ := hsc m (Nat.le_refl _)
            rw [← hnl, List.take_length] at k2 k3
            rw [← hnl] at hw
            obtain ⟨j1, j2, j3⟩ := hw.run hr hg ho k2 k3 hn hget
            have hst := run_storeCells_cells (P := P) B (oo + n * es2) nv.toList 0 w (fun j hj => by simpa using (j1 j hj).1) (fun j hj => by simpa using (j1 j hj).2) (VRL_oneCell k2 k3)
            simp only [Nat.add_zero] at hst
            have := run_append_in (ty := ty) (base := some ⟨B, oo, none⟩) (n := n) (cap := cap) (w' := w.setCells B (oo + n * es2) nv.toList) hts hu hi hesi hln k1 hcp (fun a h => by cases h; rw [Addr.add_mid]; exact hst) (fun h => by cases h)
            refine ⟨_, γ, _, this, ?_, j3, j2⟩
            simp only [VR]
            exact ⟨B, N, cap, hg, oo, rfl, fun _ => rfl, hes, hcp, hN, hc0, hc1⟩
          rcases row_ok e3 with ⟨N, cs, rfl, e4⟩ | ⟨N, cs, lw, rfl, e4⟩
          · unfold appBlk at e4
            rw [ifK_eq] at e4
            have hroom : ∀ cap, (c = 0 → o + cap * es2 = N) → (c ≠ 0 → c = cap + 1) → roomOf N o es2 c = o + cap * es2 := by
              intro cap h0 h1
              cases c with
              | zero => exact (h0 rfl).symm
              | succ k => obtain rfl : k = cap := by have := h1 (by omega); omega
                          rfl
            have hblk : ∀ γ w B Nb, HR γ h w → γ a v = some (B, Nb) → Nb = N := by
              intro γ w B Nb hr hg
              obtain ⟨ob2, o2, x1, x2, x3⟩ := hr.ob _ _ _ _ hg
              rw [ho] at x1; cases x1
              exact x3.2.1
            split at e4
            · rename_i hin
              have hin : o + (n + m) * es2 ≤ roomOf N o es2 c := Nat.le_of_ble_eq_true hin
              obtain ⟨cs', e5, hcs⟩ := putCells_ok _ _ _ _ e4
              obtain ⟨h', e6, hn, hget⟩ := H.putK_ok e5
              by_cases hx0 : o + (n + m) * es2 ≤ N
              · refine ⟨_, h', e6, wrap _ h' (inp _ h' (.blk (by rw [Nat.add_mul] at hx0; omega) hcs) hn hget fun γ w N' B cap hr hg hN hc0 hc1 => ?_)⟩
                have hNN := hblk γ w B N' hr hg
                rw [hroom cap (fun h => by rw [← hNN]; exact hc0 h) hc1] at hin
                exact Nat.le_of_mul_le_mul_right (by omega) hes1
              · refine ⟨_, h', e6, wrap _ h' fun γ w sv xv ts ty hr hs hx hts => ?_⟩
                exfalso
                simp only [VR] at hs
                obtain ⟨B, N', cap, hg, oo, rfl, hoo, hes, hnc, hN, hc0, hc1⟩ := hs
                have hNN := hblk γ w B N' hr hg
                rw [hroom cap (fun h => by rw [← hNN]; exact hc0 h) hc1] at hin
                omega
            · rename_i hin
              have hin : ¬ (o + (n + m) * es2 ≤ roomOf N o es2 c) := fun hh => hin (Nat.ble_eq_true_of_le hh)
              obtain ⟨l, e5, hll, hlg⟩ := getCells_ok _ _ _ _ _ e4
              rw [List.append_nil, app2_eq] at e5
              have hll : l.length = n * es2 := hll
              obtain ⟨val, h', e6, hh⟩ := out n 0 none l K e5 hle
              refine ⟨val, h', e6, wrap _ h' fun γ w sv xv ts ty hr hs hx hts => ?_⟩
              have hs' := hs
              simp only [VR] at hs
              obtain ⟨B, N', cap, hg, oo, rfl, hoo, hes, hnc, hN, hc0, hc1⟩ := hs
              have hNN := hblk γ w B N' hr hg
              rw [hroom cap (fun h => by rw [← hNN]; exact hc0 h) hc1] at hin
              have hlt : cap < n + m := by
                rcases Nat.lt_or_ge cap (n + m) with h | h
                · exact h
                · exact absurd (Nat.add_le_add_left (Nat.mul_le_mul_right es2 h) o) hin
              have hnle : n * es2 ≤ cap * es2 := Nat.mul_le_mul_right es2 hnc
              exact hh γ w xv ts ty hr hx hts hll cap _ hlt fun w' hr' => first_ok hr' hs' ⟨_, ho, .inl ⟨N, cs, rfl, by omega, fun i hi => hlg i (by rw [hll] at hi; exact hi)⟩⟩ hll
          · cases c with
            | zero =>
              replace e4 : ifK (Nat.beq v N) (ifK (Nat.ble (Nat.add o (Nat.mul (n + m) es2)) N)
                  (putCells new (Nat.add o (Nat.mul n es2)) cs fun cs' => h.putK a (.grow N cs' N) fun h' => K (.sl a v o (n + m) es2 Nat.zero) h')
                  (ifK (andB (Nat.beq o Nat.zero) (Nat.beq (Nat.mul n es2) N))
                    (putCells new N cs fun cs' => forceN (Nat.mul (n + m) es2) fun N' => h.putK a (.grow N' cs' lw) fun h' => K (.sl a N' Nat.zero (n + m) es2 Nat.zero) h')
                    (.err 67))) (.err 68) = .ok rv rh := e4
              simp only [ifK_eq, andB_eq, forceN_eq] at e4
              split at e4
              · rename_i hv
                obtain rfl : v = N := Nat.eq_of_beq_eq_true hv
                split at e4
                · rename_i hin
                  have hin : o + (n + m) * es2 ≤ v := Nat.le_of_ble_eq_true hin
                  obtain ⟨cs', e5, hcs⟩ := putCells_ok _ _ _ _ e4
                  obtain ⟨h', e6, hn, hget⟩ := H.putK_ok e5
                  refine ⟨_, h', e6, wrap _ h' (inp _ h' (.grow rfl (by rw [Nat.add_mul] at hin; omega) hcs) hn hget fun γ w N' B cap hr hg hN hc0 hc1 => ?_)⟩
                  obtain ⟨ob2, o2, x1, x2, x3⟩ := hr.ob _ _ _ _ hg
                  rw [ho] at x1; cases x1
                  obtain ⟨_, _, _, _, _, _, y3, _⟩ := x3
                  have := hc0 rfl
                  exact Nat.le_of_mul_le_mul_right (by omega) hes1
                · rename_i hin
                  have hin : ¬ (o + (n + m) * es2 ≤ v) := fun hh => hin (Nat.ble_eq_true_of_le hh)
                  split at e4
                  · rename_i htip
                    rw [Bool.and_eq_true] at htip
                    obtain rfl : o = 0 := Nat.eq_of_beq_eq_true htip.1
                    have htip2 : n * es2 = v := Nat.eq_of_beq_eq_true htip.2
                    obtain ⟨cs', e5, hcs⟩ := putCells_ok _ _ _ _ e4
                    obtain ⟨h', e6, hn, hget⟩ := H.putK_ok e5
                    refine ⟨_, h', e6, wrap _ h' fun γ w sv xv ts ty hr hs hx hts => ?_⟩
                    have hs' := hs
                    simp only [VR] at hs
                    obtain ⟨B, Nb, cap, hg, oo, rfl, hoo, hes, hnc, hN, hc0, hc1⟩ := hs
                    have hc0 := hc0 trivial
                    obtain ⟨ob2, o2, x1, x2, x3⟩ := hr.ob _ _ _ _ hg
                    rw [ho] at x1; cases x1
                    obtain ⟨y0, ylw, cB, TB, rfl, y2, y3, y4⟩ := x3
                    obtain ⟨hnl, hln, hsc⟩ := hsrc γ w xv hr hx
                    have hvlt : v < (n + m) * es2 := by
                      rw [Nat.add_mul, htip2]
                      have : 0 < m * es2 := Nat.mul_pos (by omega) hes
                      omega
                    have hNle : Nat.mul (n + m) es2 = (n + m) * es2 := rfl
                    have hcs0 : ∀ j, j < v → cs'.get j = cs.get j := fun j hj => by rw [hcs, if_neg (by omega)]
                    by_cases hfit : n + m ≤ cap
                    · -- the block has room
                      obtain rfl : oo = 0 := hoo (by omega)
                      obtain ⟨nv, k1, k2, k3⟩ := hsc m (Nat.le_refl _)
                      rw [← hnl, List.take_length] at k2 k3
                      have hnvl : nv.toList.length = m * es2 := by rw [← k2.length, hnl]
                      have hfit' : (n + m) * es2 ≤ cap * es2 := Nat.mul_le_mul_right es2 hfit
                      have hbound : v + nv.toList.length ≤ cB.size := by rw [hnvl, ← htip2, ← Nat.add_mul]; omega
                      obtain ⟨c', s1, s2, s3, s4, s5⟩ := setCells_heap nv.toList v w cB x2 hbound
                      have hth : ∀ j, j < nv.toList.length → (w.cell? ⟨B, v + j, none⟩).isSome = true ∧ w.frozen? ⟨B, v + j, none⟩ = false := fun j hj => by
                        have hlt : v + j < cB.size := by omega
                        exact ⟨by simp [World.cell?, x2, hlt], by simp [World.frozen?, x2]⟩
                      have hst := run_storeCells_cells (P := P) B v nv.toList 0 w (fun j hj => by simpa using (hth j hj).1) (fun j hj => by simpa using (hth j hj).2) (VRL_oneCell k2 k3)
                      simp only [Nat.add_zero] at hst
                      have hrun := run_append_in (ty := ty) (base := some ⟨B, 0, none⟩) (n := n) (cap := cap) (w' := w.setCells B v nv.toList) hts hu hi hesi hln k1 hfit (fun a h => by cases h; rw [Addr.add_mid, Nat.zero_add, htip2]; exact hst) (fun h => by cases h)
                      have hcr : CellsR γ cs' ((n + m) * es2) c' := by
                        intro i hi
                        by_cases hiv : i < v
                        · obtain ⟨x, u, t1, t2, t3, t4⟩ := y4 ylw i hiv
                          exact ⟨x, u, by rw [hcs0 i hiv]; exact t1, by rw [s3, if_neg (by omega)]; exact t2, t3, t4⟩
                        · have hlt : i - v < new.length := by rw [hnl]; rw [Nat.add_mul, htip2] at hi; omega
                          obtain ⟨u, t1, t2⟩ := k2.get (List.getElem?_eq_getElem hlt)
                          have hlt2 : i - v < nv.toList.length := (List.getElem?_eq_some_iff.1 t1).1
                          refine ⟨new[i - v], u, ?_, ?_, k3 _ (List.getElem_mem hlt), t2⟩
                          · rw [hcs, if_pos (by omega), List.getElem?_eq_getElem hlt]
                          · rw [s3, if_pos (by omega), t1]
                      obtain ⟨g1, g2⟩ := hr.grow (w' := w.setCells B v nv.toList) (C := B) (Nc := Nb) ho hg hvlt hn hget hcs0 (.inl rfl) s1 (by omega) (by omega) hcr (fun D _ hD => s5 D hD)
                        (fun c0 T0 hc0 => by rw [x2] at hc0; cases hc0; exact ⟨c', s1, s2, fun i hi => by rw [s3, if_neg (by omega)]⟩) (by omega) (still_setCells _ _ _ _)
                      refine ⟨_, _, _, hrun, ?_, g2, g1⟩
                      simp only [VR]
                      exact ⟨B, Nb, cap, Gh.put_same, 0, rfl, fun _ => rfl, hes, hfit, by omega, fun _ => by simpa using hc0, fun h => absurd rfl h⟩
                    · -- a new block
                      have hr1 : HR γ h { w with drawn := w.drawn + 1 } := ⟨hr.ob, hr.inj, hr.lt, hr.wf, hr.base⟩
                      obtain ⟨_, _, hsc1⟩ := hsrc γ { w with drawn := w.drawn + 1 } xv hr1 hx
                      obtain ⟨nv, k1, k2, k3⟩ := hsc1 m (Nat.le_refl _)
                      rw [← hnl, List.take_length] at k2 k3
                      have hgets : ∀ i, i < v → ∃ y, cs.get i = some y := fun i hi => by
                        obtain ⟨x, u, t1, _⟩ := y4 ylw i hi; exact ⟨x, t1⟩
                      obtain ⟨ol, ho1, ho2⟩ : ∃ ol : List AV, ol.length = v ∧ ∀ i, i < v → cs.get i = ol[i]? := by
                        refine ⟨(List.range v).map fun i => (cs.get i).getD und, by simp, fun i hi => ?_⟩
                        obtain ⟨y, hy⟩ := hgets i hi
                        simp [hi, hy]
                      obtain ⟨ov, k4, k5, k6⟩ := first_ok (P := P) hr1 hs' (l := ol) ⟨_, ho, .inr ⟨v, cs, lw, rfl, ylw, Nat.le_refl _, by omega, fun i hi => by rw [Nat.zero_add]; exact ho2 i (by omega)⟩⟩ (by rw [ho1, htip2])
                      obtain ⟨newCap, w', k7, k8, k9, k10⟩ := run_append_out (ty := ty) hts hu hi hesi hiz hzs hby hln k1 k4 (by omega) hle
                      have hvl : VRL γ (ol ++ new) (ov.toList ++ nv.toList) := k5.append k2
                      have hal : (ol ++ new).length = (n + m) * es2 := by rw [List.length_append, ho1, hnl, Nat.add_mul, htip2]
                      have hovs : ov.size + nv.size = (n + m) * es2 := by
                        have := hvl.length; rw [hal] at this; simpa using this.symm
                      have hsz : (ov ++ nv ++ Builtin.zeroCells z.cells (newCap - (n + m))).size = newCap * es2 := by
                        simp only [Array.size_append, zeroCells_size, hzs]; rw [hovs, ← Nat.add_mul]; congr 1; omega
                      have hcr : CellsR γ cs' ((n + m) * es2) (ov ++ nv ++ Builtin.zeroCells z.cells (newCap - (n + m))) := by
                        intro i hi
                        have hi' : i < (ol ++ new).length := by omega
                        obtain ⟨u, t1, t2⟩ := hvl.get (List.getElem?_eq_getElem hi')
                        refine ⟨(ol ++ new)[i], u, ?_, by rw [getElem?_append3 (by omega), t1], ?_, t2⟩
                        · by_cases hiv : i < v
                          · rw [hcs0 i hiv, ho2 i hiv, ← List.getElem?_eq_getElem hi', List.getElem?_append_left (by omega)]
                          · rw [hcs, if_pos (by rw [hnl]; rw [Nat.add_mul, htip2] at hi; omega), ← List.getElem?_eq_getElem hi', List.getElem?_append_right (by omega), ho1]
                        · rcases List.mem_append.1 (List.getElem_mem hi') with hy | hy
                          · exact k6 _ hy
                          · exact k3 _ hy
                      have hwC : w'.heap[w.heap.size]? = some (.cells (ov ++ nv ++ Builtin.zeroCells z.cells (newCap - (n + m))) el (0, 0)) := by rw [k9]; simp
                      have hBlt : B < w.heap.size := (Array.getElem?_eq_some_iff.1 x2).1
                      have hkeep : ∀ D, D < w.heap.size → w'.heap[D]? = w.heap[D]? := fun D hD => by rw [k9, Array.getElem?_push_lt hD, ← Array.getElem?_eq_getElem hD]
                      obtain ⟨g1, g2⟩ := hr.grow (w' := w') (C := w.heap.size) (Nc := newCap * es2) ho hg hvlt hn hget hcs0 (.inr (Nat.le_refl _)) hwC hsz (Nat.mul_le_mul_right es2 k7) hcr (fun D hD _ => hkeep D hD)
                        (fun c0 T0 hc0 => ⟨c0, by rw [hkeep B hBlt]; exact hc0, rfl, fun _ _ => rfl⟩) (by rw [k9]; simp) ⟨k10.os, k10.tape, k10.output⟩
                      refine ⟨_, _, _, k8, ?_, g2, g1⟩
                      simp only [VR]
                      exact ⟨w.heap.size, newCap * es2, newCap, Gh.put_same, 0, rfl, fun _ => rfl, hes, k7, Nat.le_of_eq (Nat.zero_add _), fun _ => Nat.zero_add _, fun h => absurd rfl h⟩
                  · cases e4
              · cases e4
            | succ k =>
              replace e4 : ifK (Nat.ble (n + m) k) (.err 69) (ifK (andB (verOk lw v N) (Nat.ble (Nat.add o (Nat.mul n es2)) v))
                (getCells (Nat.mul n es2) cs o [] fun old => app2 old new fun l => appNew es2 (n + m) l h K) (.err 70)) = .ok rv rh := e4
              simp only [ifK_eq, andB_eq, verOk] at e4
              split at e4
              · cases e4
              · rename_i hk
                have hk : ¬ (n + m ≤ k) := fun hh => hk (Nat.ble_eq_true_of_le hh)
                split at e4
                · rename_i hb
                  simp only [Bool.and_eq_true] at hb
                  obtain ⟨⟨b1, b2⟩, b3⟩ := hb
                  have b1 := Nat.le_of_ble_eq_true b1
                  have b2 := Nat.le_of_ble_eq_true b2
                  have b3 : o + n * es2 ≤ v := Nat.le_of_ble_eq_true b3
                  obtain ⟨l, e5, hll, hlg⟩ := getCells_ok _ _ _ _ _ e4
                  rw [List.append_nil, app2_eq] at e5
                  have hll : l.length = n * es2 := hll
                  obtain ⟨val, h', e6, hh⟩ := out n 0 none l K e5 hle
                  refine ⟨val, h', e6, wrap _ h' fun γ w sv xv ts ty hr hs hx hts => ?_⟩
                  have hs' := hs
                  simp only [VR] at hs
                  obtain ⟨B, N', cap, hg, oo, rfl, hoo, hes, hnc, hN, hc0, hc1⟩ := hs
                  have hc1 := hc1 (by omega)
                  exact hh γ w xv ts ty hr hx hts hll cap _ (by omega) fun w' hr' => first_ok hr' hs' ⟨_, ho, .inr ⟨N, cs, lw, rfl, b1, b2, by omega, fun i hi => hlg i (by rw [hll] at hi; exact hi)⟩⟩ hll
                · cases e4
        · cases e2
    · cases e2
  · cases e2
theorem copy_ok {t : TypeId} {d s : AV} {h : H} {K : KV} (e : copyA P t d s h K = .ok rv rh) :
    ∃ val h', K val h' = .ok rv rh ∧ ∀ V (c : Call) d' s', c.callee = .builtin .copy → c.args.toList = [d', s'] → c.argTypes[0]? = some t → V d' d → V s' s → SpecAct P (.call c) V h val h' := by
  unfold copyA at e
  split at e
  · rename_i el hel
    obtain ⟨hu, dd, hd⟩ := elemP_ok hel
    split at e
    · rename_i i hi
      obtain ⟨m, new, e1, hsrc⟩ := source_ok (P := P) e
      have hsz : ∀ w, (sizeOf el).run P w = .ok i.size w := fun w => by simp [sizeOf, run_typeInfoP hi]
      have wrap : ∀ (k : Nat) (h' : H), (∀ γ w (dv sv : Value), HR γ h w → VR γ d dv → VR γ s sv → ∃ w' a len cap cells, dv = .slice a len cap ∧ Nat.min m len = k ∧ (Builtin.firstCells i.size k sv).run P w = .ok cells w ∧
            (∀ b, a = some b → (storeCells b cells.toList).run P w = .ok () w') ∧ (a = none → w' = w) ∧ Ext γ h w γ h' w' ∧ HR γ h' w') →
          ∀ V (c : Call) d' s', c.callee = .builtin .copy → c.args.toList = [d', s'] → c.argTypes[0]? = some t → V d' d → V s' s → SpecAct P (.call c) V h (.i .i64 (.ofNat k)) h' := by
        intro k h' hh V c d' s' hc hargs ht hs hx
        refine SpecAct_builtin hc fun γ ac w ty cs hop hr => ?_
        have hsv := opd_builtin hop (x := s') (by rw [hargs]; simp) hx
        obtain ⟨w', a, len, cap, cells, q1, q2, q3, q4, q4', q5, q6⟩ := hh γ w _ _ hr (opd_builtin hop (x := d') (by rw [hargs]; simp) hs) hsv
        obtain ⟨_, hln, _⟩ := hsrc γ w _ hr hsv
        refine ⟨w', γ, .int .i64 (.ofNat k), ?_, VR_i, q5, q6⟩
        rw [args2 hargs, q1]
        have : (Builtin.copy_ c.argTypes ty #[.slice a len cap, ac.eval s']).run P w = .ok (.int .i64 (.ofNat k)) w' := by
          simp only [Builtin.copy_, ht, g20, g21, Sem.run_bind, run_underlyingP hu, Result.andThen_ok, hln, q2, hsz, q3]
          cases a with
          | none => rw [q4' rfl]; rfl
          | some b => simp only [Sem.run_bind, q4 b rfl, Result.andThen_ok, Sem.run_pure]; rfl
        simp only [builtin, Sem.run_bind, this, Result.andThen_ok, Sem.run_pure]
      split at e1
      · refine ⟨_, h, e1, wrap 0 h fun γ w dv sv hr hd hs => ?_⟩
        simp only [VR] at hd; subst hd
        obtain ⟨_, _, hsc⟩ := hsrc γ w sv hr hs
        obtain ⟨c, k1, k2, k3⟩ := hsc 0 (Nat.zero_le _)
        exact ⟨w, none, 0, 0, c, rfl, by simp, k1, fun b h => (by cases h), fun _ => rfl, Ext.refl γ h w, hr⟩
      · rename_i a v o n es c
        simp only [ifK_eq, forceN_eq] at e1
        split at e1
        · rename_i hes
          obtain rfl : es = i.size := Nat.eq_of_beq_eq_true hes
          split at e1
          · rename_i hk
            have hk : Nat.min m n = 0 := Nat.eq_of_beq_eq_true hk
            refine ⟨_, h, e1, wrap 0 h fun γ w dv sv hr hd hs => ?_⟩
            simp only [VR] at hd
            obtain ⟨B, N, cap, hg, oo, rfl, _⟩ := hd
            obtain ⟨_, _, hsc⟩ := hsrc γ w sv hr hs
            obtain ⟨cv, k1, k2, k3⟩ := hsc 0 (Nat.zero_le _)
            have hcv : cv.toList = [] := by simp at k2; simp [k2]
            exact ⟨w, _, n, cap, cv, rfl, hk, k1, fun b h => (by rw [hcv]; rfl), fun h => (by cases h), Ext.refl γ h w, hr⟩
          · rename_i hk
            rw [takeK_eq] at e1
            obtain ⟨hlen, a', v', o', ob, ob', h', hp, ho, hw, e2, hn, hget⟩ := storeCs_ok e1
            cases hp
            refine ⟨_, h', e2, wrap (Nat.min m n) h' fun γ w dv sv hr hd hs => ?_⟩
            have hd' := hd
            simp only [VR] at hd
            obtain ⟨B, N, cap, hg, oo, rfl, hoo, hes, hnc, hN, hc0, hc1⟩ := hd
            obtain ⟨_, _, hsc⟩ := hsrc γ w sv hr hs
            obtain ⟨cv, k1, k2, k3⟩ := hsc (Nat.min m n) (Nat.min_le_left _ _)
            have hkne : Nat.min m n ≠ 0 := fun hh => hk (by rw [hh]; rfl)
            have hmn : Nat.min m n ≤ n := Nat.min_le_right _ _
            obtain rfl : oo = o := hoo (by omega)
            simp only [List.reverse_nil, List.nil_append] at hlen hw
            have hw' : Wr v oo (List.take (m.min n * i.size) new).length (List.take (m.min n * i.size) new) ob ob' := by rw [hlen]; exact hw
            obtain ⟨j1, j2, j3⟩ := hw'.run hr hg ho k2 k3 hn hget
            have hst := run_storeCells_cells (P := P) B oo cv.toList 0 w (fun j hj => by simpa using (j1 j hj).1) (fun j hj => by simpa using (j1 j hj).2) (VRL_oneCell k2 k3)
            simp only [Nat.add_zero] at hst
            exact ⟨_, _, n, cap, cv, rfl, rfl, k1, fun b h => (by cases h; exact hst), fun h => (by cases h), j3, j2⟩
        · cases e1
      · cases e1
    · cases e
  · cases e
end Go.AB
namespace Go.AB
variable [Base]
variable {rv : AV} {rh : H} {P : Program}

/-! ### iterating over a map -/
theorem range_ok {t : TypeId} {kt et : TypeId} (hu : underP P t = some (.map kt et)) {x : AV} {h : H} {K : KV} (e : rangeA x h K = .ok rv rh) :
    ∃ val h', K val h' = .ok rv rh ∧ ∀ V x', V x' x → SpecAct P (.range t x') V h val h' := by
  unfold rangeA at e
  split at e
  · obtain ⟨h', e1, hn, hget⟩ := H.newK_ok e
    refine ⟨_, h', e1, fun V x' hx γ ac w o ho hop hr => ?_⟩
    have h1 := hop x' _ (by simp [Op.operands]) hx
    simp only [VR] at h1
    obtain ⟨g1, g2⟩ := hr.new (w' := { w with heap := w.heap.push (.mapIter none 0 #[] 0) }) (o := .mapIter none 0 #[] 0) (v := 0) (N := 0) hn hget rfl ⟨rfl, none, rfl, rfl⟩
    refine ⟨.value (.pointer (some ⟨w.heap.size, 0, none⟩)), _, _, _, ?_, .inl rfl, ?_, g2, g1⟩
    · simp [execOp, ho, Instr.range, run_underlyingP hu, h1, newObj, Sem.run]
    · simp only [VR]; exact ⟨_, _, Gh.put_same, rfl⟩
  · rename_i r
    obtain ⟨ob, ha, e1⟩ := H.getK_ok e
    obtain ⟨es, c, rfl, e2⟩ := onMap_ok e1
    obtain ⟨h', e3, hn, hget⟩ := H.newK_ok e2
    refine ⟨_, h', e3, fun V x' hx γ ac w o ho hop hr => ?_⟩
    have h1 := hop x' _ (by simp [Op.operands]) hx
    obtain ⟨B, ev, h2, ⟨N, hg⟩, hB, hen⟩ := VR_m hr ha h1
    have hne : r ≠ h.nx := fun hh => by have := hr.lt _ _ _ hg; omega
    obtain ⟨g1, g2⟩ := hr.new (w' := { w with heap := w.heap.push (.mapIter (some B) c #[] c) }) (o := .mapIter (some B) c #[] c) (v := 0) (N := 0) hn hget rfl ⟨rfl, some B, rfl, B, N, by
      unfold Gh.put; rw [if_neg (by rintro ⟨h, _⟩; exact hne h)]; exact hg, rfl⟩
    refine ⟨.value (.pointer (some ⟨w.heap.size, 0, none⟩)), _, _, _, ?_, .inl rfl, ?_, g2, g1⟩
    · simp only [execOp, ho, Instr.range, Sem.run_bind, run_underlyingP hu, Result.andThen_ok, h2, run_getObj' hB (fun _ _ _ h => by cases h), Sem.run_pure]
      simp [newObj, Sem.run]
    · simp only [VR]; exact ⟨_, _, Gh.put_same, rfl⟩
  · cases e
theorem EntR.filter {γ : Gh} (p : Nat → Bool) : ∀ {l : List (AV × AV × Nat)} {m : List MapEntry}, EntR γ l m → EntR γ (l.filter fun e => p e.2.2) (m.filter fun e => p e.born)
  | [], _, h => by cases h; rfl
  | x :: l, _, ⟨e, es, h0, h1, h2, h3, h4⟩ => by
    subst h0
    have ih := h4.filter p
    simp only [List.filter_cons, h3]
    split
    · exact ⟨e, _, rfl, h1, h2, h3, ih⟩
    · exact ih
theorem EntR.all {γ : Gh} (p : Nat → Bool) : ∀ {l : List (AV × AV × Nat)} {m : List MapEntry}, EntR γ l m → (m.all fun e => p e.born) = l.all fun e => p e.2.2
  | [], _, h => by cases h; rfl
  | x :: l, _, ⟨e, es, h0, h1, h2, h3, h4⟩ => by
    subst h0
    simp only [List.all_cons, h3, h4.all p]
theorem EntR.isEmpty {γ : Gh} {l : List (AV × AV × Nat)} {m : List MapEntry} (h : EntR γ l m) : m.isEmpty = l.isEmpty := by
  cases l with
  | nil => cases h; rfl
  | cons x l => obtain ⟨e, es, rfl, _⟩ := h; rfl
theorem run_choose_one (w : World) : (choose (.mapNext 1)).run P w = .ok 0 w := by simp [choose, Sem.run, Question.forced]
theorem next_ok {it : AV} {s : Bool} {h : H} {K : KV} (e : nextA it s h K = .ok rv rh) :
    ∃ val h', K val h' = .ok rv rh ∧ ∀ V it', V it' it → SpecAct P (.next it' s) V h val h' := by
  obtain ⟨a, v0, o0, rfl, e1⟩ := onP_ok (show it.onP _ = .ok rv rh from e)
  rw [ifK_eq] at e1
  split at e1
  · rename_i ho0
    obtain rfl : o0 = 0 := Nat.eq_of_beq_eq_true ho0
    obtain ⟨ob, ha, e2⟩ := H.getK_ok e1
    have iter : ∀ {γ : Gh} {w : World} {iv : Value}, HR γ h w → VR γ (.p a v0 0) iv → ∃ B N oo, iv = .pointer (some ⟨B, 0, none⟩) ∧ γ a v0 = some (B, N) ∧ w.heap[B]? = some oo ∧ ObR γ v0 N oo ob := by
      intro γ w iv hr hv
      simp only [VR] at hv
      obtain ⟨B, N, hg, rfl⟩ := hv
      obtain ⟨ob2, o2, x1, x2, x3⟩ := hr.ob _ _ _ _ hg
      rw [ha] at x1; cases x1
      exact ⟨B, N, o2, rfl, hg, x2, x3⟩
    split at e2
    · refine ⟨_, h, e2, fun V it' hi γ ac w op hop' hop hr => ?_⟩
      obtain ⟨B, N, oo, q1, q2, q3, q4⟩ := iter hr (hop it' _ (by simp [Op.operands]) hi)
      obtain ⟨rfl, m', rfl, rfl⟩ := q4
      refine ⟨.value (.tuple #[.bool false]), w, γ, _, ?_, .inl rfl, by simp [VR], Ext.refl γ h w, hr⟩
      simp only [execOp, hop', Instr.next, q1, Sem.run_bind, run_getObj' q3 (fun _ _ _ h => by cases h), Result.andThen_ok, Sem.run_pure]
    · rename_i r since seen last
      obtain ⟨ob3, hr3, e3⟩ := H.getK_ok e2
      obtain ⟨es, clock, rfl, e4⟩ := onMap_ok e3
      have e4 : nextE a r since seen last h K es clock = .ok rv rh := e4
      unfold nextE at e4
      split at e4
      · cases e4
      · rename_i hcond
        -- what the program does up to the draw
        have pre : ∀ {γ : Gh} {w : World} {iv : Value}, HR γ h w → VR γ (.p a v0 0) iv → ∃ B N C ev, iv = .pointer (some ⟨B, 0, none⟩) ∧ γ a v0 = some (B, N) ∧ v0 = 0 ∧ w.heap[B]? = some (.mapIter (some C) since seen.toArray last) ∧ w.heap[C]? = some (.map ev clock) ∧
            (∃ M, γ r 0 = some (C, M)) ∧ EntR γ es ev.toList ∧ (!seen.toArray.isEmpty && !ev.isEmpty && ev.all fun e => decide (e.born ≥ last)) = false := by
          intro γ w iv hr hv
          obtain ⟨B, N, oo, q1, q2, q3, q4⟩ := iter hr hv
          obtain ⟨hv0, m', rfl, C, N', hg, rfl⟩ := q4
          obtain ⟨ob4, o4, x1, x2, x3⟩ := hr.ob _ _ _ _ hg
          rw [hr3] at x1; cases x1
          obtain ⟨_, ev, rfl, hen⟩ := x3
          refine ⟨B, N, C, ev, q1, q2, hv0, q3, x2, ⟨N', hg⟩, hen, ?_⟩
          rw [← hcond]
          have h1 : (ev.all fun e => decide (e.born ≥ last)) = es.all fun e => Nat.ble last e.2.2 := by
            rw [← Array.all_toList, hen.all (fun b => decide (b ≥ last))]
            congr 1
            funext e
            rw [Bool.eq_iff_iff, decide_eq_true_eq, Nat.ble_eq]
          have h2 : ev.isEmpty = es.isEmpty := by rw [← hen.isEmpty]; simp
          rw [h1, h2]; simp
        split at e4
        · rename_i hf
          refine ⟨_, h, e4, fun V it' hi γ ac w op hop' hop hr => ?_⟩
          obtain ⟨B, N, C, ev, q1, q2, q3, q4, q5, q6, q7, q8⟩ := pre hr (hop it' _ (by simp [Op.operands]) hi)
          refine ⟨.value (.tuple #[.bool false]), w, γ, _, ?_, .inl rfl, by simp [VR], Ext.refl γ h w, hr⟩
          have hfl := q7.filter fun b => !seen.contains b
          rw [hf] at hfl
          have hfl' : (ev.filter fun e => !seen.toArray.contains e.born) = #[] := by
            apply Array.toList_inj.1
            rw [Array.toList_filter]
            have : (fun e : MapEntry => !seen.toArray.contains e.born) = fun e => !seen.contains e.born := by funext e; simp
            rw [this]; exact hfl
          simp only [execOp, hop', Instr.next, q1, Sem.run_bind, run_getObj' q4 (fun _ _ _ h => by cases h), Result.andThen_ok, run_getObj' q5 (fun _ _ _ h => by cases h), q8, Bool.false_eq_true, if_false, hfl']
          simp [run_choose_one, Question.forced]
        · rename_i k v b hf
          rw [ifK_eq] at e4
          split at e4
          · rename_i hb
            have hb : b < since := Nat.le_of_ble_eq_true hb
            obtain ⟨h', e5, hn, hget⟩ := H.putK_ok e4
            refine ⟨_, h', e5, fun V it' hi γ ac w op hop' hop hr => ?_⟩
            obtain ⟨B, N, C, ev, q1, q2, rfl, q4, q5, q6, q7, q8⟩ := pre hr (hop it' _ (by simp [Op.operands]) hi)
            have hfl := q7.filter fun b => !seen.contains b
            rw [hf] at hfl
            obtain ⟨e0, es0, h1, hk, hv, hbn, hnil⟩ := hfl
            obtain rfl : es0 = [] := hnil
            have hfl' : (ev.filter fun e => !seen.toArray.contains e.born) = #[e0] := by
              apply Array.toList_inj.1
              rw [Array.toList_filter]
              have : (fun e : MapEntry => !seen.toArray.contains e.born) = fun e => !seen.contains e.born := by funext e; simp
              rw [this]; exact h1
            have hbn : e0.born = b := hbn
            have hB : B < w.heap.size := (Array.getElem?_eq_some_iff.1 q4).1
            obtain ⟨M, hM⟩ := q6
            have hfin := HR.put (w' := { w with heap := w.heap.setIfInBounds B (.mapIter (some C) since (seen ++ [b]).toArray clock) }) hr q2 hn hget (o := .mapIter (some C) since (seen ++ [b]).toArray clock)
              (by simp [hB]) (by simp) (fun D hD => by simp [Array.getElem?_setIfInBounds_ne (Ne.symm hD)])
              (fun v' D N' hg' => by
                obtain ⟨ob2, o2, x1, x2, x3⟩ := hr.ob _ _ _ _ hg'
                rw [ha] at x1; cases x1
                obtain ⟨rfl, _⟩ := x3
                rw [q2] at hg'; cases hg'
                exact ⟨_, by simp [hB], rfl, some C, rfl, C, M, hM, rfl⟩)
            refine ⟨.value (.tuple #[.bool true, e0.key, e0.val]), _, γ, _, ?_, .inl rfl, by simp [VR, hk, hv], hfin.2, hfin.1⟩
            have hset : (seen.toArray.push e0.born) = (seen ++ [b]).toArray := by rw [hbn]; simp
            have hold : (#[e0].filter fun e => decide (e.born < since)) = #[e0] := by simp [Array.filter, hbn, hb]
            have hnew : (#[e0].filter fun e => decide (e.born ≥ since)) = #[] := by simp [Array.filter, hbn, hb]
            simp only [execOp, hop', Instr.next, q1, Sem.run_bind, run_getObj' q4 (fun _ _ _ h => by cases h), Result.andThen_ok, run_getObj' q5 (fun _ _ _ h => by cases h), q8, Bool.false_eq_true, if_false, hfl', hold, hnew]
            have hcand : ((if (#[e0] : Array MapEntry).isEmpty = true then #[none] else #[]) ++ (#[e0] ++ #[]).map some : Array (Option MapEntry)) = #[some e0] := by simp
            rw [hcand]
            simp only [List.size_toArray, List.length_cons, List.length_nil, Nat.zero_add, run_choose_one, Result.andThen_ok, g10, Sem.run_bind, run_setObj' q4 (fun _ _ _ h => by cases h), hset, Sem.run_pure]
          · cases e4
        · cases e4
    · cases e2
  · cases e1
end Go.AB
namespace Go.AB
variable [Base]
variable {rv : AV} {rh : H} {P : Program}

theorem cOpds_run {l : List Operand} {tm : Tm} {K : List AV → Ans} (h : (cOpds l).run tm [] K = .ok rv rh) :
    ∃ vs, vs.length = l.length ∧ (∀ (i : Nat) x v, l[i]? = some x → vs[i]? = some v → OV tm x v) ∧ K vs = .ok rv rh := by
  cases hc : cOpds l with
  | mk g =>
    rw [hc] at h
    obtain ⟨vs, h1, h2, h3⟩ := cOpds_ok l hc (show g tm [] K = .ok rv rh from h)
    exact ⟨vs, h1, h2, by simpa using h3⟩
theorem cParts_run {l : List (Nat × Operand)} {tm : Tm} {K : List (Nat × AV) → Ans} (h : (cParts l).run tm [] K = .ok rv rh) :
    ∃ vs : List (Nat × AV), vs.length = l.length ∧ (∀ (i : Nat) x v, l[i]? = some x → vs[i]? = some v → v.1 = x.1 ∧ OV tm x.2 v.2) ∧ K vs = .ok rv rh := by
  cases hc : cParts l with
  | mk g =>
    rw [hc] at h
    obtain ⟨vs, h1, h2, h3⟩ := cParts_ok l hc (show g tm [] K = .ok rv rh from h)
    exact ⟨vs, h1, h2, by simpa using h3⟩
theorem optK_ok {x : Option Operand} {tm : Tm} {K : Option AV → Ans} (h : optK x tm K = .ok rv rh) : ∃ v, OptV (OV tm) x v ∧ K v = .ok rv rh := by
  cases x with
  | none => exact ⟨none, trivial, h⟩
  | some x =>
    obtain ⟨v, hv, h1⟩ := cOpd_run (show (cOpd x).run tm (fun v => K (some v)) = .ok rv rh from h)
    exact ⟨some v, hv, h1⟩
theorem run_slice_nil {γ : Gh} {t e : TypeId} (hu : underP P t = some (.slice e)) (hd : ∃ i, typeP P e = some i) {lo hi : Option AV} {vlo vhi : Option Value}
    (hlo : IxV 0 lo 0) (hhi : IxV 0 hi 0) (rlo : OptR γ lo vlo) (rhi : OptR γ hi vhi) (w : World) : (Instr.slice t (.slice none 0 0) vlo vhi none).run P w = .ok (.slice none 0 0) w := by
  have hb := run_bounds (P := P) (b := true) (len := 0) (cap := 0) hlo hhi rlo rhi (Nat.le_refl _) (Nat.le_refl _) (Nat.le_refl _) w
  obtain ⟨i, hi⟩ := hd
  simp only [Instr.slice, Sem.run_bind, run_underlyingP hu, Result.andThen_ok, hb, run_sizeOfP hi w, Sem.run_pure]
  rfl
theorem slice_s_ok {n code : Nat} {lo hi : Option AV} {K : AV → Ans} (e : sliceA (.s n code) lo hi K = .ok rv rh) :
    ∃ l u, IxV 0 lo l ∧ IxV n hi u ∧ l ≤ u ∧ u ≤ n ∧ K (.s (u - l) (Nat.shiftRight code (8 * (n - u)) % 256 ^ (u - l))) = .ok rv rh := by
  simp only [sliceA] at e
  obtain ⟨u, hu, e1⟩ := sliceIx_ok e
  obtain ⟨l, hl, e2⟩ := sliceIx_ok e1
  rw [ifK_eq, andB_eq] at e2
  split at e2
  · rename_i hb
    rw [Bool.and_eq_true] at hb
    unfold strCutK at e2
    rw [forceN_eq, forceN_eq] at e2
    exact ⟨l, u, hl, hu, Nat.le_of_ble_eq_true hb.1, Nat.le_of_ble_eq_true hb.2, e2⟩
  · cases e2
theorem slice_nil_ok {lo hi : Option AV} {K : AV → Ans} (e : sliceA .sl0 lo hi K = .ok rv rh) : IxV 0 lo 0 ∧ IxV 0 hi 0 ∧ K .sl0 = .ok rv rh := by
  simp only [sliceA] at e
  obtain ⟨u, hu, e1⟩ := sliceIx_ok e
  obtain ⟨l, hl, e2⟩ := sliceIx_ok e1
  rw [ifK_eq, andB_eq] at e2
  split at e2
  · rename_i hb
    rw [Bool.and_eq_true] at hb
    obtain rfl : u = 0 := Nat.eq_of_beq_eq_true hb.1
    obtain rfl : l = 0 := Nat.eq_of_beq_eq_true hb.2
    exact ⟨hl, hu, e2⟩
  · cases e2
theorem slice_sl_ok {a v o n es c : Nat} {lo hi : Option AV} {K : AV → Ans} (e : sliceA (.sl a v o n es c) lo hi K = .ok rv rh) :
    ∃ l u c', IxV 0 lo l ∧ IxV n hi u ∧ l ≤ u ∧ u ≤ n ∧ (c = 0 ∧ c' = 0 ∨ ∃ k, c = k + 1 ∧ l ≤ k ∧ c' = k - l + 1) ∧ K (.sl a v (o + l * es) (u - l) es c') = .ok rv rh := by
  simp only [sliceA] at e
  obtain ⟨u, hu, e1⟩ := sliceIx_ok e
  obtain ⟨l, hl, e2⟩ := sliceIx_ok e1
  rw [ifK_eq, andB_eq] at e2
  split at e2
  · rename_i hb
    rw [Bool.and_eq_true] at hb
    cases c with
    | zero =>
      simp only [forceN_eq] at e2
      exact ⟨l, u, 0, hl, hu, Nat.le_of_ble_eq_true hb.1, Nat.le_of_ble_eq_true hb.2, .inl ⟨rfl, rfl⟩, e2⟩
    | succ k =>
      simp only [forceN_eq, ifK_eq] at e2
      split at e2
      · rename_i hk
        exact ⟨l, u, _, hl, hu, Nat.le_of_ble_eq_true hb.1, Nat.le_of_ble_eq_true hb.2, .inr ⟨k, rfl, Nat.le_of_ble_eq_true hk, rfl⟩, e2⟩
      · cases e2
  · cases e2
/-- An operation that calls nothing: what it does, by its kind. -/
theorem cSimple_ok {op : Op} {f : Tm → H → KV → Ans} (hc : cSimple P op = .mk f) {tm : Tm} {h : H} {K : KV} (e : f tm h K = .ok rv rh) :
    ∃ val h', K val h' = .ok rv rh ∧ Eff P op (OV tm) h val h' (opKind P op) := by
  cases op with
  | move x =>
    simp only [cSimple] at hc
    obtain ⟨v, hv, e1⟩ := one'_ok hc e
    exact ⟨v, h, e1, .pure (pure_move hv)⟩
  | assign x =>
    simp only [cSimple] at hc
    obtain ⟨v, hv, e1⟩ := one'_ok hc e
    exact ⟨v, h, e1, .pure (pure_assign hv)⟩
  | pick c a b =>
    simp only [cSimple] at hc
    cases hcc : cOpd c with
    | mk gc => cases hca : cOpd a with
      | mk ga => cases hcb : cOpd b with
        | mk gb =>
          rw [hcc, hca, hcb] at hc; cases hc
          obtain ⟨v, hv, e1⟩ := cOpd_ok hcc e
          obtain ⟨bb, rfl, e2⟩ := onB_ok e1
          rw [ifK_eq] at e2
          cases bb with
          | true =>
            obtain ⟨u, hu, e3⟩ := cOpd_ok hca e2
            exact ⟨u, h, e3, .pure (by simpa using pure_pick (P := P) (y := b) (u := u) hv (fun _ => hu) (fun h => by cases h))⟩
          | false =>
            obtain ⟨u, hu, e3⟩ := cOpd_ok hcb e2
            exact ⟨u, h, e3, .pure (by simpa using pure_pick (P := P) (x := a) (v := u) hv (fun h => by cases h) (fun _ => hu))⟩
  | alloc el =>
    simp only [cSimple] at hc; cases hc
    obtain ⟨n, t, h', e1, hn, hg, hs⟩ := alloc_ok e
    exact ⟨_, h', e1, .new hn hg (hs _)⟩
  | box el x =>
    simp only [cSimple] at hc
    obtain ⟨v, hv, e1⟩ := one_ok hc e
    obtain ⟨n, t, h', e2, hn, hg, hs⟩ := box_ok (P := P) e1
    exact ⟨_, h', e2, .new hn hg (hs _ _ hv)⟩
  | build t ps =>
    simp only [cSimple] at hc; cases hc
    obtain ⟨vs, h1, h2, e1⟩ := cParts_run e
    obtain ⟨v, e2, h3⟩ := build_ok e1
    exact ⟨v, h, e2, .pure (pure_build h1 h2 h3)⟩
  | buildSlice t len ps =>
    simp only [cSimple] at hc; cases hc
    obtain ⟨vs, h1, h2, e1⟩ := cParts_run e
    obtain ⟨es, n, tr, h', e2, hn, hg, hs⟩ := buildSlice_ok e1
    exact ⟨_, h', e2, .new hn hg (hs _ ps h1 h2)⟩
  | load t a =>
    simp only [cSimple] at hc
    split at hc
    · rename_i d hu hsz
      obtain ⟨v, hv, e1⟩ := one_ok hc e
      have hagg : aggP P t = false → sizeP P t = 1 := fun hf => by
        rw [hf, orB_eq, Bool.false_or] at hsz; exact Nat.eq_of_beq_eq_true hsz
      obtain ⟨a', v', o, l, x, rfl, e2, hx, hrow⟩ := loadK_ok hagg e1
      exact ⟨x, h, e2, .read (read_load hu hv hx hrow)⟩
    · cases hc; cases e
  | store t a x =>
    simp only [cSimple] at hc
    split at hc
    · rename_i d hu
      obtain ⟨v, u, hv, hu', e1⟩ := two_ok hc e
      obtain ⟨h', e2, hs⟩ := store_ok hu e1
      exact ⟨_, h', e2, .act (hs _ _ _ hv hu')⟩
    · cases hc; cases e
  | nilCheck x =>
    simp only [cSimple] at hc
    obtain ⟨v, hv, e1⟩ := one'_ok hc e
    obtain ⟨h1, e2⟩ := nilCheck_ok e1
    exact ⟨v, h, e2, .pure (pure_nilCheck hv h1)⟩
  | binOp op t x y t' =>
    simp only [cSimple] at hc
    cases hb : cBin P op t with
    | mk g =>
      rw [hb] at hc
      obtain ⟨v, u, hv, hu, e1⟩ := two'_ok hc e
      obtain ⟨val, hs, e2⟩ := bin_ok hb e1
      exact ⟨val, h, e2, .pure (hs _ _ _ _ hv hu)⟩
  | unOp op t x =>
    simp only [cSimple] at hc
    obtain ⟨v, hv, e1⟩ := one'_ok hc e
    rcases un_ok e1 with ⟨k, n, rfl, rfl, e2⟩ | ⟨k, n, rfl, rfl, e2⟩ | ⟨b, rfl, rfl, e2⟩
    · exact ⟨_, h, e2, .pure (pure_neg hv)⟩
    · exact ⟨_, h, e2, .pure (pure_xor hv)⟩
    · exact ⟨_, h, e2, .pure (pure_not hv)⟩
  | convert src dst x =>
    simp only [cSimple] at hc
    obtain ⟨v, hv, e1⟩ := one'_ok hc e
    obtain ⟨i, k, j, n, h1, h2, rfl, e2⟩ := conv_ok e1
    exact ⟨_, h, e2, .pure (pure_conv h1 h2 hv)⟩
  | makeInterface t x =>
    simp only [cSimple] at hc
    split at hc
    · cases hc; cases e
    · rename_i d hn hu
      obtain ⟨v, hv, e1⟩ := one'_ok hc e
      exact ⟨_, h, e1, .pure (pure_iface hu (fun ms hh => hn ms (by rw [hh])) hv)⟩
    · cases hc; cases e
  | makeFunc fn first captured =>
    simp only [cSimple] at hc
    split at hc
    · cases hc
      obtain ⟨x, h1, h2, e1⟩ := cOpds_run e
      obtain ⟨y, h3, h4, e2⟩ := cOpds_run e1
      exact ⟨_, h, e2, .pure (pure_func h1 h2 h3 h4)⟩
    · cases hc; cases e
  | makeMap t r =>
    simp only [cSimple] at hc
    split at hc
    · rename_i k el hu
      cases r with
      | none =>
        simp only at hc; cases hc
        obtain ⟨h', e1, hn, hg⟩ := H.newK_ok e
        exact ⟨_, h', e1, .new hn hg (new_makeMap hu rfl (fun x hx => by cases hx))⟩
      | some x =>
        simp only at hc
        obtain ⟨v, hv, e1⟩ := one_ok hc e
        obtain ⟨k', n, rfl, e2⟩ := onI_ok e1
        obtain ⟨h', e3, hn, hg⟩ := H.newK_ok e2
        exact ⟨_, h', e3, .new hn hg (new_makeMap hu rfl (fun x hx => by cases hx; exact ⟨_, _, hv⟩))⟩
    · cases hc; cases e
  | makeSlice t l c =>
    simp only [cSimple] at hc
    obtain ⟨v, u, hv, hu, e1⟩ := two_ok hc e
    obtain ⟨n, len, es, tr, h', e2, hn, hg, hs⟩ := makeSlice_ok e1
    exact ⟨_, h', e2, .new hn hg (hs _ _ _ hv hu)⟩
  | slice t x lo hi mx =>
    simp only [cSimple] at hc
    split at hc
    · rename_i hu
      cases hc
      obtain ⟨v, hv, e1⟩ := cOpd_run e
      obtain ⟨lv, hl, e2⟩ := optK_ok e1
      obtain ⟨hv', hh, e3⟩ := optK_ok e2
      split at e3
      · obtain ⟨l, u, q1, q2, q3, q4, e4⟩ := slice_s_ok e3
        exact ⟨_, h, e4, .pure (pure_slice hu (fun _ _ h => by cases h) hv hl hh fun γ z vlo vhi w hz rlo rhi => run_slice_s hu hz q1 q2 rlo rhi q3 q4 w)⟩
      · cases e3
    · rename_i el hu
      split at hc
      · rename_i hsz
        cases hc
        obtain ⟨i, hi'⟩ := sizeP_pos (Nat.le_of_ble_eq_true hsz)
        obtain ⟨v, hv, e1⟩ := cOpd_run e
        obtain ⟨lv, hl, e2⟩ := optK_ok e1
        obtain ⟨hv', hh, e3⟩ := optK_ok e2
        split at e3
        · cases e3
        · rw [ifK_eq] at e3
          split at e3
          · rename_i hes
            obtain rfl := Nat.eq_of_beq_eq_true hes
            obtain ⟨l, u, c', q1, q2, q3, q4, q5, e4⟩ := slice_sl_ok e3
            exact ⟨_, h, e4, .pure (pure_slice hu (fun _ _ h => by cases h) hv hl hh fun γ z vlo vhi w hz rlo rhi => run_slice_sl hu ⟨i, hi'⟩ hz q1 q2 rlo rhi q3 q4 q5 w)⟩
          · cases e3
        · rename_i x1 x2
          cases v <;> first
            | (simp only [sliceA] at e3; cases e3; done)
            | exact absurd rfl (x1 _ _)
            | exact absurd rfl (x2 _ _ _ _ _ _)
            | (obtain ⟨q1, q2, e4⟩ := slice_nil_ok e3
               exact ⟨_, h, e4, .pure (pure_slice hu (fun _ _ h => by cases h) hv hl hh fun γ z vlo vhi w hz rlo rhi => by
                 simp only [VR] at hz; subst hz
                 exact ⟨_, run_slice_nil hu ⟨i, hi'⟩ q1 q2 rlo rhi w, by simp [VR]⟩)⟩)
      · cases hc; cases e
    · cases hc; cases e
  | fieldAddr s x f =>
    simp only [cSimple] at hc
    obtain ⟨v, hv, e1⟩ := one'_ok hc e
    obtain ⟨a, v', o, off, size, agg, rfl, hf, hs, e2⟩ := fieldAddr_ok e1
    exact ⟨_, h, e2, .pure (pure_fieldAddr hv hf hs)⟩
  | field s x f =>
    simp only [cSimple] at hc
    obtain ⟨v, hv, e1⟩ := one'_ok hc e
    obtain ⟨cs, off, size, agg, rfl, hf, e2⟩ := field_ok e1
    rcases part_ok e2 with ⟨h1, e3⟩ | ⟨h1, u, h2, e3⟩
    · exact ⟨_, h, e3, .pure (pure_field hv hf (.inl ⟨h1, rfl⟩))⟩
    · exact ⟨_, h, e3, .pure (pure_field hv hf (.inr ⟨h1, h2⟩))⟩
  | indexAddr t x i =>
    simp only [cSimple] at hc
    obtain ⟨v, u, hv, hu, e1⟩ := two'_ok hc e
    obtain ⟨k, n, rfl, e2⟩ := onI_ok e1
    obtain ⟨j, rfl, e3⟩ := natOf_ok e2
    obtain ⟨r, e4, hs⟩ := pure_indexAddr hv hu e3
    exact ⟨r, h, e4, .pure hs⟩
  | index t x i =>
    simp only [cSimple] at hc
    obtain ⟨v, u, hv, hu, e1⟩ := two'_ok hc e
    obtain ⟨k, n, rfl, e2⟩ := onI_ok e1
    obtain ⟨j, rfl, e3⟩ := natOf_ok e2
    obtain ⟨r, e4, hs⟩ := pure_index hv hu e3
    exact ⟨r, h, e4, .pure hs⟩
  | lookup t x i ok =>
    simp only [cSimple] at hc
    obtain ⟨v, u, hv, hu, e1⟩ := two_ok hc e
    obtain ⟨val, e2, hs⟩ := lookup_ok e1
    exact ⟨val, h, e2, .read (hs _ _ _ hv hu)⟩
  | mapUpdate t m k x =>
    simp only [cSimple] at hc; cases hc
    obtain ⟨vm, hm, e1⟩ := cOpd_run e
    obtain ⟨vk, hk, e2⟩ := cOpd_run e1
    obtain ⟨vx, hx, e3⟩ := cOpd_run e2
    obtain ⟨h', e4, hs⟩ := mapUpdate_ok e3
    exact ⟨_, h', e4, .act (hs _ _ _ _ _ (.inl rfl) hm hk hx)⟩
  | insert t m k x =>
    simp only [cSimple] at hc; cases hc
    obtain ⟨vm, hm, e1⟩ := cOpd_run e
    obtain ⟨vk, hk, e2⟩ := cOpd_run e1
    obtain ⟨vx, hx, e3⟩ := cOpd_run e2
    obtain ⟨h', e4, hs⟩ := mapUpdate_ok e3
    exact ⟨_, h', e4, .act (hs _ _ _ _ _ (.inr rfl) hm hk hx)⟩
  | range t x =>
    simp only [cSimple] at hc
    split at hc
    · rename_i k el hu
      obtain ⟨v, hv, e1⟩ := one_ok hc e
      obtain ⟨val, h', e2, hs⟩ := range_ok hu e1
      exact ⟨val, h', e2, .act (hs _ _ hv)⟩
    · cases hc; cases e
  | next it s =>
    simp only [cSimple] at hc
    obtain ⟨v, hv, e1⟩ := one_ok hc e
    obtain ⟨val, h', e2, hs⟩ := next_ok e1
    exact ⟨val, h', e2, .act (hs _ _ hv)⟩
  | extract t i =>
    simp only [cSimple] at hc
    obtain ⟨v, hv, e1⟩ := one'_ok hc e
    obtain ⟨vs, rfl, e2⟩ := onTu_ok e1
    rw [nthK_eq] at e2
    cases hi : vs[i]? with
    | none => rw [hi] at e2; cases e2
    | some u => rw [hi] at e2; exact ⟨u, h, e2, .pure (pure_extract hv hi)⟩
  | _ => simp only [cSimple] at hc; cases hc; cases e
end Go.AB
namespace Go.AB
variable [Base]
variable {rv : AV} {rh : H} {P : Program}

theorem cBuiltin_ok {c : Call} {b : Builtin} (hcal : c.callee = .builtin b) {f : Tm → H → KV → Ans} (hc : cBuiltin P b c.argTypes c.args.toList = .mk f) {tm : Tm} {h : H} {K : KV} (e : f tm h K = .ok rv rh) :
    ∃ val h', K val h' = .ok rv rh ∧ Eff P (.call c) (OV tm) h val h' (opKind P (.call c)) := by
  have k3 : b ≠ .len → b ≠ .max → b ≠ .min → opKind P (.call c) = 3 := by
    intro h1 h2 h3
    cases b <;> first | exact absurd rfl h1 | exact absurd rfl h2 | exact absurd rfl h3 | (unfold opKind; simp only [hcal])
  generalize hargs : c.args.toList = args at hc
  unfold cBuiltin at hc
  split at hc
  · -- len
    rename_i x
    have hk : opKind P (.call c) = 1 := by unfold opKind; simp only [hcal]
    rw [hk]
    split at hc
    · rename_i t ht
      split at hc
      · rename_i n el hu
        cases hc
        exact ⟨_, h, e, .read ((len_arr hcal hargs ht hu _).read h)⟩
      · rename_i hu
        obtain ⟨v, hv, e1⟩ := one'_ok hc e
        obtain ⟨n, code, rfl, e2⟩ := onS_ok e1
        exact ⟨_, h, e2, .read ((len_str hcal hargs ht hu hv).read h)⟩
      · rename_i el hu
        obtain ⟨v, hv, e1⟩ := one'_ok hc e
        obtain ⟨n, e2, hs⟩ := lenSl_ok e1
        exact ⟨_, h, e2, .read ((len_sl hcal hargs ht hu hv hs).read h)⟩
      · rename_i k el hu
        obtain ⟨v, hv, e1⟩ := one_ok hc e
        obtain ⟨es, e2, hes⟩ := entries_ok (show entriesA h v _ = .ok rv rh from e1)
        rw [forceN_eq, lenE_eq] at e2
        exact ⟨_, h, e2, .read (len_map hcal hargs ht hu hv hes)⟩
      · cases hc; cases e
    · cases hc; cases e
  · -- append
    rename_i s x
    rw [k3 (by simp) (by simp) (by simp)]
    have go : ∀ t, c.argTypes[0]? = some t → ArgTs P c.argTypes t → two s x (appendA P t) = .mk f → ∃ val h', K val h' = .ok rv rh ∧ Eff P (.call c) (OV tm) h val h' 3 := by
      intro t ht hts hc
      obtain ⟨v, u, hv, hu, e1⟩ := two_ok hc e
      obtain ⟨val, h', e2, hs⟩ := append_ok e1
      exact ⟨val, h', e2, .act (hs _ c _ _ hcal hargs hts hv hu)⟩
    split at hc
    · rename_i t ht
      split at hc
      · rename_i h1
        exact go t ht ⟨ht, .inl h1⟩ hc
      · rename_i u h1
        split at hc
        · cases hc; cases e
        · rename_i d hn hd
          exact go t ht ⟨ht, .inr ⟨u, d, h1, hd, fun k hk => hn k (by rw [hk])⟩⟩ hc
        · cases hc; cases e
    · cases hc; cases e
  · -- copy
    rename_i d s
    rw [k3 (by simp) (by simp) (by simp)]
    split at hc
    · rename_i t ht
      obtain ⟨v, u, hv, hu, e1⟩ := two_ok hc e
      obtain ⟨val, h', e2, hs⟩ := copy_ok e1
      exact ⟨val, h', e2, .act (hs _ c _ _ hcal hargs ht hv hu)⟩
    · cases hc; cases e
  · -- clear
    rename_i x
    rw [k3 (by simp) (by simp) (by simp)]
    split at hc
    · rename_i t ht
      obtain ⟨v, hv, e1⟩ := one_ok hc e
      obtain ⟨h', e2, hs⟩ := clear_ok e1
      exact ⟨_, h', e2, .act (hs _ c _ hcal hargs ht hv)⟩
    · cases hc; cases e
  · -- delete
    rename_i m k
    rw [k3 (by simp) (by simp) (by simp)]
    split at hc
    · rename_i t ht
      obtain ⟨v, u, hv, hu, e1⟩ := two_ok hc e
      obtain ⟨h', e2, hs⟩ := delete_ok e1
      exact ⟨_, h', e2, .act (hs _ c _ _ hcal hargs ht hv hu)⟩
    · cases hc; cases e
  · -- max
    have hk : opKind P (.call c) = 0 := by unfold opKind; simp only [hcal]
    rw [hk]
    cases hc
    obtain ⟨vs, h1, h2, e1⟩ := cOpds_run e
    split at e1
    · rename_i x l
      obtain ⟨r, e2, hs⟩ := maxA_ok (P := P) _ _ _ e1
      exact ⟨r, h, e2, .pure (pure_max hcal (by rw [hargs]; exact h1) (by rw [hargs]; exact h2) hs)⟩
    · cases e1
  · have hk : opKind P (.call c) = 0 := by unfold opKind; simp only [hcal]
    rw [hk]
    cases hc
    obtain ⟨vs, h1, h2, e1⟩ := cOpds_run e
    split at e1
    · rename_i x l
      obtain ⟨r, e2, hs⟩ := minA_ok (P := P) _ _ _ e1
      exact ⟨r, h, e2, .pure (pure_min hcal (by rw [hargs]; exact h1) (by rw [hargs]; exact h2) hs)⟩
    · cases e1
  · cases hc; cases e
end Go.AB
