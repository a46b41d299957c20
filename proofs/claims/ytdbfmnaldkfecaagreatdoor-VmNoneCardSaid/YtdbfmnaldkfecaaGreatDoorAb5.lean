/-
  The evaluator (abstract runs of a loaded program's code) and its soundness: part Ab5.
-/
import Derived.Test.YtdbfmnaldkfecaaGreatDoorAb4
import Derived.Scope
import Derived.Below
import Derived.RecoverIn
import Derived.Laws.Externs
import Derived.Lib.FieldsLaws
set_option linter.all false
namespace Go.AB
variable [Base]
variable {rv : AV} {rh : H}

theorem CodeSpec.of_here {P : Program} {nt : Nat} {ro : Option Nat} {c : Code} {tm : Tm} {h : H} {ex : AX} (hc : ∀ {R : Option Nat} {Q : Exit → Act → World → Prop} {a w}, Q (exE ex) a w → c.wpIn (FR R) 0 P Q a w) : CodeSpec P nt ro c tm h ex tm h :=
  fun γ _ w _ _ hst => hc ⟨rfl, γ, hst, Ext.refl γ h w⟩
theorem CodeSpec.seq {P : Program} {nt : Nat} {ro : Option Nat} {x y : Code} {tm tm1 tm2 : Tm} {h h1 h2 : H} {ex : AX} (hx : CodeSpec P nt ro x tm h .nrm tm1 h1) (hy : CodeSpec P nt ro y tm1 h1 ex tm2 h2) : CodeSpec P nt ro (.seq x y) tm h ex tm2 h2 := by
  intro γ a w R hro hst
  refine wpIn_seq (wpIn_mono (hx γ a w R hro hst) ?_)
  rintro e a' w' ⟨rfl, γ', hst', hx'⟩
  refine wpIn_mono (hy γ' a' w' R (hro.mono hx'.mono) hst') ?_
  rintro e a'' w'' ⟨rfl, γ'', hst'', hx''⟩
  exact ⟨rfl, γ'', hst'', hx'.trans hx''⟩
theorem CodeSpec.seq_out {P : Program} {nt : Nat} {ro : Option Nat} {x y : Code} {tm tm1 : Tm} {h h1 : H} {ex : AX} (hne : ex ≠ .nrm) (hx : CodeSpec P nt ro x tm h ex tm1 h1) : CodeSpec P nt ro (.seq x y) tm h ex tm1 h1 := by
  intro γ a w R hro hst
  refine wpIn_seq (wpIn_mono (hx γ a w R hro hst) ?_)
  rintro e a' w' ⟨rfl, hq⟩
  cases ex with
  | nrm => exact absurd rfl hne
  | exit id => exact ⟨rfl, hq⟩
  | ret => exact ⟨rfl, hq⟩
theorem CodeSpec.cond {P : Program} {nt : Nat} {ro : Option Nat} {c : Operand} {x y : Code} {tm tm1 : Tm} {h h1 : H} {ex : AX} {b : Bool} (hc : OV tm c (.b b)) (hx : CodeSpec P nt ro (if b then x else y) tm h ex tm1 h1) : CodeSpec P nt ro (.cond c x y) tm h ex tm1 h1 := by
  intro γ a w R hro hst
  have h1 := hc.rel hst.tmr
  simp only [VR] at h1
  exact wpIn_cond h1 (hx γ a w R hro hst)
theorem CodeSpec.block {P : Program} {nt : Nat} {ro : Option Nat} {id : Nat} {c : Code} {tm tm1 : Tm} {h h1 : H} {ex ex' : AX} (hx : CodeSpec P nt ro c tm h ex tm1 h1) (he : ex' = (match ex with | .exit i => if i = id then .nrm else .exit i | e => e)) : CodeSpec P nt ro (.block id c) tm h ex' tm1 h1 := by
  intro γ a w R hro hst
  refine wpIn_block (wpIn_mono (hx γ a w R hro hst) ?_)
  rintro e a' w' ⟨rfl, hq⟩
  cases ex with
  | nrm => subst he; exact ⟨rfl, hq⟩
  | ret => subst he; exact ⟨rfl, hq⟩
  | exit i =>
    simp only [exE, Exit.inBlock]
    by_cases hi : i = id
    · simp only [hi, if_true] at he ⊢; subst he; exact ⟨rfl, hq⟩
    · simp only [hi, if_false] at he ⊢; subst he; exact ⟨rfl, hq⟩

/-! ### loops -/
def RunOK (E : Env) (r : Rec) (nt : Nat) (c : Code) (b : BC) : Prop := ∀ ro tm h K rv rh, b.run r ro tm h K = .ok rv rh → ∃ ex tm' h', K ex tm' h' = .ok rv rh ∧ CodeSpec E.P nt ro c tm h ex tm' h'
theorem loopN_ok {E : Env} {r : Rec} {nt : Nat} {c : Code} {b : BC} (hb : RunOK E r nt c b) : ∀ (n : Nat) (ro : Option Nat) (tm : Tm) (h : H) (K : KX), loopN n b r ro tm h K = .ok rv rh →
    ∃ ex tm' h', K ex tm' h' = .ok rv rh ∧ ∀ γ a w R, RoR γ ro R → St γ nt tm h a w → Code.roundsIn (FR R) 0 E.P c (fun e a' w' => e = exE ex ∧ ∃ γ', St γ' nt tm' h' a' w' ∧ Ext γ h w γ' h' w') n a w
  | 0, ro, tm, h, K, e => by cases e
  | n + 1, ro, tm, h, K, e => by
    obtain ⟨ex, tm1, h1, e1, hs⟩ := hb ro tm h _ rv rh (show b.run r ro tm h (fun ex => AX.rec (motive := fun _ => Tm → H → Ans) (fun tm h => loopN n b r ro tm h K) (fun id => K (.exit id)) (K .ret) ex) = .ok rv rh from e)
    cases ex with
    | nrm =>
      obtain ⟨ex2, tm2, h2, e2, hs2⟩ := loopN_ok hb n ro tm1 h1 K e1
      refine ⟨ex2, tm2, h2, e2, fun γ a w R hro hst => ?_⟩
      rw [roundsIn_succ]
      refine wpIn_mono (hs γ a w R hro hst) ?_
      rintro e a' w' ⟨rfl, γ', hst', hx'⟩
      have := hs2 γ' a' w' R (hro.mono hx'.mono) hst'
      refine roundsIn_mono ?_ n a' w' this
      rintro e a'' w'' ⟨rfl, γ'', hst'', hx''⟩
      exact ⟨rfl, γ'', hst'', hx'.trans hx''⟩
    | exit id =>
      refine ⟨.exit id, tm1, h1, e1, fun γ a w R hro hst => ?_⟩
      rw [roundsIn_succ]
      refine wpIn_mono (hs γ a w R hro hst) ?_
      rintro e a' w' ⟨rfl, hq⟩
      exact ⟨rfl, hq⟩
    | ret =>
      refine ⟨.ret, tm1, h1, e1, fun γ a w R hro hst => ?_⟩
      rw [roundsIn_succ]
      refine wpIn_mono (hs γ a w R hro hst) ?_
      rintro e a' w' ⟨rfl, hq⟩
      exact ⟨rfl, hq⟩
where roundsIn_mono {F : Fence} {P : Program} {c : Code} {Q Q' : Exit → Act → World → Prop} (hq : ∀ e a w, Q e a w → Q' e a w) : ∀ (n : Nat) (a : Act) (w : World), Code.roundsIn F 0 P c Q n a w → Code.roundsIn F 0 P c Q' n a w
  | 0, _, _, h => h
  | n + 1, a, w, h => by
    rw [roundsIn_succ] at h ⊢
    refine wpIn_mono h fun e a' w' hh => ?_
    cases e with
    | normal => exact roundsIn_mono hq n a' w' hh
    | exit id => exact hq _ _ _ hh
    | goto l => exact hq _ _ _ hh
    | ret => exact hq _ _ _ hh
    | panic ch => exact hq _ _ _ hh
    | outgrown => exact hq _ _ _ hh

theorem loop_ok {E : Env} {r : Rec} {nt : Nat} {c : Code} {b : BC} (hb : RunOK E r nt c b) (n : Nat) (ro : Option Nat) (tm : Tm) (h : H) (K : KX) (e : loopN n b r ro tm h K = .ok rv rh) :
    ∃ ex tm' h', K ex tm' h' = .ok rv rh ∧ CodeSpec E.P nt ro (.loop c) tm h ex tm' h' := by
  obtain ⟨ex, tm1, h1, e1, hs⟩ := loopN_ok hb n ro tm h K e
  exact ⟨ex, tm1, h1, e1, fun γ a w R hro hst => wpIn_loop_rounds n (hs γ a w R hro hst)⟩
/-! ### a range over a function -/
theorem callFnA_ok {E : Env} {r : Rec} (hrec : RecOK E.P r) {f : AV} {args : List AV} {h : H} {K : KV} (e : callFnA E r f args h K = .ok rv rh) :
    ∃ g first cap v h', f = .fn (.func g) first cap ∧ K v h' = .ok rv rh ∧ CallSpec E.P g (first ++ (args ++ cap)) h v h' := by
  unfold callFnA at e
  split at e
  · split at e
    · rename_i g
      split at e
      · rw [app2_eq, app2_eq] at e
        obtain ⟨v, h', e1, hs⟩ := hrec.call _ _ _ _ _ _ e
        exact ⟨g, _, _, v, h', rfl, e1, hs⟩
      · cases e
    · cases e
  · cases e
/-- What comes behind the function that was ranged over. -/
theorem fin_ok {E : Env} {r : Rec} (hrec : RecOK E.P r) {nt : Nat} {ro : Option Nat} {K : KX} {l : Nat} {tm : Tm} {h : H} (e : finA nt r ro K l tm h = .ok rv rh) :
    ∃ ex tm' h', K ex tm' h' = .ok rv rh ∧ ∀ γ a w R B N, RoR γ ro R → St γ nt tm h a w → γ l 0 = some (B, N) → ∃ jump w4, (Instr.endLoop B).run E.P w = .ok jump w4 ∧
      (match jump with
       | none => ex = .nrm ∧ ∃ γ', St γ' nt tm' h' a w4 ∧ Ext γ h w γ' h' w4
       | some c => c.wpIn (FR R) 0 E.P (fun e a' w' => e = exE ex ∧ ∃ γ', St γ' nt tm' h' a' w' ∧ Ext γ h w γ' h' w') a w4) := by
  obtain ⟨ob, ho, e1⟩ := H.getK_ok (show h.getK l _ = .ok rv rh from e)
  split at e1
  · rename_i st pd nt' tm0 params assign body d
    have main : st ≠ .busy → ∀ h1, h1.nx = h.nx → (∀ c, h1.get c = if c = l then some (.loop .exhausted pd nt' tm0 params assign body d) else h.get c) → ∀ γ a w B N, St γ nt tm h a w → γ l 0 = some (B, N) →
        ∃ w4, (Instr.endLoop B).run E.P w = .ok pd w4 ∧ Ext γ h w γ h1 w4 ∧ HR γ h1 w4 := by
      intro hst h1 hn hget γ a w B N hs hg
      obtain ⟨ob2, o2, x1, x2, x3⟩ := hs.hrr.ob _ _ _ _ hg
      rw [ho] at x1; cases x1
      obtain ⟨_, lp, rfl, y1, y2, y3, y4, y5, y6, y7⟩ := ObR_loop x3
      have hfin := hs.hrr.putObj (w' := { w with heap := w.heap.setIfInBounds B (.loop { lp with state := .exhausted }) }) ho (fun v N o hh => (ObR_loop hh).1) hg x2
        (o' := .loop { lp with state := .exhausted }) (ob' := .loop .exhausted pd nt' tm0 params assign body d) ⟨rfl, _, rfl, rfl, y2, y3, y4, y5, y6, y7⟩ hn hget rfl
      have hb : (lp.state == LoopState.busy) = false := by
        rw [y1]; cases st <;> first | rfl | exact absurd rfl hst
      refine ⟨_, ?_, hfin⟩
      simp only [Instr.endLoop, Sem.run_bind, run_getLoop x2, Result.andThen_ok, hb, Bool.false_eq_true, if_false, run_setObj' x2 (fun _ _ _ h => by cases h), Sem.run_pure, y2]
    split at e1
    · cases e1
    · rename_i hnb
      obtain ⟨h1, e2, hn, hget⟩ := H.putK_ok e1
      cases pd with
      | none =>
        refine ⟨.nrm, tm, h1, e2, fun γ a w R B N hro hs hg => ?_⟩
        obtain ⟨w4, q1, q2, q3⟩ := main (fun hh => hnb hh) h1 hn hget γ a w B N hs hg
        exact ⟨none, w4, q1, rfl, γ, ⟨hs.tmr, hs.dfr, q3⟩, q2⟩
      | some c =>
        obtain ⟨ex, tm', h', e3, hcode⟩ := hrec.code _ _ _ _ _ _ _ _ e2
        refine ⟨ex, tm', h', e3, fun γ a w R B N hro hs hg => ?_⟩
        obtain ⟨w4, q1, q2, q3⟩ := main (fun hh => hnb hh) h1 hn hget γ a w B N hs hg
        refine ⟨some c, w4, q1, wpIn_mono (hcode γ a w4 R hro ⟨hs.tmr, hs.dfr, q3⟩) ?_⟩
        rintro e a' w' ⟨rfl, γ', hst', hx'⟩
        exact ⟨rfl, γ', hst', q2.trans hx'⟩
  · cases e1
theorem run_rangeCall {P : Program} (hn : NoCount P) {a : Act} {g : Operand} {fi : FuncId} {x y : Array Value} {B : Nat} (hg : a.eval g = .func (.func fi) x y) {fn : Func} {c : Code} (hf : P.funcs[fi]? = some fn) (hb : fn.body = some c) (w : World) :
    (resolve a.eval (rangeCall g B) 0).run P w = .ok { target := .fn (.func fi) y, args := x ++ #[Value.func (.yield B) #[] #[]] } w ∧ (invoke (.fn (.func fi) y) (x ++ #[Value.func (.yield B) #[] #[]])).run P w = .ok (.enter fi (x ++ #[Value.func (.yield B) #[] #[]] ++ y)) w := by
  constructor
  · have h1 : (rangeCall g B).args.map a.eval = #[Value.func (.yield B) #[] #[]] := by simp [rangeCall, Act.eval]
    show (Deferred.ofValue (a.eval g) ((rangeCall g B).args.map a.eval)).run P w = _
    rw [h1, hg]
    rfl
  · simp only [invoke, run_callFunc hn hf hb]
theorem rangeFunc_ok {E : Env} (hE : EnvOK E) {r : Rec} (hrec : RecOK E.P r) {nt : Nat} {ro : Option Nat} {f : Operand} {params : Array Tmp} {assign body : Code} {tm : Tm} {h : H} {K : KX} (e : rangeFuncA E nt r ro f params assign body tm h K = .ok rv rh) :
    ∃ ex tm' h', K ex tm' h' = .ok rv rh ∧ CodeSpec E.P nt ro (.rangeFunc f params assign body) tm h ex tm' h' := by
  unfold rangeFuncA at e
  split at e
  · -- an outermost loop
    obtain ⟨h1, e1, hn1, hg1⟩ := H.newK_ok e
    obtain ⟨h2, e2, hn2, hg2⟩ := H.newK_ok e1
    obtain ⟨fv, hfv, e3⟩ := cOpd_run e2
    obtain ⟨g, first, cap, v, h3, rfl, e4, hcall⟩ := callFnA_ok hrec e3
    rw [df'_eq] at e4
    obtain ⟨tm1, e5, hdf, hget⟩ := setDf_ok e4
    obtain ⟨ex, tm', h', e6, hfin⟩ := fin_ok hrec e5
    refine ⟨ex, tm', h', e6, fun γ a w R hro hst => ?_⟩
    obtain rfl : R = none := by cases R with | none => rfl | some _ => exact hro.elim
    refine wpIn_rangeFunc fun fn _ => ?_
    obtain ⟨⟨fnn, c, hfn, hbody⟩, hspec⟩ := hcall
    have hfr := hfv.rel hst.tmr
    simp only [VR] at hfr
    obtain ⟨x, y, hfe, hx, hy, _⟩ := hfr
    -- the block, and the record
    let w1 : World := { w with heap := w.heap.push (.deferred (some [])) }
    obtain ⟨g1, x1⟩ := hst.hrr.new (w' := w1) (ob := .dfr (some [])) (o := .deferred (some [])) (v := 0) (N := 0) hn1 hg1 rfl ⟨rfl, some [], rfl, rfl⟩
    let lp : Loop := { state := .ready, pending := none, fn, tmps := a.tmps, params, assign, body, defers := w.heap.size }
    let w2 : World := { w1 with heap := w1.heap.push (.loop lp) }
    have hno : (γ.put h.nx 0 w.heap.size 0) h1.nx 0 = none := by
      cases q : (γ.put h.nx 0 w.heap.size 0) h1.nx 0 with
      | none => rfl
      | some z => exact absurd (g1.lt _ _ _ q) (Nat.lt_irrefl _)
    have hmono := Gh.le_put (γ := γ.put h.nx 0 w.heap.size 0) (a := h1.nx) (v := 0) (B := w1.heap.size) (N := 0) hno
    obtain ⟨g2, x2⟩ := g1.new (w' := w2) (ob := .loop .ready none nt tm params.toList assign body h.nx) (o := .loop lp) (v := 0) (N := 0) hn2 hg2 rfl
      ⟨rfl, lp, rfl, rfl, rfl, (hst.tmr.mono x1.mono).mono hmono, rfl, rfl, rfl, 0, hmono _ _ _ Gh.put_same⟩
    obtain ⟨hres, hinv⟩ := run_rangeCall hE.noCount (a := a) (B := w1.heap.size) hfe hfn hbody w2
    refine ⟨w1.heap.size, [{ target := .collected w.heap.size, args := #[] }], w2, _, w2, g, _, w2, ?_, hres, fun _ _ => trivial, hinv, FR_depth none 0, ?_⟩
    · simp only [FR, Instr.enterLoop, newObj, Sem.run_bind, Result.andThen_ok, Sem.run_pure, Sem.run]
      rfl
    · have hargs : VRL ((γ.put h.nx 0 w.heap.size 0).put h1.nx 0 w1.heap.size 0) (first ++ ([.yl h1.nx] ++ cap)) (x ++ #[Value.func (.yield w1.heap.size) #[] #[]] ++ y).toList := by
        simp only [Array.toList_append, List.append_assoc]
        refine ((hx.mono x1.mono).mono hmono).append (VRL.append ?_ ((hy.mono x1.mono).mono hmono))
        simp only [VRL_cons, VRL_nil, and_true, VR]
        exact ⟨_, _, Gh.put_same, rfl⟩
      refine callsIn_FR (CallsIn.mono (hspec _ _ w2 hargs g2) fun e w3 he => ?_)
      obtain ⟨u, γ3, rfl, hu, hx3, hr3⟩ := he
      have hle3 := hx3.mono
      have hst3 : St γ3 nt tm1 h3 { a with defers := [{ target := .collected w.heap.size, args := #[] }] ++ a.defers } w3 := by
        refine ⟨(((hst.tmr.mono x1.mono).mono hmono).mono hle3).setDf hget, ?_, hr3⟩
        rw [hdf]
        exact ⟨_, _, rfl, ⟨_, _, hle3 _ _ _ (hmono _ _ _ Gh.put_same), rfl⟩, ((hst.dfr.mono x1.mono).mono hmono).mono hle3⟩
      obtain ⟨jump, w4, q1, q2⟩ := hfin γ3 _ w3 none w1.heap.size 0 trivial hst3 (hle3 _ _ _ Gh.put_same)
      have hxx : Ext γ h w γ3 h3 w3 := (x1.trans x2).trans hx3
      refine ⟨jump, w4, q1, ?_⟩
      cases jump with
      | none =>
        obtain ⟨rfl, γ', hst', hx'⟩ := q2
        exact ⟨rfl, γ', hst', hxx.trans hx'⟩
      | some cc =>
        refine wpIn_mono q2 ?_
        rintro e a' w' ⟨rfl, γ', hst', hx'⟩
        exact ⟨rfl, γ', hst', hxx.trans hx'⟩
  · -- a loop within a round
    rename_i o
    obtain ⟨ob, ho, e0⟩ := H.getK_ok e
    split at e0
    · rename_i st0 pd0 nt0 tm00 params0 assign0 body0 d
      obtain ⟨h2, e2, hn2, hg2⟩ := H.newK_ok e0
      obtain ⟨fv, hfv, e3⟩ := cOpd_run e2
      obtain ⟨g, first, cap, v, h3, rfl, e4, hcall⟩ := callFnA_ok hrec e3
      obtain ⟨ex, tm', h', e6, hfin⟩ := fin_ok hrec e4
      refine ⟨ex, tm', h', e6, fun γ a w R hro hst => ?_⟩
      obtain ⟨Bo, rfl⟩ : ∃ B, R = some B := by cases R with | none => exact hro.elim | some B => exact ⟨B, rfl⟩
      obtain ⟨No, hgo⟩ := hro
      refine wpIn_rangeFunc fun fn _ => ?_
      obtain ⟨⟨fnn, c, hfn, hbody⟩, hspec⟩ := hcall
      have hfr := hfv.rel hst.tmr
      simp only [VR] at hfr
      obtain ⟨x, y, hfe, hx, hy, _⟩ := hfr
      obtain ⟨ob2, o2, z1, z2, z3⟩ := hst.hrr.ob _ _ _ _ hgo
      rw [ho] at z1; cases z1
      obtain ⟨_, lpo, rfl, y1, y2, y3, y4, y5, y6, No', hgd⟩ := ObR_loop z3
      let lp : Loop := { state := .ready, pending := none, fn, tmps := a.tmps, params, assign, body, defers := lpo.defers }
      let w2 : World := { w with heap := w.heap.push (.loop lp) }
      have hno : γ h.nx 0 = none := by
        cases q : γ h.nx 0 with
        | none => rfl
        | some z => exact absurd (hst.hrr.lt _ _ _ q) (Nat.lt_irrefl _)
      have hmono := Gh.le_put (γ := γ) (a := h.nx) (v := 0) (B := w.heap.size) (N := 0) hno
      obtain ⟨g2, x2⟩ := hst.hrr.new (w' := w2) (ob := .loop .ready none nt tm params.toList assign body d) (o := .loop lp) (v := 0) (N := 0) hn2 hg2 rfl
        ⟨rfl, lp, rfl, rfl, rfl, hst.tmr.mono hmono, rfl, rfl, rfl, No', hmono _ _ _ hgd⟩
      obtain ⟨hres, hinv⟩ := run_rangeCall hE.noCount (a := a) (B := w.heap.size) hfe hfn hbody w2
      refine ⟨w.heap.size, [], w2, _, w2, g, _, w2, ?_, hres, fun _ _ => trivial, hinv, FR_depth (some Bo) 0, ?_⟩
      · simp only [FR, Instr.enterLoop, newObj, Sem.run_bind, run_getLoop z2, Result.andThen_ok, Sem.run_pure, Sem.run]
        rfl
      · have hargs : VRL (γ.put h.nx 0 w.heap.size 0) (first ++ ([.yl h.nx] ++ cap)) (x ++ #[Value.func (.yield w.heap.size) #[] #[]] ++ y).toList := by
          simp only [Array.toList_append, List.append_assoc]
          refine (hx.mono hmono).append (VRL.append ?_ (hy.mono hmono))
          simp only [VRL_cons, VRL_nil, and_true, VR]
          exact ⟨_, _, Gh.put_same, rfl⟩
        refine callsIn_FR (CallsIn.mono (hspec _ _ w2 hargs g2) fun e w3 he => ?_)
        obtain ⟨u, γ3, rfl, hu, hx3, hr3⟩ := he
        have hle3 := hx3.mono
        have hst3 : St γ3 nt tm h3 { a with defers := [] ++ a.defers } w3 := ⟨(hst.tmr.mono hmono).mono hle3, (hst.dfr.mono hmono).mono hle3, hr3⟩
        obtain ⟨jump, w4, q1, q2⟩ := hfin γ3 _ w3 (some Bo) w.heap.size 0 ⟨No, hle3 _ _ _ (hmono _ _ _ hgo)⟩ hst3 (hle3 _ _ _ Gh.put_same)
        have hxx : Ext γ h w γ3 h3 w3 := x2.trans hx3
        refine ⟨jump, w4, q1, ?_⟩
        cases jump with
        | none =>
          obtain ⟨rfl, γ', hst', hx'⟩ := q2
          exact ⟨rfl, γ', hst', hxx.trans hx'⟩
        | some cc =>
          refine wpIn_mono q2 ?_
          rintro e a' w' ⟨rfl, γ', hst', hx'⟩
          exact ⟨rfl, γ', hst', hxx.trans hx'⟩
    · cases e0

/-! ### code -/
theorem cCode_loop {E : Env} {nt : Nat} {c : Code} : cCode E nt (.loop c) = .mk fun r ro tm h K => loopN loopFuel (cCode E nt c) r ro tm h K := rfl
theorem cCode_ok {E : Env} (hE : EnvOK E) (hmix : E.P.follows .mixedOrders = true) {r : Rec} (hrec : RecOK E.P r) {nt : Nat} (c : Code) : RunOK E r nt c (cCode E nt c) := by
  induction c with
  | skip => exact fun ro tm h K rv rh e => ⟨.nrm, tm, h, e, CodeSpec.of_here fun hq => wpIn_skip hq⟩
  | label l => exact fun ro tm h K rv rh e => ⟨.nrm, tm, h, e, CodeSpec.of_here fun hq => wpIn_label hq⟩
  | exit id => exact fun ro tm h K rv rh e => ⟨.exit id, tm, h, e, CodeSpec.of_here fun hq => wpIn_exit hq⟩
  | ret => exact fun ro tm h K rv rh e => ⟨.ret, tm, h, e, CodeSpec.of_here fun hq => wpIn_ret hq⟩
  | goto l => intro ro tm h K rv rh e; cases e
  | refuse s => intro ro tm h K rv rh e; cases e
  | region id ops draw =>
    intro ro tm h K rv rh e
    cases draw with
    | false =>
      have hd : cCode E nt (.region id ops false) = (match cOps E nt ops ops.toList, ops.toList.any isDefer with
        | .mk f, false => .mk fun r _ tm h K => f r tm h (K .nrm)
        | .mk f, true => .mk fun r ro tm h K => match ro with | none => f r tm h (K .nrm) | some _ => .err 269) := rfl
      rw [hd] at e
      cases hf : cOps E nt ops ops.toList with
      | mk f =>
        rw [hf] at e
        cases hdd : ops.toList.any isDefer with
        | false =>
          rw [hdd] at e
          obtain ⟨tm', h', e1, hs⟩ := region_ok hE hrec (id := id) hf (show f r tm h (K .nrm) = .ok rv rh from e) (ro := ro) (fun hh => by rw [hdd] at hh; cases hh)
          exact ⟨_, tm', h', e1, hs⟩
        | true =>
          rw [hdd] at e
          cases ro with
          | none =>
            obtain ⟨tm', h', e1, hs⟩ := region_ok hE hrec (id := id) hf (show f r tm h (K .nrm) = .ok rv rh from e) (ro := none) (fun _ => rfl)
            exact ⟨_, tm', h', e1, hs⟩
          | some _ => cases e
    | true =>
      have hd : cCode E nt (.region id ops true) = (match cDraw E nt ops with
        | .mk f => .mk fun r ro tm h K => match ro with | none => f r tm h (K .nrm) | some _ => .err 268) := rfl
      rw [hd] at e
      cases hf : cDraw E nt ops with
      | mk f =>
        rw [hf] at e
        cases ro with
        | none =>
          obtain ⟨tm', h', e1, hs⟩ := draw_ok hE hmix hrec (id := id) hf (show f r tm h (K .nrm) = .ok rv rh from e)
          exact ⟨_, tm', h', e1, hs⟩
        | some _ => cases e
  | seq x y ihx ihy =>
    intro ro tm h K rv rh e
    obtain ⟨ex, tm1, h1, e1, hs⟩ := ihx ro tm h _ rv rh (show (cCode E nt x).run r ro tm h (seqX (cCode E nt y) r ro K) = .ok rv rh from e)
    cases ex with
    | nrm =>
      obtain ⟨ex2, tm2, h2, e2, hs2⟩ := ihy ro tm1 h1 K rv rh e1
      exact ⟨ex2, tm2, h2, e2, hs.seq hs2⟩
    | exit id => exact ⟨_, tm1, h1, e1, hs.seq_out (by simp)⟩
    | ret => exact ⟨_, tm1, h1, e1, hs.seq_out (by simp)⟩
  | cond c x y ihx ihy =>
    intro ro tm h K rv rh e
    have hd : cCode E nt (.cond c x y) = (match cOpd c with
      | .mk g => .mk fun r ro tm h K => g tm fun v => v.onB fun c => ifK c ((cCode E nt x).run r ro tm h K) ((cCode E nt y).run r ro tm h K)) := rfl
    rw [hd] at e
    cases hg : cOpd c with
    | mk g =>
      rw [hg] at e
      obtain ⟨v, hv, e1⟩ := cOpd_ok hg (show (g tm fun v => v.onB fun c => ifK c ((cCode E nt x).run r ro tm h K) ((cCode E nt y).run r ro tm h K)) = .ok rv rh from e)
      obtain ⟨b, rfl, e2⟩ := onB_ok e1
      rw [ifK_eq] at e2
      cases b with
      | true =>
        obtain ⟨ex, tm1, h1, e3, hs⟩ := ihx ro tm h K rv rh e2
        exact ⟨ex, tm1, h1, e3, CodeSpec.cond hv hs⟩
      | false =>
        obtain ⟨ex, tm1, h1, e3, hs⟩ := ihy ro tm h K rv rh e2
        exact ⟨ex, tm1, h1, e3, CodeSpec.cond hv hs⟩
  | block id c ih =>
    intro ro tm h K rv rh e
    obtain ⟨ex, tm1, h1, e1, hs⟩ := ih ro tm h _ rv rh (show (cCode E nt c).run r ro tm h (blockX id K) = .ok rv rh from e)
    cases ex with
    | nrm => exact ⟨.nrm, tm1, h1, e1, hs.block rfl⟩
    | ret => exact ⟨.ret, tm1, h1, e1, hs.block rfl⟩
    | exit i =>
      have e2 : ifK (Nat.beq i id) (K .nrm tm1 h1) (K (.exit i) tm1 h1) = .ok rv rh := e1
      rw [ifK_eq, nbeq] at e2
      by_cases hi : i = id
      · rw [if_pos (by simpa using hi)] at e2
        exact ⟨.nrm, tm1, h1, e2, hs.block (by simp [hi])⟩
      · rw [if_neg (by simpa using hi)] at e2
        exact ⟨.exit i, tm1, h1, e2, hs.block (by simp [hi])⟩
  | loop c ih =>
    intro ro tm h K rv rh e
    rw [cCode_loop] at e
    generalize loopFuel = n at e
    exact loop_ok ih n ro tm h K e
  | scope c ih =>
    intro ro tm h K rv rh e
    cases ro with
    | none =>
      obtain ⟨ex, tm1, h1, e1, hs⟩ := ih none tm h K rv rh e
      refine ⟨ex, tm1, h1, e1, fun γ a w R hro hst => ?_⟩
      obtain rfl : R = none := by cases R with | none => rfl | some _ => exact hro.elim
      refine wpIn_wide.2 (wp_scope_straight ((wpIn_wide (n := 0)).1 (wpIn_mono (hs γ a w none hro hst) ?_)))
      rintro e a' w' ⟨rfl, hq⟩
      cases ex <;> exact ⟨rfl, hq⟩
    | some _ => cases e
  | rangeFunc f params assign body _ _ => exact fun ro tm h K rv rh e => rangeFunc_ok hE hrec e
end Go.AB
namespace Go.AB
variable [Base]
variable {rv : AV} {rh : H}

/-! ### arguments -/
theorem nthF_eq (l : List Func) : ∀ k, nthF l k = l[k]? := by
  induction l with
  | nil => intro k; rfl
  | cons x l ih =>
    intro k
    cases k with
    | zero => rfl
    | succ m => show nthF l m = _; rw [ih]; simp
theorem dropF_eq (n : Nat) : ∀ l : List Func, Nat.rec (motive := fun _ => List Func → List Func) (fun l => l) (fun _ ih l => List.rec (motive := fun _ => List Func) [] (fun _ t _ => ih t) l) n l = l.drop n := by
  induction n with
  | zero => intro l; rfl
  | succ n ih =>
    intro l
    cases l with
    | nil => rfl
    | cons x l => exact ih l
theorem blkF_eq (P : Program) (k : Nat) : blkF P k = P.funcs.toList.drop (16 * k) := by
  induction k with
  | zero => rfl
  | succ k ih =>
    have h16 : ∀ l, drop16F l = l.drop 16 := fun l => dropF_eq 16 l
    show drop16F (blkF P k) = _
    rw [ih, h16, List.drop_drop]; congr 1
theorem funcP_eq (P : Program) (f : Nat) : funcP P f = P.funcs[f]? := by
  show nthF (blkF P (f / 16)) (f % 16) = _
  rw [nthF_eq, blkF_eq, List.getElem?_drop, show 16 * (f / 16) + f % 16 = f by omega]
  simp
theorem argTm_ok {nt : Nat} : ∀ (l : List AV) (i : Nat) (tm : Tm) (K : Tm → Ans), argTm nt l i tm K = .ok rv rh →
    ∃ tm', K tm' = .ok rv rh ∧ tm'.df = tm.df ∧ i + l.length ≤ max nt i ∧ ∀ j, j < 256 → tm'.get j = if i ≤ j ∧ j < i + l.length then (l[j - i]?).getD und else tm.get j
  | [], i, tm, K, e => ⟨tm, e, rfl, by simpa using Nat.le_max_right nt i, fun j _ => by rw [if_neg (by simp)]⟩
  | v :: l, i, tm, K, e => by
    have e0 : (cPut nt (some i)).run tm (fun tm _ => argTm nt l (i + 1) tm K) v ⟨0, .e⟩ = .ok rv rh := e
    cases hc : cPut nt (some i) with
    | mk put =>
      rw [hc] at e0
      obtain ⟨tm1, e1, hp1, hp2, hp3⟩ := cPut_ok hc (show put tm (fun tm _ => argTm nt l (i + 1) tm K) v ⟨0, .e⟩ = .ok rv rh from e0)
      obtain ⟨q1, q2⟩ := hp3 i rfl
      have q1' : @LT.lt Nat instLTNat i nt := q1
      obtain ⟨tm', e2, hdf, hle, hg⟩ := argTm_ok l (i + 1) tm1 K e1
      refine ⟨tm', e2, hdf.trans hp1, by simp only [List.length_cons]; omega, fun j hj => ?_⟩
      rw [hg j hj, hp2 j hj]
      by_cases hij : j = i
      · subst hij
        rw [if_neg (by omega), if_pos rfl, if_pos ⟨Nat.le_refl _, by simp⟩]; simp
      · have hne : ¬ (some i = some j) := by simpa using fun h : i = j => hij h.symm
        rw [if_neg hne]
        by_cases hin : i ≤ j ∧ j < i + (v :: l).length
        · rw [if_pos hin, if_pos (by simp at hin ⊢; omega)]
          obtain ⟨k, rfl⟩ : ∃ k, j = i + 1 + k := ⟨j - (i + 1), by omega⟩
          simp [show i + 1 + k - i = k + 1 by omega]
        · rw [if_neg hin, if_neg (by simp at hin ⊢; omega)]
theorem Tm_all_get (i : Nat) : (Tm.all (T1.all und) []).get i = und := by
  rw [Tm.get_eq]
  unfold Tm.getN T1.getN
  have h16 : ∀ k, ∃ g s, selG2 k = .mk g s ∧ g (Tm.all (T1.all und) []) = T1.all und := by
    intro k
    unfold selG2
    split <;> exact ⟨_, _, rfl, rfl⟩
  have h17 : ∀ k, ∃ g s, selG1 k = .mk g s ∧ g (T1.all und) = und := by
    intro k
    unfold selG1
    split <;> exact ⟨_, _, rfl, rfl⟩
  obtain ⟨g, s, h1, h2⟩ := h16 (i / 16)
  obtain ⟨g', s', h3, h4⟩ := h17 (i % 16)
  rw [h1, h3]
  show g' (g (Tm.all (T1.all und) [])) = und
  rw [h2, h4]
theorem args_tm {γ : Gh} {nt : Nat} {args : List AV} {vs : Array Value} (hv : VRL γ args vs.toList) {tm : Tm} (hle : 0 + args.length ≤ max nt 0) (hg : ∀ j, j < 256 → tm.get j = if 0 ≤ j ∧ j < 0 + args.length then (args[j - 0]?).getD und else (Tm.all (T1.all und) []).get j) :
    TmR γ nt tm (vs ++ Array.replicate (nt - vs.size) undef) := by
  have hl : args.length = vs.size := by rw [hv.length]; simp
  refine ⟨by simp; omega, fun i hi => ?_⟩
  rw [hg i hi]
  by_cases hlt : i < args.length
  · rw [if_pos ⟨Nat.zero_le _, by omega⟩, Nat.sub_zero, List.getElem?_eq_getElem hlt]
    obtain ⟨u, h1, h2⟩ := hv.get (List.getElem?_eq_getElem hlt)
    rw [Array.getElem?_toList] at h1
    have : (vs ++ Array.replicate (nt - vs.size) undef).getD i undef = u := by
      rw [Array.getD_eq_getD_getElem?, Array.getElem?_append_left (by omega), h1]; rfl
    rw [this]; exact h2
  · rw [if_neg (by omega), Tm_all_get]
    have : (vs ++ Array.replicate (nt - vs.size) undef).getD i undef = undef := by
      rw [Array.getD_eq_getD_getElem?, Array.getElem?_append_right (by omega), Array.getElem?_replicate]
      split <;> rfl
    rw [this]; simp [und, VR, undef]

/-! ### results -/
theorem loadVar_ok {P : Program} {γ : Gh} {h : H} {w : World} {t : TypeId} {p x : AV} {pv : Value} (hu : ∃ d, underP P t = some d) (hz : aggP P t = false → sizeP P t = 1) {K : AV → Ans} (e : loadK (aggP P t) (sizeP P t) h p K = .ok rv rh) :
    ∃ x, K x = .ok rv rh ∧ ∀ γ w (pv : Value), HR γ h w → VR γ p pv → ∃ u, (do loadVar t (← asAddr pv) : Sem Value).run P w = .ok u w ∧ VR γ x u := by
  obtain ⟨d, hd⟩ := hu
  obtain ⟨a, v, o, l, x, rfl, e1, hx, hrow⟩ := loadK_ok hz e
  refine ⟨x, e1, fun γ w pv hr hp => ?_⟩
  have hs := read_load (P := P) (V := fun y z => y = .tmp 0 ∧ z = .p a v o) (x := .tmp 0) hd ⟨rfl, rfl⟩ hx hrow
  have hp' := hp
  simp only [VR] at hp
  obtain ⟨B, N, hg, rfl⟩ := hp
  obtain ⟨u, h1, h2⟩ := hs γ { tmps := #[.pointer (some ⟨B, o, none⟩)], defers := [] } h w { dst := none, op := .load t (.tmp 0), type := 0, pos := "", after := #[], guard := none } rfl (fun _ _ e => e)
    (fun y z hy hz => by obtain ⟨rfl, rfl⟩ := hz; exact hp') hr
  refine ⟨u, ?_, h2⟩
  simp only [execOp, Act.eval, Instr.loadAt, Instr.sureAddr, Sem.run_bind, Sem.run_pure] at h1
  simp only [asAddr, Sem.run_bind, Sem.run_pure, Result.andThen_ok]
  have h3 : (#[Value.pointer (some ⟨B, o, none⟩)] : Array Value).getD 0 undef = .pointer (some ⟨B, o, none⟩) := rfl
  rw [h3] at h1
  simp only [Sem.run_pure, Result.andThen_ok] at h1
  cases hl : (loadVar t ⟨B, o, none⟩).run P w with
  | ok z w' => rw [hl] at h1; simp only [Result.andThen_ok, Result.ok.injEq, Next.value.injEq] at h1; rw [h1.1, h1.2]
  | halt z w' => rw [hl] at h1; cases h1
def resOne (tmps : Array Value) : ResultVar → Sem Value
  | .tmp t => pure (tmps.getD t undef)
  | .cell a t => do loadVar t (← asAddr (tmps.getD a undef))
theorem resOK_cell {P : Program} {l : List ResultVar} (h : resOK P l = true) {a : Tmp} {t : TypeId} (hm : ResultVar.cell a t ∈ l) : (∃ d, underP P t = some d) ∧ (aggP P t = false → sizeP P t = 1) := by
  unfold resOK at h
  rw [List.all_eq_true] at h
  have := h _ hm
  simp only at this
  split at this
  · rename_i d hd
    refine ⟨⟨d, hd⟩, fun hf => ?_⟩
    rw [orB_eq, hf, Bool.false_or] at this
    exact Nat.eq_of_beq_eq_true this
  · cases this
theorem resultsA_ok {P : Program} {tm : Tm} {h : H} : ∀ (l : List ResultVar) (_ : ∀ (a : Tmp) (t : TypeId), ResultVar.cell a t ∈ l → (∃ d, underP P t = some d) ∧ (aggP P t = false → sizeP P t = 1)) (acc : List AV) (K : List AV → Ans), resultsA P tm h l acc K = .ok rv rh →
    ∃ vs, K (acc.reverse ++ vs) = .ok rv rh ∧ vs.length = l.length ∧ ∀ γ (a : Act) w nt, TmR γ nt tm a.tmps → HR γ h w → ∃ us, (l.mapM (resOne a.tmps)).run P w = .ok us w ∧ VRL γ vs us
  | [], _, acc, K, e => by
    rw [resultsA, revK_eq] at e
    exact ⟨[], by simpa using e, rfl, fun γ a w nt _ _ => ⟨[], rfl, by simp⟩⟩
  | .tmp t :: l, hl, acc, K, e => by
    rw [resultsA] at e
    obtain ⟨v, hv, e1⟩ := cOpd_run e
    obtain ⟨vs, e2, hvl, hs⟩ := resultsA_ok l (fun a t hm => hl a t (by simp [hm])) (v :: acc) K e1
    refine ⟨v :: vs, by simpa using e2, by simp [hvl], fun γ a w nt ht hr => ?_⟩
    obtain ⟨us, h1, h2⟩ := hs γ a w nt ht hr
    refine ⟨a.tmps.getD t undef :: us, ?_, by rw [VRL_cons]; exact ⟨hv.rel (a := a) ht, h2⟩⟩
    simp only [List.mapM_cons, resOne, Sem.run_bind, Sem.run_pure, Result.andThen_ok, h1]
  | .cell c t :: l, hl, acc, K, e => by
    rw [resultsA] at e
    obtain ⟨p, hp, e1⟩ := cOpd_run e
    obtain ⟨hd, hz⟩ := hl c t (by simp)
    obtain ⟨v, e2, hload⟩ := loadVar_ok (P := P) (γ := fun _ _ => none) (w := default) (x := und) (pv := undef) hd hz e1
    obtain ⟨vs, e3, hvl, hs⟩ := resultsA_ok l (fun a t hm => hl a t (by simp [hm])) (v :: acc) K e2
    refine ⟨v :: vs, by simpa using e3, by simp [hvl], fun γ a w nt ht hr => ?_⟩
    obtain ⟨us, h1, h2⟩ := hs γ a w nt ht hr
    obtain ⟨u, h3, h4⟩ := hload γ w _ hr (hp.rel (a := a) ht)
    refine ⟨u :: us, ?_, by rw [VRL_cons]; exact ⟨h4, h2⟩⟩
    have h3' : (resOne a.tmps (.cell c t)).run P w = .ok u w := h3
    simp only [List.mapM_cons, Sem.run_bind, h3', Result.andThen_ok, h1, Sem.run_pure]
theorem run_results {P : Program} (fn : Func) (tmps : Array Value) {us : List Value} {w : World} (h : (fn.results.toList.mapM (resOne tmps)).run P w = .ok us w) :
    (results fn tmps).run P w = .ok (match us with | [u] => u | us => .tuple us.toArray) w := by
  have h1 : (fn.results.mapM (resOne tmps)).run P w = .ok us.toArray w := by
    rw [Array.mapM_eq_mapM_toList]
    simp only [map_eq_pure_bind, Sem.run_bind, h, Result.andThen_ok, Sem.run_pure]
  have h2 : results fn tmps = (do
      let vs ← fn.results.mapM (resOne tmps)
      pure (if h : vs.size = 1 then vs[0] else .tuple vs)) := by
    unfold results
    congr 1
  rw [h2]
  simp only [Sem.run_bind, h1, Result.andThen_ok, Sem.run_pure]
  match us with
  | [] => rfl
  | [u] => rfl
  | u :: v :: us => simp
theorem cResults_ok {P : Program} {fn : Func} {tm : Tm} {h : H} {K : KV} (e : (cResults P fn.results.toList).run tm h K = .ok rv rh) :
    ∃ v, K v h = .ok rv rh ∧ ∀ γ (a : Act) w nt, TmR γ nt tm a.tmps → HR γ h w → ∃ u, (results fn a.tmps).run P w = .ok u w ∧ VR γ v u := by
  unfold cResults at e
  split at e
  · rename_i hok
    have hcell : ∀ (a : Tmp) (t : TypeId), ResultVar.cell a t ∈ fn.results.toList → (∃ d, underP P t = some d) ∧ (aggP P t = false → sizeP P t = 1) := fun a t hm => resOK_cell hok hm
    split at e
    · rename_i t hl
      have e0 : (cOpd (.tmp t)).run tm (fun v => K v h) = .ok rv rh := by
        cases hg : cOpd (.tmp t) with
        | mk g => rw [hg] at e; exact e
      obtain ⟨v, hv, e1⟩ := cOpd_run e0
      refine ⟨v, e1, fun γ a w nt ht hr => ⟨_, run_results fn a.tmps (us := [a.tmps.getD t undef]) (by rw [hl]; rfl), hv.rel (a := a) ht⟩⟩
    · rename_i c t hl
      obtain ⟨p, hp, e1⟩ := cOpd_run (show (cOpd (.tmp c)).run tm _ = .ok rv rh from e)
      obtain ⟨hd, hz⟩ := hcell c t (by rw [hl]; simp)
      obtain ⟨v, e2, hload⟩ := loadVar_ok (P := P) (γ := fun _ _ => none) (w := default) (x := und) (pv := undef) hd hz e1
      refine ⟨v, e2, fun γ a w nt ht hr => ?_⟩
      obtain ⟨u, h3, h4⟩ := hload γ w _ hr (hp.rel (a := a) ht)
      refine ⟨u, run_results fn a.tmps (us := [u]) ?_, h4⟩
      have h3' : (resOne a.tmps (.cell c t)).run P w = .ok u w := h3
      rw [hl]
      simp only [List.mapM_cons, List.mapM_nil, Sem.run_bind, h3', Result.andThen_ok, Sem.run_pure]
    · rename_i l hn1 hn2
      obtain ⟨vs, e1, hvl, hs⟩ := resultsA_ok fn.results.toList hcell [] (fun vs => K (.tu vs) h) e
      refine ⟨_, e1, fun γ a w nt ht hr => ?_⟩
      obtain ⟨us, h1, h2⟩ := hs γ a w nt ht hr
      refine ⟨_, run_results fn a.tmps h1, ?_⟩
      have hlen : us.length = fn.results.toList.length := by rw [← h2.length]; exact hvl
      match us, h2, hlen with
      | [], h2, _ => simp only [VR]; exact ⟨_, rfl, by simpa using h2⟩
      | [u], h2, hlen =>
        exfalso
        match hl : fn.results.toList, hlen with
        | [.tmp t], _ => exact hn1 t hl
        | [.cell c t], _ => exact hn2 c t hl
      | u :: v :: us, h2, _ => simp only [VR]; exact ⟨_, rfl, by simpa using h2⟩
  · cases e

/-! ### deferred calls -/
theorem defers_ok {E : Env} (hE : EnvOK E) {r : Rec} (hrec : RecOK E.P r) : ∀ (l : List Dfr) (h : H) (K : H → Ans), defersA r l h K = .ok rv rh →
    ∃ h', K h' = .ok rv rh ∧ ∀ γ ds w, DfrsR γ l ds → HR γ h w → ∀ fn tmps (Rp : Ending → World → Prop), (∀ γ' w', Ext γ h w γ' h' w' → HR γ' h' w' → LeavesInM Fence.wide 0 E.P fn tmps Rp [] .returning w') → LeavesInM Fence.wide 0 E.P fn tmps Rp ds .returning w
  | [], h, K, e => ⟨h, e, fun γ ds w hd hr fn tmps Rp hk => by
      obtain rfl : ds = [] := hd
      exact hk γ w (Ext.refl γ h w) hr⟩
  | .call f args :: l, h, K, e => by
    unfold defersA at e
    split at e
    · rename_i fn0 first cap
      split at e
      · rename_i g
        rw [app2_eq, app2_eq] at e
        obtain ⟨v, h1, e1, ⟨fnn, c, hfn, hb⟩, hs⟩ := hrec.dcall _ _ _ _ _ _ e
        obtain ⟨h', e2, hrest⟩ := defers_ok hE hrec l h1 K e1
        refine ⟨h', e2, fun γ ds w hd hr fn tmps Rp hk => ?_⟩
        obtain ⟨d, ds, rfl, hd1, hd2⟩ := hd
        obtain ⟨fn1, first1, cap1, x, y, as, heq, _, rfl, hx, hy, has⟩ := hd1
        cases heq
        refine ⟨by simp, .inr ⟨FR_depth none 0, .func g, y, g, x ++ as ++ y, rfl, ?_, fun _ _ => trivial, ?_⟩⟩
        · simp only [invoke, run_callFunc hE.noCount hfn hb]
        · have hargs : VRL γ (first ++ (args ++ cap)) (x ++ as ++ y).toList := by
            simp only [Array.toList_append, List.append_assoc]
            exact hx.append (has.append hy)
          refine CallsDIn.mono (hs γ _ w hargs hr) ?_
          rintro e u' w' ⟨u, γ', rfl, rfl, hu, hx', hr'⟩
          show LeavesInM Fence.wide 0 E.P fn tmps Rp ds (settle .returning) w'
          exact hrest γ' ds w' (hd2.mono hx'.mono) hr' fn tmps Rp fun γ'' w'' hx'' hr'' => hk γ'' w'' (hx'.trans hx'') hr''
      · cases e
    · cases e
  | .coll a :: l, h, K, e => by
    unfold defersA at e
    obtain ⟨ob, ho, e1⟩ := H.getK_ok e
    split at e1
    · obtain ⟨h1, e2, hn, hget⟩ := H.putK_ok e1
      obtain ⟨h', e3, hrest⟩ := defers_ok hE hrec l h1 K e2
      refine ⟨h', e3, fun γ ds w hd hr fn tmps Rp hk => ?_⟩
      obtain ⟨d, ds, rfl, ⟨B, N, hg, rfl⟩, hd2⟩ := hd
      obtain ⟨ob2, o2, x1, x2, x3⟩ := hr.ob _ _ _ _ hg
      rw [ho] at x1; cases x1
      obtain ⟨_, l', rfl, hl'⟩ := x3
      have hl0 : l' = some [] := by
        cases l' with
        | none => exact hl'.elim
        | some l' => cases l' with
          | nil => rfl
          | cons d ds => cases hl'
      subst hl0
      have hfin := hr.putObj (w' := { w with heap := w.heap.setIfInBounds B (.deferred none) }) ho (fun v N o hh => hh.1) hg x2 (o' := .deferred none) (ob' := .dfr none) ⟨rfl, none, rfl, trivial⟩ hn hget rfl
      refine ⟨by simp, .inl ⟨B, { w with heap := w.heap.setIfInBounds B (.deferred none) }, rfl, ?_, ?_⟩⟩
      · simp only [Instr.takeDeferred, Sem.run_bind, run_getObj' x2 (fun _ _ _ h => by cases h), Result.andThen_ok, run_setObj' x2 (fun _ _ _ h => by cases h), Sem.run_pure]
      · exact hrest γ ds _ hd2 hfin.2 fn tmps Rp fun γ'' w'' hx'' hr'' => hk γ'' w'' (hfin.1.trans hx'') hr''
    · cases e1
theorem retGo_eq (r : Rec) (rs : BT) (K : KV) (tm : Tm) (h : H) : retGo r rs K tm h = defersA r tm.df h fun h => rs.run tm h K := by
  unfold retGo
  rw [df'_eq]
  cases tm.df <;> rfl

/-! ### a call -/
theorem funcs_of {P : Program} {f : FuncId} {fn : Func} (h : funcP P f = some fn) : P.funcs[f]? = some fn := by rw [← funcP_eq]; exact h
theorem call_ok {E : Env} (hE : EnvOK E) (hmix : E.P.follows .mixedOrders = true) {r : Rec} (hrec : RecOK E.P r) {f : FuncId} {args : List AV} {h : H} {K : KV} (e : callStep E r f args h K = .ok rv rh) : ∃ v h', K v h' = .ok rv rh ∧ CallSpec E.P f args h v h' := by
  unfold callStep at e
  cases hcf : cFunc E f with
  | no => rw [hcf] at e; cases e
  | mk nt c rs =>
    rw [hcf] at e
    unfold cFunc at hcf
    split at hcf
    · rename_i fn hfn
      split at hcf
      · rename_i body hb
        cases hcf
        obtain ⟨tm0, e1, hdf0, hle, hget⟩ := argTm_ok args 0 _ _ (show argTm fn.ntmps args Nat.zero (Tm.all (T1.all und) []) (fun tm => (cCode E fn.ntmps body).run r none tm h (retX r (cResults E.P fn.results.toList) K)) = .ok rv rh from e)
        obtain ⟨ex, tm1, h1, e2, hcode⟩ := cCode_ok hE hmix hrec body none tm0 h _ rv rh e1
        have hret : ∃ v h', K v h' = .ok rv rh ∧ (∀ id, ex ≠ .exit id) ∧ ∀ γ (a : Act) w, TmR γ fn.ntmps tm1 a.tmps → DfrsR γ tm1.df a.defers → HR γ h1 w → ∀ Rp : Ending → World → Prop, (∀ γ' w' u, Ext γ h1 w γ' h' w' → HR γ' h' w' → VR γ' v u → Rp (.returned u) w') → LeavesInM Fence.wide 0 E.P fn a.tmps Rp a.defers .returning w := by
          have go : retGo r (cResults E.P fn.results.toList) K tm1 h1 = .ok rv rh → (∀ id, ex ≠ .exit id) → ∃ v h', K v h' = .ok rv rh ∧ (∀ id, ex ≠ .exit id) ∧ ∀ γ (a : Act) w, TmR γ fn.ntmps tm1 a.tmps → DfrsR γ tm1.df a.defers → HR γ h1 w → ∀ Rp : Ending → World → Prop, (∀ γ' w' u, Ext γ h1 w γ' h' w' → HR γ' h' w' → VR γ' v u → Rp (.returned u) w') → LeavesInM Fence.wide 0 E.P fn a.tmps Rp a.defers .returning w := by
            intro e3 hne
            rw [retGo_eq] at e3
            obtain ⟨h', e4, hd⟩ := defers_ok hE hrec tm1.df h1 _ e3
            obtain ⟨v, e5, hres⟩ := cResults_ok e4
            refine ⟨v, h', e5, hne, fun γ a w ht hdf hr Rp hR => hd γ a.defers w hdf hr fn a.tmps Rp fun γ' w' hx' hr' => ?_⟩
            obtain ⟨u, h6, h7⟩ := hres γ' a w' fn.ntmps (ht.mono hx'.mono) hr'
            exact ⟨u, h6, hR γ' w' u hx' hr' h7⟩
          cases ex with
          | nrm => exact go e2 (fun id h => by cases h)
          | ret => exact go e2 (fun id h => by cases h)
          | exit id => cases e2
        obtain ⟨v, h', e3, hne, hleave⟩ := hret
        refine ⟨v, h', e3, ⟨fn, body, funcs_of hfn, hb⟩, fun γ vs w hv hr => ?_⟩
        refine callsIn_of_wp_marks (F := Fence.wide) (funcs_of hfn) hb trivial ?_
        have hst : St γ fn.ntmps tm0 h { tmps := vs ++ Array.replicate (fn.ntmps - vs.size) undef, defers := [] } w := ⟨args_tm hv hle hget, by rw [hdf0]; rfl, hr⟩
        refine wpIn_mono (hcode γ _ w none trivial hst) ?_
        rintro e a' w' ⟨rfl, γ', hst', hx'⟩
        have := hleave γ' a' w' hst'.tmr hst'.dfr hst'.hrr (fun e w' => ∃ u γ', e = .returned u ∧ VR γ' v u ∧ Ext γ h w γ' h' w' ∧ HR γ' h' w')
          fun γ'' w'' u hx'' hr'' hu => ⟨u, γ'', rfl, hu, hx'.trans hx'', hr''⟩
        cases ex with
        | nrm => exact this
        | ret => exact this
        | exit id => exact absurd rfl (hne id)
      · cases hcf
    · cases hcf
end Go.AB
namespace Go.AB
variable [Base]
variable {rv : AV} {rh : H}

/-! ### the body of a deferred function -/
def Exit.inBlockS (id : Nat) (Q : Exit → Act → List Frame → World → Prop) : Exit → Act → List Frame → World → Prop
  | .exit id', a, cs, w => if id' = id then Q .normal a cs w else Q (.exit id') a cs w
  | e, a, cs, w => Q e a cs w
theorem wpSIn_block {F : Fence} {n : Nat} {P : Program} {Q : Exit → Act → List Frame → World → Prop} {a : Act} {cs : List Frame} {w : World} {id : Nat} {c : Code} (h : c.wpSIn F n P (Exit.inBlockS id Q) a cs w) : (Code.block id c).wpSIn F n P Q a cs w := by
  intro b k hb hr hF hroom
  have i0 : (lone (b.atR a (.code (.block id c) :: k)) cs w).fenced P F := fenced_calm hF hroom rfl
  obtain ⟨e, a1, cs1, w1, hl, hq, harr⟩ := h b (.inBlock id :: k) hb hr hF hroom
  have hroom1 : F.room (cs1.length + 1 + n) := hl ▸ hroom
  have out : ∀ e, (∀ a cs w, Exit.inBlockS id Q e a cs w → Q e a cs w) → Exit.inBlockS id Q e a1 cs1 w1 → ArrivesIn (Machine.fenced P F) P (lone (b.atR a (.code (.block id c) :: k)) cs w) b k cs1 e a1 w1 →
      ∃ e a' cs' w', cs'.length = cs.length ∧ Q e a' cs' w' ∧ ArrivesIn (Machine.fenced P F) P (lone (b.atR a (.code (.block id c) :: k)) cs w) b k cs' e a' w' := fun e h1 h2 h3 => ⟨e, a1, cs1, w1, hl, h1 _ _ _ h2, h3⟩
  cases e with
  | normal => exact ⟨.normal, a1, cs1, w1, hl, hq, .head i0 stepR_block (StepsIn.trans harr (.one (fenced_calm hF hroom1 rfl) stepR_inBlock))⟩
  | exit id' =>
    by_cases hid : id' = id
    · simp only [Exit.inBlockS, hid, if_true] at hq
      exact ⟨.normal, a1, cs1, w1, hl, hq, .head i0 stepR_block (harr.1 k (by simp [exitTo, hid]))⟩
    · have hbq : (id == id') = false := by simp; exact fun h => hid h.symm
      have hx : exitTo id' (.inBlock id :: k) = exitTo id' k := by simp [exitTo, hbq]
      refine out (.exit id') (fun a cs w hh => by simpa only [Exit.inBlockS, hid, if_false] using hh) hq ⟨fun k' hk => .head i0 stepR_block (harr.1 k' (by rw [hx]; exact hk)), fun hr' hk => ?_⟩
      obtain ⟨k1, h1, h2⟩ := harr.2 hr' (by rw [hx]; exact hk)
      exact ⟨k1, h1, .head i0 stepR_block h2⟩
  | goto l =>
    have hx : gotoIn l (.inBlock id :: k) = gotoIn l k := by simp [gotoIn]
    refine out (.goto l) (fun _ _ _ hh => hh) hq ⟨fun k' hk => .head i0 stepR_block (harr.1 k' (by rw [hx]; exact hk)), fun hr' hk => ?_⟩
    obtain ⟨k1, h1, h2⟩ := harr.2 hr' (by rw [hx]; exact hk)
    exact ⟨k1, h1, .head i0 stepR_block h2⟩
  | ret => exact out .ret (fun _ _ _ hh => hh) hq (.of_steps (.one i0 stepR_block) harr)
  | panic ch => exact out (.panic ch) (fun _ _ _ hh => hh) hq (.of_steps (.one i0 stepR_block) harr)
  | outgrown => exact out .outgrown (fun _ _ _ hh => hh) hq (.of_steps (.one i0 stepR_block) harr)
theorem wpSIn_mono {F : Fence} {n : Nat} {P : Program} {Q Q' : Exit → Act → List Frame → World → Prop} {a : Act} {cs : List Frame} {w : World} {c : Code} (h : c.wpSIn F n P Q a cs w) (hq : ∀ e a cs w, Q e a cs w → Q' e a cs w) : c.wpSIn F n P Q' a cs w := by
  intro b k hb hr hF hroom
  obtain ⟨e, a1, cs1, w1, hl, q, r⟩ := h b k hb hr hF hroom
  exact ⟨e, a1, cs1, w1, hl, hq _ _ _ _ q, r⟩
def CodeSpecS (P : Program) (nt : Nat) (c : Code) (tm : Tm) (h : H) (ex : AX) (tm' : Tm) (h' : H) : Prop := ∀ γ a w (c0 : Frame) (cs : List Frame), c0.mode = .returning → St γ nt tm h a w →
  c.wpSIn Fence.wide 0 P (fun e a' cs' w' => cs' = c0 :: cs ∧ e = exE ex ∧ ∃ γ', St γ' nt tm' h' a' w' ∧ Ext γ h w γ' h' w') a (c0 :: cs) w
theorem CodeSpec.toS {P : Program} {nt : Nat} {c : Code} {tm tm' : Tm} {h h' : H} {ex : AX} (hs : CodeSpec P nt none c tm h ex tm' h') : CodeSpecS P nt c tm h ex tm' h' :=
  fun γ a w c0 cs _ hst => wpSIn_of_wpIn rfl (wpIn_mono (hs γ a w none trivial hst) fun _ _ _ hq => ⟨rfl, hq⟩)
theorem run_recover {P : Program} {o : Oper} (h : isRec o = true) (a : Act) (w : World) : (execOp a.eval o).run P w = .ok .recover w := by
  unfold isRec at h
  split at h
  · rename_i c hop
    split at h
    · rename_i hcal hargs
      rw [run_builtin hcal hop]
      rfl
    · cases h
  · cases h
/-- What an operation that calls nothing does, as the machine sees it. -/
theorem Eff.run {P : Program} {op : Op} {tm : Tm} {h h' : H} {val : AV} {k : Nat} (he : Eff P op (OV tm) h val h' k) {γ : Gh} {a : Act} {w : World} {o : Oper} (ho : o.op = op) (hop : OpdsR γ (OV tm) op a) (hr : HR γ h w) :
    ∃ r w' γ' v, (execOp a.eval o).run P w = .ok r w' ∧ (r = .value v ∨ r = .skip ∧ v = undef) ∧ VR γ' val v ∧ Ext γ h w γ' h' w' ∧ HR γ' h' w' := by
  cases he with
  | pure hs =>
    obtain ⟨v, h1, h2⟩ := hs γ a h w o ho hop hr
    exact ⟨_, w, γ, v, h1, .inl rfl, h2, Ext.refl γ h w, hr⟩
  | read hs =>
    obtain ⟨v, h1, h2⟩ := hs γ a h w o ho (fun _ _ e => e) hop hr
    exact ⟨_, w, γ, v, h1, .inl rfl, h2, Ext.refl γ h w, hr⟩
  | @new _ ob ver N hn hg hs =>
    obtain ⟨ob', w1, v, h1, h2, hst, h3⟩ := hs γ a h w o ho hop hr
    have hno : γ h.nx ver = none := by
      cases q : γ h.nx ver with
      | none => rfl
      | some x => exact absurd (hr.lt _ _ _ q) (Nat.lt_irrefl _)
    obtain ⟨h4, h5⟩ := h3 (γ.put h.nx ver w.heap.size N) (Gh.le_put hno) Gh.put_same
    obtain ⟨g1, g2⟩ := hr.new hn hg h2 h5 hst
    exact ⟨_, w1, _, v, h1, .inl rfl, h4, g2, g1⟩
  | act hs =>
    obtain ⟨r, w', γ', v, h1, h2, h3, h4, h5⟩ := hs γ a w o ho hop hr
    exact ⟨r, w', γ', v, h1, h2, h3, h4, h5⟩
theorem cOpsS_ok {E : Env} {r : Rec} {nt : Nat} {ops : Array Oper} : ∀ (l : List Oper) (k : Nat), (∀ i, i < l.length → ops[k + i]? = l[i]?) → ∀ {f : Rec → Tm → H → KT → Ans} (_ : cOpsS E nt l = .mk f) {tm : Tm} {h : H} {K : KT} (_ : f r tm h K = .ok rv rh),
    ∃ tm' h', K tm' h' = .ok rv rh ∧ ∀ γ a w (c0 : Frame) (cs : List Frame), c0.mode = .returning → St γ nt tm h a w → ∀ Q : Exit → Act → List Frame → World → Prop, (∀ γ' a' w', St γ' nt tm' h' a' w' → Ext γ h w γ' h' w' → Q .normal a' (c0 :: cs) w') →
      wpOpsSIn Fence.wide 0 E.P ops Q (List.range' k l.length) a (c0 :: cs) w
  | [], k, _, f, hc, tm, h, K, e => by
    cases hc
    exact ⟨tm, h, e, fun γ a w c0 cs _ hst Q hQ => hQ γ a w hst (Ext.refl γ h w)⟩
  | o :: l, k, hk, f, hc, tm, h, K, e => by
    have hc : (match cOpsS E nt l, cPut nt o.dst, o.guard with
      | .mk g, .mk put, none => match isRec o with
        | true => BR.mk fun r tm h K => put tm (fun tm h => g r tm h K) .i0 h
        | false => match cSimple E.P o.op with
          | .mk f => .mk fun r tm h K => f tm h (put tm fun tm h => g r tm h K)
      | _, _, _ => .mk fun _ _ _ _ => .err 226) = .mk f := hc
    have hko : ops[k]? = some o := by simpa using hk 0 (by simp)
    have hrest : ∀ i, i < l.length → ops[k + 1 + i]? = l[i]? := fun i hi => by have := hk (i + 1) (by simpa using hi); simpa [Nat.add_assoc, Nat.add_comm 1] using this
    split at hc
    · rename_i g put hg hp hgd
      have hw : ∀ a : Act, Region.wanted o (yielded ops a.tmps) = true := fun a => by unfold Region.wanted; rw [hgd]
      split at hc
      · rename_i hrecv
        cases hc
        obtain ⟨tm1, e1, hput⟩ := cPut_ok hp e
        obtain ⟨tm', h', e2, hs⟩ := cOpsS_ok l (k + 1) hrest hg e1
        refine ⟨tm', h', e2, fun γ a w c0 cs hm hst Q hQ => ?_⟩
        have hnone : recoverD (c0 :: cs) = none := by simp [recoverD, hm]
        simp only [List.length_cons, List.range'_succ, wpOpsSIn, hko, hw, if_true, run_recover hrecv, hnone]
        refine ⟨fun _ _ => trivial, hs γ _ w c0 cs hm ⟨hst.tmr.put hput (by simp [VR]), by rw [Act.put_df, hput.1]; exact hst.dfr, hst.hrr⟩ Q hQ⟩
      · split at hc
        rename_i f0 hf0
        cases hc
        obtain ⟨val, h1, e1, he⟩ := cSimple_ok hf0 e
        obtain ⟨tm1, e2, hput⟩ := cPut_ok hp e1
        obtain ⟨tm', h', e3, hs⟩ := cOpsS_ok l (k + 1) hrest hg e2
        refine ⟨tm', h', e3, fun γ a w c0 cs hm hst Q hQ => ?_⟩
        obtain ⟨rr, w', γ', v, q1, q2, q3, q4, q5⟩ := he.run (o := o) rfl (OpdsR_of hst.tmr _) hst.hrr
        have hst' : St γ' nt tm1 h1 (a.put o.dst v) w' := ⟨(hst.tmr.mono q4.mono).put hput q3, by rw [Act.put_df, hput.1]; exact hst.dfr.mono q4.mono, q5⟩
        have hgo := hs γ' _ w' c0 cs hm hst' Q fun γ'' a'' w'' h1 h2 => hQ γ'' a'' w'' h1 (q4.trans h2)
        simp only [List.length_cons, List.range'_succ, wpOpsSIn, hko, hw, if_true, q1]
        rcases q2 with rfl | ⟨rfl, rfl⟩
        · exact ⟨fun _ _ => trivial, hgo⟩
        · exact ⟨fun _ _ => trivial, hgo⟩
    · cases hc; cases e
def RunOKS (E : Env) (r : Rec) (nt : Nat) (c : Code) (b : BC) : Prop := ∀ tm h K rv rh, b.run r none tm h K = .ok rv rh → ∃ ex tm' h', K ex tm' h' = .ok rv rh ∧ CodeSpecS E.P nt c tm h ex tm' h'
theorem RunOK.toS {E : Env} {r : Rec} {nt : Nat} {c : Code} {b : BC} (h : RunOK E r nt c b) : RunOKS E r nt c b := fun tm hh K rv rh e => by
  obtain ⟨ex, tm', h', e1, hs⟩ := h none tm hh K rv rh e
  exact ⟨ex, tm', h', e1, hs.toS⟩
theorem cCodeS_ok {E : Env} (hE : EnvOK E) (hmix : E.P.follows .mixedOrders = true) {r : Rec} (hrec : RecOK E.P r) {nt : Nat} (c : Code) : RunOKS E r nt c (cCodeS E nt c) := by
  induction c with
  | region id ops draw =>
    have hd : cCodeS E nt (.region id ops draw) = (match draw, ops.toList.any isRec with
      | false, true => match cOpsS E nt ops.toList with
        | .mk f => .mk fun r _ tm h K => f r tm h (K .nrm)
      | _, _ => cCode E nt (.region id ops draw)) := rfl
    rw [hd]
    split
    · split
      rename_i f hf
      intro tm h K rv rh e
      obtain ⟨tm', h', e1, hs⟩ := cOpsS_ok (ops := ops) ops.toList 0 (fun i _ => by simp) hf (show f r tm h (K .nrm) = .ok rv rh from e)
      refine ⟨.nrm, tm', h', e1, fun γ a w c0 cs hm hst => wpSIn_region ?_⟩
      rw [List.range_eq_range', ← Array.length_toList]
      exact hs γ a w c0 cs hm hst _ fun γ' a' w' h1 h2 => ⟨rfl, rfl, γ', h1, h2⟩
    · exact (cCode_ok hE hmix hrec _).toS
  | seq x y ihx ihy =>
    intro tm h K rv rh e
    obtain ⟨ex, tm1, h1, e1, hs⟩ := ihx tm h _ rv rh (show (cCodeS E nt x).run r none tm h (seqX (cCodeS E nt y) r none K) = .ok rv rh from e)
    cases ex with
    | nrm =>
      obtain ⟨ex2, tm2, h2, e2, hs2⟩ := ihy tm1 h1 K rv rh e1
      refine ⟨ex2, tm2, h2, e2, fun γ a w c0 cs hm hst => wpSIn_seq (wpSIn_mono (hs γ a w c0 cs hm hst) ?_)⟩
      rintro e a' cs' w' ⟨rfl, rfl, γ', hst', hx'⟩
      refine wpSIn_mono (hs2 γ' a' w' c0 cs hm hst') ?_
      rintro e a'' cs'' w'' ⟨rfl, rfl, γ'', hst'', hx''⟩
      exact ⟨rfl, rfl, γ'', hst'', hx'.trans hx''⟩
    | exit id =>
      refine ⟨.exit id, tm1, h1, e1, fun γ a w c0 cs hm hst => wpSIn_seq (wpSIn_mono (hs γ a w c0 cs hm hst) ?_)⟩
      rintro e a' cs' w' ⟨rfl, rfl, hq⟩
      exact ⟨rfl, rfl, hq⟩
    | ret =>
      refine ⟨.ret, tm1, h1, e1, fun γ a w c0 cs hm hst => wpSIn_seq (wpSIn_mono (hs γ a w c0 cs hm hst) ?_)⟩
      rintro e a' cs' w' ⟨rfl, rfl, hq⟩
      exact ⟨rfl, rfl, hq⟩
  | cond c x y ihx ihy =>
    intro tm h K rv rh e
    have hd : cCodeS E nt (.cond c x y) = (match cOpd c with
      | .mk g => .mk fun r ro tm h K => g tm fun v => v.onB fun c => ifK c ((cCodeS E nt x).run r ro tm h K) ((cCodeS E nt y).run r ro tm h K)) := rfl
    rw [hd] at e
    cases hg : cOpd c with
    | mk g =>
      rw [hg] at e
      obtain ⟨v, hv, e1⟩ := cOpd_ok hg (show (g tm fun v => v.onB fun c => ifK c ((cCodeS E nt x).run r none tm h K) ((cCodeS E nt y).run r none tm h K)) = .ok rv rh from e)
      obtain ⟨b, rfl, e2⟩ := onB_ok e1
      rw [ifK_eq] at e2
      have hcv : ∀ {γ : Gh} {a : Act}, TmR γ nt tm a.tmps → a.eval c = .bool b := fun ht => by
        have := hv.rel (a := { tmps := _, defers := [] }) ht
        have h2 := hv.rel (a := ‹Act›) ht
        simpa only [VR] using h2
      cases b with
      | true =>
        obtain ⟨ex, tm1, h1, e3, hs⟩ := ihx tm h K rv rh e2
        exact ⟨ex, tm1, h1, e3, fun γ a w c0 cs hm hst => wpSIn_cond (hcv hst.tmr) (hs γ a w c0 cs hm hst)⟩
      | false =>
        obtain ⟨ex, tm1, h1, e3, hs⟩ := ihy tm h K rv rh e2
        exact ⟨ex, tm1, h1, e3, fun γ a w c0 cs hm hst => wpSIn_cond (hcv hst.tmr) (hs γ a w c0 cs hm hst)⟩
  | block id c ih =>
    intro tm h K rv rh e
    obtain ⟨ex, tm1, h1, e1, hs⟩ := ih tm h _ rv rh (show (cCodeS E nt c).run r none tm h (blockX id K) = .ok rv rh from e)
    cases ex with
    | nrm =>
      refine ⟨.nrm, tm1, h1, e1, fun γ a w c0 cs hm hst => wpSIn_block (wpSIn_mono (hs γ a w c0 cs hm hst) ?_)⟩
      rintro e a' cs' w' ⟨rfl, rfl, hq⟩; exact ⟨rfl, rfl, hq⟩
    | ret =>
      refine ⟨.ret, tm1, h1, e1, fun γ a w c0 cs hm hst => wpSIn_block (wpSIn_mono (hs γ a w c0 cs hm hst) ?_)⟩
      rintro e a' cs' w' ⟨rfl, rfl, hq⟩; exact ⟨rfl, rfl, hq⟩
    | exit i =>
      have e2 : ifK (Nat.beq i id) (K .nrm tm1 h1) (K (.exit i) tm1 h1) = .ok rv rh := e1
      rw [ifK_eq, nbeq] at e2
      by_cases hi : i = id
      · rw [if_pos (by simpa using hi)] at e2
        refine ⟨.nrm, tm1, h1, e2, fun γ a w c0 cs hm hst => wpSIn_block (wpSIn_mono (hs γ a w c0 cs hm hst) ?_)⟩
        rintro e a' cs' w' ⟨rfl, rfl, hq⟩
        simp only [exE, Exit.inBlockS, hi, if_true]; exact ⟨trivial, trivial, hq⟩
      · rw [if_neg (by simpa using hi)] at e2
        refine ⟨.exit i, tm1, h1, e2, fun γ a w c0 cs hm hst => wpSIn_block (wpSIn_mono (hs γ a w c0 cs hm hst) ?_)⟩
        rintro e a' cs' w' ⟨rfl, rfl, hq⟩
        simp only [exE, Exit.inBlockS, hi, if_false]; exact ⟨trivial, trivial, hq⟩
  | _ => exact (cCode_ok hE hmix hrec _).toS
theorem dcall_ok {E : Env} (hE : EnvOK E) (hmix : E.P.follows .mixedOrders = true) {r : Rec} (hrec : RecOK E.P r) {f : FuncId} {args : List AV} {h : H} {K : KV} (e : dcallStep E r f args h K = .ok rv rh) : ∃ v h', K v h' = .ok rv rh ∧ DCallSpec E.P f args h v h' := by
  unfold dcallStep at e
  cases hcf : cFuncS E f with
  | no => rw [hcf] at e; cases e
  | mk nt c rs =>
    rw [hcf] at e
    unfold cFuncS at hcf
    split at hcf
    · rename_i fn hfn
      split at hcf
      · rename_i body hb
        cases hcf
        obtain ⟨tm0, e1, hdf0, hle, hget⟩ := argTm_ok args 0 _ _ (show argTm fn.ntmps args Nat.zero (Tm.all (T1.all und) []) (fun tm => (cCodeS E fn.ntmps body).run r none tm h (retXS (cResults E.P fn.results.toList) K)) = .ok rv rh from e)
        obtain ⟨ex, tm1, h1, e2, hcode⟩ := cCodeS_ok hE hmix hrec body tm0 h _ rv rh e1
        have hret : ∃ v, K v h1 = .ok rv rh ∧ (∀ id, ex ≠ .exit id) ∧ tm1.df = [] ∧ ∀ γ (a : Act) w, TmR γ fn.ntmps tm1 a.tmps → HR γ h1 w → ∃ u, (results fn a.tmps).run E.P w = .ok u w ∧ VR γ v u := by
          have go : retGoS (cResults E.P fn.results.toList) K tm1 h1 = .ok rv rh → (∀ id, ex ≠ .exit id) → ∃ v, K v h1 = .ok rv rh ∧ (∀ id, ex ≠ .exit id) ∧ tm1.df = [] ∧ ∀ γ (a : Act) w, TmR γ fn.ntmps tm1 a.tmps → HR γ h1 w → ∃ u, (results fn a.tmps).run E.P w = .ok u w ∧ VR γ v u := by
            intro e3 hne
            unfold retGoS at e3
            rw [df'_eq] at e3
            cases hdf : tm1.df with
            | cons d ds => rw [hdf] at e3; cases e3
            | nil =>
              rw [hdf] at e3
              obtain ⟨v, e4, hres⟩ := cResults_ok (show (cResults E.P fn.results.toList).run tm1 h1 K = .ok rv rh from e3)
              exact ⟨v, e4, hne, rfl, fun γ a w ht hr => hres γ a w fn.ntmps ht hr⟩
          cases ex with
          | nrm => exact go e2 (fun id h => by cases h)
          | ret => exact go e2 (fun id h => by cases h)
          | exit id => cases e2
        obtain ⟨v, e3, hne, hdf1, hres⟩ := hret
        refine ⟨v, h1, e3, ⟨fn, body, funcs_of hfn, hb⟩, fun γ vs w hv hr => ?_⟩
        refine callsDIn_of_wpSIn (F := Fence.wide) (funcs_of hfn) hb trivial fun c0 cs hm => ?_
        have hst : St γ fn.ntmps tm0 h { tmps := vs ++ Array.replicate (fn.ntmps - vs.size) undef, defers := [] } w := ⟨args_tm hv hle hget, by rw [hdf0]; rfl, hr⟩
        refine wpSIn_mono (hcode γ _ w c0 cs hm hst) ?_
        rintro e a' cs' w' ⟨rfl, rfl, γ', hst', hx'⟩
        have hdf : a'.defers = [] := by have := hst'.dfr; rw [hdf1] at this; exact this
        obtain ⟨u, q1, q2⟩ := hres γ' a' w' hst'.tmr hst'.hrr
        have hc0 : c0 :: cs = { c0 with mode := .returning } :: cs := by rw [← hm]
        cases ex with
        | nrm => exact ⟨hdf, .returning, hc0, u, q1, u, γ', rfl, rfl, q2, hx', hst'.hrr⟩
        | ret => exact ⟨hdf, .returning, hc0, u, q1, u, γ', rfl, rfl, q2, hx', hst'.hrr⟩
        | exit id => exact absurd rfl (hne id)
      · cases hcf
    · cases hcf

/-! ### the whole evaluator -/
theorem recA_ok {E : Env} (hE : EnvOK E) (hmix : E.P.follows .mixedOrders = true) : ∀ n, RecOK E.P (recA E n)
  | 0 => ⟨fun _ _ _ _ _ _ e => (by cases e), fun _ _ _ _ _ _ e => (by cases e), fun _ _ _ _ _ _ _ _ e => (by cases e)⟩
  | n + 1 => by
    have ih := recA_ok hE hmix n
    exact ⟨fun f args h K rv rh e => call_ok hE hmix ih (show callStep E (recA E n) f args h K = .ok rv rh from e),
      fun f args h K rv rh e => dcall_ok hE hmix ih (show dcallStep E (recA E n) f args h K = .ok rv rh from e),
      fun nt ro c tm h K rv rh e => cCode_ok hE hmix ih c ro tm h K rv rh (show codeStep E (recA E n) nt ro c tm h K = .ok rv rh from e)⟩
/-- **A call: what the evaluator answers, the program answers.** The arguments are known, or values of which nothing is known. -/
theorem closed_call {E : Env} (hE : EnvOK E) (hmix : E.P.follows .mixedOrders = true) {n : Nat} {f : FuncId} {args : List AV} {vs : Array Value} (hv : VRL (fun _ _ => none) args vs.toList) (e : (recA E n).callK f args ⟨0, .e⟩ (fun v h => .ok v h) = .ok (.b true) rh) (w : World) (hbase : ∀ (B : Nat) o, Base.blocks[B]? = some o → w.heap[B]? = some o) :
    Calls E.P f vs w fun e w' => e = .returned (.bool true) ∧ RowKit.Below w.heap.size w w' := by
  obtain ⟨v, h', e1, _, hs⟩ := (recA_ok hE hmix n).call _ _ _ _ _ _ e
  cases e1
  have hr : HR (fun _ _ => none) (⟨0, .e⟩ : H) w := ⟨fun a v B N e => (by cases e), fun a v B N a' v' N' e => (by cases e), fun a v x e => (by cases e), fun a ob e => (by cases e), fun B o hb => ⟨hbase B o hb, fun a v N e => (by cases e)⟩⟩
  have := callsIn_wide.1 (hs (fun _ _ => none) vs w hv hr)
  refine Calls.mono this ?_
  rintro e w' ⟨u, γ', rfl, hu, hx, _⟩
  simp only [VR] at hu
  subst hu
  exact ⟨rfl, hx.still.os, hx.still.tape, hx.still.output, hx.wle, fun B hB => hx.wold B hB fun a v N e => by cases e⟩
end Go.AB
namespace Go.AB
variable [Base]
variable {rv : AV} {rh : H}

/-! ### the library functions that are taken whole: what they are, and that the evaluator's answers are theirs -/
def KeptBase (w : World) : Prop := ∀ (B : Nat) o, Base.blocks[B]? = some o → w.heap[B]? = some o
structure LibOK (E : Env) : Prop where
  noCount : NoCount E.P
  fieldsBody : ∃ fn c, E.P.funcs[E.fields]? = some fn ∧ fn.body = some c
  fields : ∀ (s : ByteArray) (w : World), KeptBase w → s.size < 4294967281 → (∀ (j : Nat) b, s.data.toList[j]? = some b → b.toNat < 128) → Calls E.P E.fields #[.string s] w fun e w' =>
    e = .returned (.slice (some ⟨w.heap.size, 0, none⟩) (Lib.fields s.data.toList).length (Lib.fields s.data.toList).length) ∧ w' = w.alloc (.cells ((Lib.fields s.data.toList).map fun l => Value.string ⟨l.toArray⟩).toArray E.str)
  index : ∃ fn, E.P.funcs[E.indexByte]? = some fn ∧ (fn.name == "runtime.NumGoroutine") = false ∧ fn.body.isNone = true ∧ Extern.findNext fn = none ∧ Extern.find fn = some Extern.BytealgIndexByte.indexByte

theorem byteN_drop (l : List UInt8) (j : Nat) (x : UInt8) (r m : List UInt8) (hl : l = r ++ x :: m) (hm : m.length = j) : byteN (encB l) j = x.toNat := by
  subst hl; subst hm
  rw [byteN_eq, show r ++ x :: m = (r ++ [x]) ++ m by simp, encB_div, encB_append]
  have h1 : x.toNat < 256 := x.toNat_lt
  have h2 : encB [x] = x.toNat := by simp [encB]
  rw [h2]
  show (encB r * 256 + x.toNat) % 256 = x.toNat
  omega
theorem indexByteA_ok (l : List UInt8) (c : Nat) (K : Int → Ans) : ∀ (m r : List UInt8), l = r ++ m → (∀ b ∈ r, b.toNat ≠ c) → indexByteA l.length (encB l) c m.length K = K (match (List.range l.length).find? fun i => (l[i]?.map (·.toNat)) == some c with | some i => (i : Int) | none => -1)
  | [], r, hl, hr => by
    have : (List.range l.length).find? (fun i => (l[i]?.map (·.toNat)) == some c) = none := by
      rw [List.find?_eq_none]
      intro i hi
      simp only [List.mem_range] at hi
      have hm : l[i] ∈ r := by
        have : l = r := by simpa using hl
        rw [← this]; exact List.getElem_mem hi
      simp only [List.getElem?_eq_getElem hi, Option.map_some, beq_iff_eq, Option.some.injEq]
      exact hr _ hm
    rw [this]; rfl
  | x :: m, r, hl, hr => by
    have e : indexByteA l.length (encB l) c (x :: m).length K = ifK (Nat.beq (byteN (encB l) m.length) c) (forceN (Nat.sub l.length (Nat.succ m.length)) fun i => K (.ofNat i)) (indexByteA l.length (encB l) c m.length K) := rfl
    rw [e, byteN_drop l m.length x r m hl rfl, ifK_eq, forceN_eq]
    by_cases hx : x.toNat = c
    · rw [if_pos (by simpa using hx)]
      have hlen : l.length = r.length + (m.length + 1) := by rw [hl]; simp
      have : (List.range l.length).find? (fun i => (l[i]?.map (·.toNat)) == some c) = some r.length := by
        rw [List.find?_range_eq_some]
        refine ⟨by rw [hl]; simp [hx], by simp [hlen], fun j hj => ?_⟩
        have : l[j]? = r[j]? := by rw [hl, List.getElem?_append_left hj]
        rw [this, List.getElem?_eq_getElem hj]
        have := hr _ (List.getElem_mem hj)
        simpa using this
      rw [this]
      show K (Int.ofNat (l.length - (m.length + 1))) = _
      rw [hlen]
      simp
    · rw [if_neg (by simpa using hx)]
      exact indexByteA_ok l c K m (r ++ [x]) (by simp [hl]) (fun b hb => by
        rcases List.mem_append.1 hb with h | h
        · exact hr b h
        · simp at h; subst h; exact hx)
set_option maxRecDepth 20000 in
theorem isSp_eq (b : UInt8) : isSp b.toNat = Lib.isSp b := by
  have h : ∀ n : Fin 256, isSp n.val = Lib.isSp (UInt8.ofNat n.val) := by decide
  have := h ⟨b.toNat, b.toNat_lt⟩
  simpa using this
def encF (l : List UInt8) : AV := .s l.length (encB l)
theorem endField_eq (cur : List UInt8) (acc : List AV) (K : List AV → Ans) : endField cur.length (encB cur) acc K = K (if cur.isEmpty then acc else encF cur :: acc) := by
  cases cur <;> rfl
theorem fieldsA_ok (code : Nat) (K : List AV → Ans) : ∀ (m cur : List UInt8) (acc : List AV), (∀ (j : Nat) (_ : j < m.length), byteN code j = (m[m.length - 1 - j]!).toNat) → fieldsA code m.length cur.length (encB cur) acc K = .ok rv rh →
    (∀ b ∈ m, b.toNat < 128) ∧ K (acc.reverse ++ (Lib.fieldsGo cur m).map encF) = .ok rv rh
  | [], cur, acc, _, e => by
    refine ⟨fun b hb => (by cases hb), ?_⟩
    have e' : (endField cur.length (encB cur) acc fun acc => revK acc [] K) = .ok rv rh := e
    rw [endField_eq, revK_eq] at e'
    rw [Lib.fieldsGo]
    cases hc : cur.isEmpty <;> simp only [hc, if_true, if_false, Bool.false_eq_true] at e' ⊢ <;> simpa using e'
  | x :: m, cur, acc, hb, e => by
    have hx : byteN code m.length = x.toNat := by
      have := hb m.length (by simp)
      simpa using this
    have hb' : ∀ (j : Nat) (_ : j < m.length), byteN code j = (m[m.length - 1 - j]!).toNat := fun j hj => by
      rw [hb j (by simp; omega)]
      have h1 : (x :: m).length - 1 - j = (m.length - 1 - j) + 1 := by simp; omega
      rw [h1]; rfl
    have e' : (forceN (byteN code m.length) (fieldStep (fieldsA code m.length) cur.length (encB cur) acc K)) = .ok rv rh := e
    rw [forceN_eq, hx] at e'
    have hmore : ∀ acc, (forceN (Nat.add (Nat.mul (encB cur) (nat_lit 256)) x.toNat) fun cc => fieldsA code m.length (Nat.succ cur.length) cc acc K) = .ok rv rh → Lib.isSp x = false → x.toNat < 128 →
        (∀ b ∈ x :: m, b.toNat < 128) ∧ K (acc.reverse ++ (Lib.fieldsGo cur (x :: m)).map encF) = .ok rv rh := fun acc e hs hlt => by
      rw [forceN_eq] at e
      have h1 : (cur ++ [x]).length = Nat.succ cur.length := by simp
      have h2 : encB (cur ++ [x]) = Nat.add (Nat.mul (encB cur) (nat_lit 256)) x.toNat := by
        rw [encB_append]; show encB cur * 256 ^ [x].length + encB [x] = encB cur * 256 + x.toNat
        simp [encB]
      rw [← h1, ← h2] at e
      obtain ⟨g1, g2⟩ := fieldsA_ok code K m (cur ++ [x]) acc hb' e
      refine ⟨fun b hb => ?_, by rw [Lib.fieldsGo_more _ _ _ hs]; exact g2⟩
      rcases List.mem_cons.1 hb with rfl | h
      · exact hlt
      · exact g1 b h
    have e'' : ifK (Nat.ble x.toNat (nat_lit 32)) (ifK (isSp x.toNat) (endField cur.length (encB cur) acc fun acc => fieldsA code m.length Nat.zero Nat.zero acc K) (forceN (Nat.add (Nat.mul (encB cur) (nat_lit 256)) x.toNat) fun cc => fieldsA code m.length (Nat.succ cur.length) cc acc K))
      (ifK (Nat.ble x.toNat (nat_lit 127)) (forceN (Nat.add (Nat.mul (encB cur) (nat_lit 256)) x.toNat) fun cc => fieldsA code m.length (Nat.succ cur.length) cc acc K) (.err 210)) = .ok rv rh := e'
    rw [ifK_eq, ifK_eq, ifK_eq, isSp_eq] at e''
    split at e''
    · rename_i h32
      have h32 : x.toNat ≤ 32 := Nat.le_of_ble_eq_true h32
      split at e''
      · rename_i hs
        rw [endField_eq] at e''
        obtain ⟨g1, g2⟩ := fieldsA_ok code K m [] _ hb' e''
        refine ⟨fun b hb => by
          rcases List.mem_cons.1 hb with rfl | h
          · exact Nat.lt_of_le_of_lt h32 (by decide)
          · exact g1 b h, ?_⟩
        rw [Lib.fieldsGo, if_pos hs]
        cases hc : cur.isEmpty <;> simp only [hc, if_true, if_false, Bool.false_eq_true] at g2 ⊢ <;> simpa using g2
      · rename_i hs
        exact hmore acc e'' (by simpa using hs) (by omega)
    · rename_i h32
      split at e''
      · rename_i h127
        have h127 : x.toNat ≤ 127 := Nat.le_of_ble_eq_true h127
        refine hmore acc e'' ?_ (by omega)
        rw [← isSp_eq]
        have h33 : ¬ x.toNat ≤ 32 := fun h => h32 (Nat.ble_eq_true_of_le h)
        show orB (Nat.beq x.toNat 32) (andB (Nat.ble 9 x.toNat) (Nat.ble x.toNat 13)) = false
        rw [orB_eq, andB_eq]
        have a : Nat.beq x.toNat 32 = false := by
          cases h : Nat.beq x.toNat 32 with
          | false => rfl
          | true => exact absurd (Nat.eq_of_beq_eq_true h) (by omega)
        have b : Nat.ble x.toNat 13 = false := by
          cases h : Nat.ble x.toNat 13 with
          | false => rfl
          | true => exact absurd (Nat.le_of_ble_eq_true h) (by omega)
        rw [a, b]; simp
      · cases e''

theorem data_inj {s t : ByteArray} (h : s.data.toList = t.data.toList) : s = t := by
  have h1 := Lib.mk_data s
  have h2 := Lib.mk_data t
  rw [← h1, ← h2, h]
theorem endField_some {cl cc : Nat} {acc : List AV} {K : List AV → Ans} (e : endField cl cc acc K = .ok rv rh) : ∃ l, K l = .ok rv rh := by
  cases cl <;> exact ⟨_, e⟩
theorem fieldsA_some (code : Nat) (K : List AV → Ans) : ∀ (k cl cc : Nat) (acc : List AV), fieldsA code k cl cc acc K = .ok rv rh → ∃ l, K l = .ok rv rh
  | 0, cl, cc, acc, e => by
    obtain ⟨l, e1⟩ := endField_some (show (endField cl cc acc fun acc => revK acc [] K) = .ok rv rh from e)
    rw [revK_eq] at e1
    exact ⟨_, e1⟩
  | k + 1, cl, cc, acc, e => by
    have e' : forceN (byteN code k) (fun c => ifK (Nat.ble c (nat_lit 32)) (ifK (isSp c) (endField cl cc acc fun acc => fieldsA code k Nat.zero Nat.zero acc K) (forceN (Nat.add (Nat.mul cc (nat_lit 256)) c) fun cc => fieldsA code k (Nat.succ cl) cc acc K))
      (ifK (Nat.ble c (nat_lit 127)) (forceN (Nat.add (Nat.mul cc (nat_lit 256)) c) fun cc => fieldsA code k (Nat.succ cl) cc acc K) (.err 210))) = .ok rv rh := e
    rw [forceN_eq, ifK_eq, ifK_eq, ifK_eq, forceN_eq] at e'
    split at e'
    · split at e'
      · obtain ⟨l, e1⟩ := endField_some e'
        exact fieldsA_some code K k _ _ _ e1
      · exact fieldsA_some code K k _ _ _ e'
    · split at e'
      · exact fieldsA_some code K k _ _ _ e'
      · cases e'
theorem firstIdx_eq (s : ByteArray) (c : Nat) (hc : c ≤ 255) : firstIdx s (c : Int).toNat.toUInt8 = (match (List.range s.data.toList.length).find? fun i => (s.data.toList[i]?.map (·.toNat)) == some c with | some i => (i : Int) | none => -1) := by
  have hlen : s.data.toList.length = s.size := (Lib.size_eq s).symm
  have key : (List.range s.size).find? (fun i => s[i]! == (c : Int).toNat.toUInt8) = (List.range s.size).find? (fun i => (s.data.toList[i]?.map (·.toNat)) == some c) := by
    refine find?_congr' _ fun i hi => ?_
    have hi : i < s.size := List.mem_range.1 hi
    have e1 : s[i]! = s.data.toList[i]'(by rw [hlen]; exact hi) := by
      rw [getElem!_pos s i hi]; rfl
    rw [e1, List.getElem?_eq_getElem (by rw [hlen]; exact hi)]
    generalize s.data.toList[i]'(by rw [hlen]; exact hi) = b
    show (b == (c : Int).toNat.toUInt8) = (some b.toNat == some c)
    rw [Bool.eq_iff_iff, beq_iff_eq, beq_iff_eq, Option.some.injEq]
    constructor
    · rintro rfl
      show (UInt8.ofNat c).toNat = c
      rw [UInt8.toNat_ofNat']
      exact Nat.mod_eq_of_lt (by omega)
    · intro h
      apply UInt8.toNat.inj
      show b.toNat = (UInt8.ofNat c).toNat
      rw [UInt8.toNat_ofNat', h]
      exact (Nat.mod_eq_of_lt (by omega)).symm
  unfold firstIdx
  rw [key, hlen]
  cases List.find? (fun i => Option.map (fun x => x.toNat) s.data.toList[i]? == some c) (List.range s.size) <;> rfl
where
  find?_congr' {α : Type} {p q : α → Bool} (l : List α) (h : ∀ x ∈ l, p x = q x) : l.find? p = l.find? q := by
    induction l with
    | nil => rfl
    | cons x l ih =>
      rw [List.find?_cons, List.find?_cons, h x (by simp), ih fun y hy => h y (by simp [hy])]
theorem kindEq_u8 {k : IntKind} (h : kindEq k .u8 = true) : k = .u8 := kindEq_iff.1 h
theorem VRL_one {γ : Gh} {x : AV} {l : List Value} (h : VRL γ [x] l) : ∃ v, l = [v] ∧ VR γ x v := by
  simp only [VRL] at h
  obtain ⟨v, vs, rfl, h1, rfl⟩ := h
  exact ⟨v, rfl, h1⟩
theorem VRL_two {γ : Gh} {x y : AV} {l : List Value} (h : VRL γ [x, y] l) : ∃ u v, l = [u, v] ∧ VR γ x u ∧ VR γ y v := by
  simp only [VRL] at h
  obtain ⟨u, us, rfl, h1, v, vs, rfl, h2, rfl⟩ := h
  exact ⟨u, v, rfl, h1, h2⟩
theorem size_data (s : ByteArray) : s.size = s.data.toList.length := Lib.size_eq s
theorem indexA_ok {E : Env} (hL : LibOK E) {args : List AV} {h : H} {K : KV} (e : (match args with
      | [x, y] => x.onS fun n code => y.onI fun k c => natOf c fun c => ifK (andB (kindEq k .u8) (Nat.ble c (nat_lit 255))) (indexByteA n code c n fun i => K (.i .i64 i) h) (.err 211)
      | _ => .err 211) = .ok rv rh) : ∃ v h', K v h' = .ok rv rh ∧ FnSpec E.P E.indexByte args h v h' := by
  split at e
  · obtain ⟨n, code, rfl, e1⟩ := onS_ok e
    obtain ⟨k, c, rfl, e2⟩ := onI_ok e1
    obtain ⟨c, rfl, e3⟩ := natOf_ok e2
    rw [ifK_eq, andB_eq] at e3
    split at e3
    · rename_i hh
      rw [Bool.and_eq_true] at hh
      obtain rfl := kindEq_u8 hh.1
      have hc : c ≤ 255 := Nat.le_of_ble_eq_true hh.2
      by_cases hex : ∃ s : ByteArray, s.size = n ∧ encS s = code
      · obtain ⟨s, hs1, hs2⟩ := hex
        have e4 : indexByteA s.data.toList.length (encB s.data.toList) c s.data.toList.length (fun i => K (.i .i64 i) h) = .ok rv rh := by
          rw [← size_data, hs1]
          show indexByteA n (encS s) c n _ = _
          rw [hs2]; exact e3
        rw [indexByteA_ok s.data.toList c _ s.data.toList [] rfl (fun b hb => by cases hb), ← firstIdx_eq s c hc] at e4
        refine ⟨_, h, e4, fun γ vs w hvs hr R o a next Q hnext => ?_⟩
        obtain ⟨u, v, hl, h1, h2⟩ := VRL_two hvs
        simp only [VR] at h1 h2
        obtain ⟨s', rfl, h3, h4⟩ := h1
        subst h2
        have hss : s' = s := by
          have : s'.data.toList = s.data.toList := encB_inj (by rw [← size_data, ← size_data, h3, hs1]) (show encS s' = encS s by rw [h4, hs2])
          exact data_inj this
        subst hss
        obtain ⟨fn, hf, hn, hb, hnx, hfi⟩ := hL.index
        have : vs = #[.string s', .int .u8 c] := by
          apply Array.toList_inj.1
          rw [hl]
        subst this
        rw [run_callFunc_extern hf hn hb hnx hfi, run_indexByte_string, Result.andThen_ok, Oper.uponIn_value]
        exact hnext _ w γ (by simp only [VR]) (Ext.refl _ _ _) hr
      · have : ∃ i, K (.i .i64 i) h = .ok rv rh := by
          have go : ∀ k, indexByteA n code c k (fun i => K (.i .i64 i) h) = .ok rv rh → ∃ i, K (.i .i64 i) h = .ok rv rh := by
            intro k
            induction k with
            | zero => exact fun e => ⟨_, e⟩
            | succ k ih =>
              intro e
              have e' : ifK (Nat.beq (byteN code k) c) (forceN (Nat.sub n (Nat.succ k)) fun i => K (.i .i64 (.ofNat i)) h) (indexByteA n code c k fun i => K (.i .i64 i) h) = .ok rv rh := e
              rw [ifK_eq, forceN_eq] at e'
              split at e'
              · exact ⟨_, e'⟩
              · exact ih e'
          exact go n e3
        obtain ⟨i, e4⟩ := this
        refine ⟨_, h, e4, fun γ vs w hvs hr R o a next Q hnext => ?_⟩
        obtain ⟨u, v, hl, h1, h2⟩ := VRL_two hvs
        simp only [VR] at h1
        obtain ⟨s', _, h3, h4⟩ := h1
        exact absurd ⟨s', h3, h4⟩ hex
    · cases e3
  · cases e
theorem encF_rel {γ : Gh} : ∀ l : List (List UInt8), VRL γ (l.map encF) ((l.map fun l => Value.string ⟨l.toArray⟩).toArray).toList
  | [] => by simp
  | x :: l => by
    have := encF_rel (γ := γ) l
    simp only [List.map_cons, VRL_cons]
    exact ⟨by simp only [encF, VR]; exact ⟨_, rfl, by simp [size_data], rfl⟩, by simpa using this⟩
theorem fieldsF_ok {E : Env} (hL : LibOK E) {args : List AV} {h : H} {K : KV} (e : (match args with
      | [x] => x.onS fun n code => ifK (Nat.ble n (nat_lit 1000000000)) (fieldsA code n Nat.zero Nat.zero [] fun l => putCells l Nat.zero .e fun t => forceN (lenN l) fun len => h.newK (.blk len t) fun a h => K (.sl a Nat.zero Nat.zero len (nat_lit 1) Nat.zero) h) (.err 212)
      | _ => .err 212) = .ok rv rh) : ∃ v h', K v h' = .ok rv rh ∧ FnSpec E.P E.fields args h v h' := by
  split at e
  · obtain ⟨n, code, rfl, e1⟩ := onS_ok e
    rw [ifK_eq] at e1
    split at e1
    · rename_i hn
      have hn : n ≤ 1000000000 := Nat.le_of_ble_eq_true hn
      by_cases hex : ∃ s : ByteArray, s.size = n ∧ encS s = code
      · obtain ⟨s, rfl, rfl⟩ := hex
        have hb : ∀ (j : Nat) (_ : j < s.data.toList.length), byteN (encS s) j = (s.data.toList[s.data.toList.length - 1 - j]!).toNat := fun j hj => by
          have hk : s.data.toList.length - 1 - j < s.data.toList.length := by omega
          rw [getElem!_pos s.data.toList _ hk]
          refine byteN_drop _ j _ (s.data.toList.take (s.data.toList.length - 1 - j)) (s.data.toList.drop (s.data.toList.length - 1 - j + 1)) ?_ (by rw [List.length_drop]; omega)
          rw [← List.drop_eq_getElem_cons hk, List.take_append_drop]
        have e2 : fieldsA (encS s) s.data.toList.length ([] : List UInt8).length (encB []) [] (fun l => putCells l Nat.zero .e fun t => forceN (lenN l) fun len => h.newK (.blk len t) fun a h => K (.sl a Nat.zero Nat.zero len (nat_lit 1) Nat.zero) h) = .ok rv rh := by
          rw [← size_data]; exact e1
        obtain ⟨hasc, e3⟩ := fieldsA_ok (encS s) _ s.data.toList [] [] hb e2
        obtain ⟨t, e4, ht⟩ := putCells_ok _ 0 .e _ e3
        rw [forceN_eq, lenN_eq] at e4
        obtain ⟨h', e5, hnx, hg⟩ := newK_ok e4
        have hlen : (([] : List AV).reverse ++ (Lib.fieldsGo [] s.data.toList).map encF).length = (Lib.fields s.data.toList).length := by simp [Lib.fields]
        rw [hlen] at hg e5
        refine ⟨_, h', e5, fun γ vs w hvs hr R o a next Q hnext => ?_⟩
        obtain ⟨v, hl, h1⟩ := VRL_one hvs
        simp only [VR] at h1
        obtain ⟨s', rfl, h3, h4⟩ := h1
        have hss : s' = s := by
          have : s'.data.toList = s.data.toList := encB_inj (by rw [← size_data, ← size_data, h3]) h4
          exact data_inj this
        subst hss
        have : vs = #[.string s'] := by
          apply Array.toList_inj.1
          rw [hl]
        subst this
        obtain ⟨fn, c, hf, hb⟩ := hL.fieldsBody
        rw [run_callFunc hL.noCount hf hb, Oper.uponIn_enter]
        have hcalls := hL.fields s' w (fun B o hB => (hr.base B o hB).1) (by omega) fun j b hj => hasc b (List.mem_of_getElem? hj)
        refine ⟨FR_depth R 0, callsIn_FR (n := 0) (CallsIn.mono (callsIn_wide.2 hcalls) fun e w' he => ?_)⟩
        obtain ⟨rfl, rfl⟩ := he
        have hnew := HR.new hr (o := .cells ((Lib.fields s'.data.toList).map fun l => Value.string ⟨l.toArray⟩).toArray E.str) (v := 0) (N := (Lib.fields s'.data.toList).length) hnx hg (w' := w.alloc (.cells ((Lib.fields s'.data.toList).map fun l => Value.string ⟨l.toArray⟩).toArray E.str)) rfl
          (ObR_blk (by simp) (by
            have := CellsR.of_list (γ := γ.put h.nx 0 w.heap.size (Lib.fields s'.data.toList).length) (t := t) (l := (Lib.fields s'.data.toList).map encF) (c := ((Lib.fields s'.data.toList).map fun l => Value.string ⟨l.toArray⟩).toArray)
              (fun j hj => by rw [ht, if_pos ⟨Nat.zero_le _, by simpa [Lib.fields] using hj⟩]; rfl) (fun x hx => by obtain ⟨l, _, rfl⟩ := List.mem_map.1 hx; rfl) (encF_rel _)
            rwa [List.length_map] at this))
        refine hnext _ _ _ ?_ hnew.2 hnew.1
        simp only [VR]
        exact ⟨w.heap.size, _, _, Gh.put_same, 0, rfl, fun _ => rfl, by omega, Nat.le_refl _, by simp, fun _ => by simp, fun h => absurd rfl h⟩
      · have : ∃ v h', K v h' = .ok rv rh := by
          obtain ⟨l, e2⟩ := fieldsA_some code _ n _ _ _ e1
          obtain ⟨t, e4, ht⟩ := putCells_ok _ 0 .e _ e2
          rw [forceN_eq] at e4
          obtain ⟨h', e5, _, _⟩ := newK_ok e4
          exact ⟨_, _, e5⟩
        obtain ⟨v, h', e4⟩ := this
        refine ⟨v, h', e4, fun γ vs w hvs hr R o a next Q hnext => ?_⟩
        obtain ⟨v, hl, h1⟩ := VRL_one hvs
        simp only [VR] at h1
        obtain ⟨s', _, h3, h4⟩ := h1
        exact absurd ⟨s', h3, h4⟩ hex
    · cases e1
  · cases e
/-- What is taken whole otherwise is what the program does. -/
def ExtOK (E : Env) : Prop := ∀ f g, E.ext f = .mk g → ∀ (args : List AV) (h : H) (K : KV) (rv : AV) (rh : H), g args h K = .ok rv rh → ∃ v h', K v h' = .ok rv rh ∧ FnSpec E.P f args h v h'
theorem envOK {E : Env} (hL : LibOK E) (hX : ExtOK E) : EnvOK E where
  noCount := hL.noCount
  lib := fun r f args h K rv rh hb e => by
    unfold callFuncA at e
    cases hf : funcBF E f with
    | body => exact absurd hf hb
    | no => rw [hf] at e; cases e
    | ext g =>
      rw [hf] at e
      have hfi : E.ext f = .mk g := by
        unfold funcBF at hf
        split at hf
        · rename_i g' h1; cases hf; exact h1
        · (repeat' split at hf) <;> cases hf
      exact hX f g hfi args h K rv rh e
    | indexByte =>
      rw [hf] at e
      have hfi : f = E.indexByte := by
        unfold funcBF at hf
        split at hf
        · cases hf
        · split at hf
          · cases hf
          · split at hf
            · rename_i h1; exact Nat.eq_of_beq_eq_true h1
            · cases hf
      rw [hfi]
      exact indexA_ok hL e
    | fields t =>
      rw [hf] at e
      have hfi : f = E.fields := by
        unfold funcBF at hf
        split at hf
        · cases hf
        · split at hf
          · rename_i h1; exact Nat.eq_of_beq_eq_true h1
          · split at hf <;> cases hf
      rw [hfi]
      exact fieldsF_ok hL e
end Go.AB
