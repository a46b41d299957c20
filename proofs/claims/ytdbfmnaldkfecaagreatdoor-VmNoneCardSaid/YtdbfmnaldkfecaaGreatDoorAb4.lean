/-
  The evaluator (abstract runs of a loaded program's code) and its soundness: part Ab4.
-/
import Derived.Test.YtdbfmnaldkfecaaGreatDoorAb3
import Derived.OrdersIn
set_option linter.all false
namespace Go.AB
variable [Base]
variable {rv : AV} {rh : H} {P : Program}

/-! ### temporaries, read and written -/
noncomputable def T1.getN (t : T1) (j : Nat) : AV := match selG1 j with | .mk g _ => g t
noncomputable def Tm.getN (t : Tm) (j : Nat) : T1 := match selG2 j with | .mk g _ => g t
theorem T1.set_ok (j : Nat) (hj : j < 16) : ∃ g s, selG1 j = .mk g s ∧ ∀ K v (t : T1), ∃ t', s K v t = K t' ∧ ∀ i, i < 16 → T1.getN t' i = if i = j then v else T1.getN t i := by
  have h16 : j = 0 ∨ j = 1 ∨ j = 2 ∨ j = 3 ∨ j = 4 ∨ j = 5 ∨ j = 6 ∨ j = 7 ∨ j = 8 ∨ j = 9 ∨ j = 10 ∨ j = 11 ∨ j = 12 ∨ j = 13 ∨ j = 14 ∨ j = 15 := by omega
  rcases h16 with rfl | rfl | rfl | rfl | rfl | rfl | rfl | rfl | rfl | rfl | rfl | rfl | rfl | rfl | rfl | rfl <;>
    refine ⟨_, _, rfl, fun K v t => ?_⟩ <;> cases t <;> refine ⟨_, rfl, fun i hi => ?_⟩ <;>
    (have h16 : i = 0 ∨ i = 1 ∨ i = 2 ∨ i = 3 ∨ i = 4 ∨ i = 5 ∨ i = 6 ∨ i = 7 ∨ i = 8 ∨ i = 9 ∨ i = 10 ∨ i = 11 ∨ i = 12 ∨ i = 13 ∨ i = 14 ∨ i = 15 := by omega
     rcases h16 with rfl | rfl | rfl | rfl | rfl | rfl | rfl | rfl | rfl | rfl | rfl | rfl | rfl | rfl | rfl | rfl <;> rfl)
theorem Tm.set_ok (j : Nat) (hj : j < 16) : ∃ g s, selG2 j = .mk g s ∧ ∀ (s1 : (T1 → Ans) → AV → T1 → Ans) K v (t : Tm) (Q : T1 → Prop), (∀ K, ∃ t', s1 K v (g t) = K t' ∧ Q t') →
    ∃ t' : Tm, s s1 K v t = K t' ∧ t'.df = t.df ∧ ∀ i, i < 16 → (i = j → Q (Tm.getN t' i)) ∧ (i ≠ j → Tm.getN t' i = Tm.getN t i) := by
  have h16 : j = 0 ∨ j = 1 ∨ j = 2 ∨ j = 3 ∨ j = 4 ∨ j = 5 ∨ j = 6 ∨ j = 7 ∨ j = 8 ∨ j = 9 ∨ j = 10 ∨ j = 11 ∨ j = 12 ∨ j = 13 ∨ j = 14 ∨ j = 15 := by omega
  rcases h16 with rfl | rfl | rfl | rfl | rfl | rfl | rfl | rfl | rfl | rfl | rfl | rfl | rfl | rfl | rfl | rfl <;>
    refine ⟨_, _, rfl, fun s1 K v t Q h1 => ?_⟩ <;> cases t <;> refine (h1 _).elim fun t' hh => ⟨_, hh.1, rfl, fun i hi => ?_⟩ <;>
    (have h16 : i = 0 ∨ i = 1 ∨ i = 2 ∨ i = 3 ∨ i = 4 ∨ i = 5 ∨ i = 6 ∨ i = 7 ∨ i = 8 ∨ i = 9 ∨ i = 10 ∨ i = 11 ∨ i = 12 ∨ i = 13 ∨ i = 14 ∨ i = 15 := by omega
     rcases h16 with rfl | rfl | rfl | rfl | rfl | rfl | rfl | rfl | rfl | rfl | rfl | rfl | rfl | rfl | rfl | rfl <;>
       first
       | exact ⟨fun _ => hh.2, fun h => absurd rfl h⟩
       | exact ⟨fun h => (by cases h), fun _ => rfl⟩)
theorem Tm.get_eq (t : Tm) (i : Nat) : t.get i = (t.getN (i / 16)).getN (i % 16) := by
  unfold Tm.get Tm.getN T1.getN
  cases selG2 (i / 16); cases selG1 (i % 16); rfl
/-- What a write does. -/
def PutR (nt : Nat) (dst : Option Tmp) (tm : Tm) (v : AV) (tm' : Tm) : Prop :=
  tm'.df = tm.df ∧ (∀ i, i < 256 → tm'.get i = if dst = some i then v else tm.get i) ∧ ∀ d, dst = some d → d < nt ∧ d < 256
theorem cPut_ok {nt : Nat} {dst : Option Tmp} {put : Tm → KT → KV} (hc : cPut nt dst = .mk put) {tm : Tm} {K : KT} {v : AV} {h : H} (e : put tm K v h = .ok rv rh) :
    ∃ tm', K tm' h = .ok rv rh ∧ PutR nt dst tm v tm' := by
  cases dst with
  | none =>
    cases hc
    exact ⟨tm, e, rfl, fun i _ => by simp, fun d hd => by cases hd⟩
  | some d =>
    simp only [cPut] at hc
    split at hc
    · rename_i hb
      rw [Bool.and_eq_true] at hb
      have b1 : @LT.lt Nat instLTNat d nt := Nat.le_of_ble_eq_true hb.1
      have b2 : @LT.lt Nat instLTNat d 256 := Nat.le_of_ble_eq_true hb.2
      obtain ⟨g1, s1, h1, k1⟩ := T1.set_ok (d % 16) (by omega)
      obtain ⟨g2, s2, h2, k2⟩ := Tm.set_ok (d / 16) (by omega)
      rw [h1, h2] at hc
      cases hc
      obtain ⟨tm', q1, q2, q3⟩ := k2 s1 (fun tm => K tm h) v tm (fun t' => ∀ i, i < 16 → t'.getN i = if i = d % 16 then v else (g2 tm).getN i) (fun K => k1 K v (g2 tm))
      have e : s2 s1 (fun tm => K tm h) v tm = .ok rv rh := e
      rw [q1] at e
      have hg2 : tm.getN (d / 16) = g2 tm := by unfold Tm.getN; rw [h2]
      refine ⟨tm', e, q2, fun i hi => ?_, fun d' hd' => by cases hd'; exact ⟨b1, b2⟩⟩
      rw [Tm.get_eq, Tm.get_eq]
      obtain ⟨r1, r2⟩ := q3 (i / 16) (by omega)
      by_cases hd : i = d
      · subst hd
        rw [if_pos rfl, r1 rfl _ (by omega), if_pos rfl]
      · rw [if_neg (by simpa using fun h => hd h.symm)]
        by_cases hq : i / 16 = d / 16
        · rw [r1 hq _ (by omega), if_neg (by omega), hq, hg2]
        · rw [r2 hq]
    · cases hc; cases e
theorem TmR.put {γ : Gh} {nt : Nat} {tm tm' : Tm} {v : AV} {u : Value} {a : Act} {dst : Option Tmp} (h : TmR γ nt tm a.tmps) (hp : PutR nt dst tm v tm') (hv : VR γ v u) : TmR γ nt tm' (a.put dst u).tmps := by
  obtain ⟨p1, p2, p3⟩ := hp
  cases dst with
  | none =>
    refine ⟨h.1, fun i hi => ?_⟩
    rw [p2 i hi, if_neg (by simp)]
    exact h.2 i hi
  | some d =>
    obtain ⟨q1, q2⟩ := p3 d rfl
    refine ⟨by simpa [Act.put] using h.1, fun i hi => ?_⟩
    rw [p2 i hi]
    by_cases hd : d = i
    · subst hd
      rw [if_pos rfl]
      have : (a.put (some d) u).tmps.getD d undef = u := by
        simp [Act.put, h.1, q1]
      rw [this]; exact hv
    · rw [if_neg (by simpa using hd)]
      have : (a.put (some d) u).tmps.getD i undef = a.tmps.getD i undef := by
        simp [Act.put, Array.getElem?_setIfInBounds_ne hd]
      rw [this]; exact h.2 i hi
theorem Act.put_df (a : Act) (dst : Option Tmp) (v : Value) : (a.put dst v).defers = a.defers := by cases dst <;> rfl
theorem setDf_eq (tm : Tm) (df : List Dfr) (K : Tm → Ans) : ∃ tm', tm.setDf df K = K tm' ∧ tm'.df = df ∧ ∀ i, tm'.get i = tm.get i := by
  cases tm
  refine ⟨_, rfl, rfl, fun i => ?_⟩
  rw [Tm.get_eq, Tm.get_eq]
  congr 1
  unfold Tm.getN
  have h16 : i / 16 = 0 ∨ i / 16 = 1 ∨ i / 16 = 2 ∨ i / 16 = 3 ∨ i / 16 = 4 ∨ i / 16 = 5 ∨ i / 16 = 6 ∨ i / 16 = 7 ∨ i / 16 = 8 ∨ i / 16 = 9 ∨ i / 16 = 10 ∨ i / 16 = 11 ∨ i / 16 = 12 ∨ i / 16 = 13 ∨ i / 16 = 14 ∨ ∃ k, i / 16 = k + 15 := by
    rcases Nat.lt_or_ge (i / 16) 15 with h | h
    · omega
    · exact .inr (.inr (.inr (.inr (.inr (.inr (.inr (.inr (.inr (.inr (.inr (.inr (.inr (.inr (.inr ⟨i / 16 - 15, by omega⟩))))))))))))))
  rcases h16 with h | h | h | h | h | h | h | h | h | h | h | h | h | h | h | ⟨k, h⟩ <;> rw [h] <;> rfl
theorem setDf_ok {tm : Tm} {df : List Dfr} {K : Tm → Ans} (e : tm.setDf df K = .ok rv rh) : ∃ tm', K tm' = .ok rv rh ∧ tm'.df = df ∧ ∀ i, tm'.get i = tm.get i := by
  obtain ⟨tm', h1, h2, h3⟩ := setDf_eq tm df K
  exact ⟨tm', h1 ▸ e, h2, h3⟩
theorem df'_eq (tm : Tm) (K : List Dfr → Ans) : tm.df' K = K tm.df := by cases tm; rfl
theorem TmR.setDf {γ : Gh} {nt : Nat} {tm tm' : Tm} {t : Array Value} (h : TmR γ nt tm t) (hg : ∀ i, tm'.get i = tm.get i) : TmR γ nt tm' t := ⟨h.1, fun i hi => by rw [hg]; exact h.2 i hi⟩

/-! ### guards -/
theorem guardK_ok {want : Bool} {x : AV} {yes no : Ans} (e : guardK want x yes no = .ok rv rh) : (x = .b want ∧ yes = .ok rv rh) ∨ (x ≠ .b want ∧ no = .ok rv rh) := by
  cases x with
  | b c =>
    cases c <;> cases want
    · exact .inl ⟨rfl, e⟩
    · exact .inr ⟨by simp, e⟩
    · exact .inr ⟨by simp, e⟩
    · exact .inl ⟨rfl, e⟩
  | _ => exact .inr ⟨by simp, e⟩
theorem VR_bool {γ : Gh} {x : AV} {b : Bool} (h : VR γ x (.bool b)) : x = .b b := by
  cases x with
  | gp i o => exact absurd (show Value.bool b = Base.unk i by simp only [VR] at h; exact h.1).symm (Base.nb i b)
  | _ => simp [VR] at h <;> first | rw [h] | skip
theorem guardP_ok {ops : Array Oper} {o : Oper} {t : Tmp} {want : Bool} (h : guardP ops o = some (t, want)) : ∃ j, o.guard = some (j, want) ∧ (ops[j]?).bind (·.dst) = some t := by
  unfold guardP at h
  split at h
  · cases h
  · rename_i j w hg
    split at h
    · rename_i t' ht
      cases h
      exact ⟨j, hg, ht⟩
    · cases h
/-- Whether an operation is wanted, asked on both sides. -/
theorem wanted_iff {γ : Gh} {ops : Array Oper} {o : Oper} {t : Tmp} {want : Bool} (h : guardP ops o = some (t, want)) {x : AV} {tmps : Array Value} (hx : VR γ x (tmps.getD t undef)) :
    Region.wanted o (yielded ops tmps) = true ↔ x = .b want := by
  obtain ⟨j, hg, hd⟩ := guardP_ok h
  unfold Region.wanted
  rw [hg]
  simp only [yielded, hd, Option.bind_some, beq_iff_eq]
  have hget : tmps.getD t undef = (tmps[t]?).getD undef := by simp
  rw [hget] at hx
  constructor
  · intro hh
    split at hh
    · rename_i b hb
      rw [hb] at hx
      cases hh
      exact VR_bool hx
    · cases hh
  · rintro rfl
    simp only [VR] at hx
    cases ht : tmps[t]? with
    | none => rw [ht] at hx; cases hx
    | some u => rw [ht] at hx; simp only [Option.getD_some] at hx; subst hx; rfl
end Go.AB
namespace Go.AB
variable [Base]
variable {rv : AV} {rh : H} {P : Program}

/-! ### the fence: wide, in a round or not -/
def FR (R : Option Nat) : Fence := { Fence.wide with round := R }
theorem FR_fn (R : Option Nat) (f : FuncId) : (FR R).fn f := trivial
theorem FR_room (R : Option Nat) (n : Nat) : (FR R).room n := fun d hd => by cases hd
theorem FR_depth (R : Option Nat) (n : Nat) : (FR R).depth.isSome = true → 1 ≤ n := fun h => by cases h
theorem callsIn_FR {R : Option Nat} {n m : Nat} {f : FuncId} {args : Array Value} {w : World} {Q : Ending → World → Prop} (h : CallsIn Fence.wide n P f args w Q) : CallsIn (FR R) m P f args w Q :=
  ⟨trivial, fun cs _ => h.2 cs (room_wide _)⟩
def RoR (γ : Gh) : Option Nat → Option Nat → Prop
  | none, none => True
  | some l, some B => ∃ N, γ l 0 = some (B, N)
  | _, _ => False
theorem RoR.mono {γ γ' : Gh} (h : γ.le γ') : ∀ {ro R : Option Nat}, RoR γ ro R → RoR γ' ro R
  | none, none, _ => trivial
  | some _, some _, ⟨N, e⟩ => ⟨N, h _ _ _ e⟩
  | none, some _, e => e.elim
  | some _, none, e => e.elim
structure St (γ : Gh) (nt : Nat) (tm : Tm) (h : H) (a : Act) (w : World) : Prop where
  tmr : TmR γ nt tm a.tmps
  dfr : DfrsR γ tm.df a.defers
  hrr : HR γ h w
def exE : AX → Exit
  | .nrm => .normal
  | .exit id => .exit id
  | .ret => .ret

/-! ### what is said of calls and of code -/
def CallSpec (P : Program) (f : FuncId) (args : List AV) (h : H) (v : AV) (h' : H) : Prop := (∃ fn c, P.funcs[f]? = some fn ∧ fn.body = some c) ∧
  ∀ γ (vs : Array Value) w, VRL γ args vs.toList → HR γ h w → CallsIn Fence.wide 0 P f vs w fun e w' => ∃ u γ', e = .returned u ∧ VR γ' v u ∧ Ext γ h w γ' h' w' ∧ HR γ' h' w'
def DCallSpec (P : Program) (f : FuncId) (args : List AV) (h : H) (v : AV) (h' : H) : Prop := (∃ fn c, P.funcs[f]? = some fn ∧ fn.body = some c) ∧
  ∀ γ (vs : Array Value) w, VRL γ args vs.toList → HR γ h w → CallsDIn Fence.wide 0 P f vs .returning w fun e u' w' => ∃ u γ', e = .returned u ∧ u' = .returning ∧ VR γ' v u ∧ Ext γ h w γ' h' w' ∧ HR γ' h' w'
def CodeSpec (P : Program) (nt : Nat) (ro : Option Nat) (c : Code) (tm : Tm) (h : H) (ex : AX) (tm' : Tm) (h' : H) : Prop :=
  ∀ γ a w R, RoR γ ro R → St γ nt tm h a w → c.wpIn (FR R) 0 P (fun e a' w' => e = exE ex ∧ ∃ γ', St γ' nt tm' h' a' w' ∧ Ext γ h w γ' h' w') a w
structure RecOK (P : Program) (r : Rec) : Prop where
  call : ∀ f args h K rv rh, r.callK f args h K = .ok rv rh → ∃ v h', K v h' = .ok rv rh ∧ CallSpec P f args h v h'
  dcall : ∀ f args h K rv rh, r.dcallK f args h K = .ok rv rh → ∃ v h', K v h' = .ok rv rh ∧ DCallSpec P f args h v h'
  code : ∀ nt ro c tm h K rv rh, r.codeK nt ro c tm h K = .ok rv rh → ∃ ex tm' h', K ex tm' h' = .ok rv rh ∧ CodeSpec P nt ro c tm h ex tm' h'
/-- No function of the program is the one that counts goroutines. -/
def NoCount (P : Program) : Prop := ∀ (f : FuncId) fn, P.funcs[f]? = some fn → (fn.name == "runtime.NumGoroutine") = false
def FnSpec (P : Program) (f : FuncId) (args : List AV) (h : H) (v : AV) (h' : H) : Prop := ∀ γ (vs : Array Value) w, VRL γ args vs.toList → HR γ h w → ∀ R (o : Oper) (a : Act) (next : Act → World → Prop) Q,
  (∀ u w' γ', VR γ' v u → Ext γ h w γ' h' w' → HR γ' h' w' → next (a.put o.dst u) w') → o.uponIn (FR R) 0 P a next Q ((callFunc f vs).run P w)
theorem run_callFunc (hn : NoCount P) {f : FuncId} {fn : Func} {c : Code} (hf : P.funcs[f]? = some fn) (hb : fn.body = some c) (vs : Array Value) (w : World) : (callFunc f vs).run P w = .ok (.enter f vs) w := by
  simp only [callFunc, Sem.run_bind, run_program, Result.andThen_ok, hf, hn f fn hf, hb, Bool.false_eq_true, if_false, Option.isNone_some, Sem.run_pure]
theorem CallSpec.fn (hn : NoCount P) {f : FuncId} {args : List AV} {h h' : H} {v : AV} (hc : CallSpec P f args h v h') : FnSpec P f args h v h' := by
  obtain ⟨⟨fn, c, hf, hb⟩, hs⟩ := hc
  intro γ vs w hvs hr R o a next Q hnext
  rw [run_callFunc hn hf hb, Oper.uponIn_enter]
  refine ⟨FR_depth R 0, callsIn_FR (CallsIn.mono (hs γ vs w hvs hr) fun e w' he => ?_)⟩
  obtain ⟨u, γ', rfl, h1, h2, h3⟩ := he
  exact hnext u w' γ' h1 h2 h3
structure EnvOK (E : Env) : Prop where
  noCount : NoCount E.P
  lib : ∀ r f args h K rv rh, funcBF E f ≠ .body → callFuncA E r f args h K = .ok rv rh → ∃ v h', K v h' = .ok rv rh ∧ FnSpec E.P f args h v h'
theorem callFuncA_ok {E : Env} (hE : EnvOK E) {r : Rec} (hr : RecOK E.P r) {f : FuncId} {args : List AV} {h : H} {K : KV} (e : callFuncA E r f args h K = .ok rv rh) : ∃ v h', K v h' = .ok rv rh ∧ FnSpec E.P f args h v h' := by
  cases hb : funcBF E f with
  | body =>
    unfold callFuncA at e
    rw [hb] at e
    obtain ⟨v, h', h1, h2⟩ := hr.call _ _ _ _ _ _ (show r.callK f args h K = .ok rv rh from e)
    exact ⟨v, h', h1, h2.fn hE.noCount⟩
  | _ => exact hE.lib r f args h K rv rh (by rw [hb]; simp) e

/-! ### an operation, whatever its kind -/
def OpSpec (P : Program) (op : Op) (tm : Tm) (h : H) (val : AV) (h' : H) : Prop := ∀ γ (a : Act) w (o : Oper) R, o.op = op → OpdsR γ (OV tm) op a → HR γ h w → ∀ (next : Act → World → Prop) Q,
  (∀ u w' γ', VR γ' val u → Ext γ h w γ' h' w' → HR γ' h' w' → next (a.put o.dst u) w') → o.wpIn (FR R) 0 P a w next Q
theorem wpIn_of {o : Oper} {a : Act} {w : World} {R : Option Nat} {next : Act → World → Prop} {Q : Exit → Act → World → Prop} (hd : ∀ c, o.op ≠ .defer c) (h : o.uponIn (FR R) 0 P a next Q ((execOp a.eval o).run P w)) : o.wpIn (FR R) 0 P a w next Q := by
  refine ⟨fun f _ => trivial, ?_⟩
  rw [Oper.semAt_eq _ _ _ hd]
  exact h
theorem Eff.opSpec {op : Op} {tm : Tm} {h h' : H} {val : AV} {k : Nat} (hd : ∀ c, op ≠ .defer c) (he : Eff P op (OV tm) h val h' k) : OpSpec P op tm h val h' := by
  intro γ a w o R ho hop hr next Q hnext
  have hd' : ∀ c, o.op ≠ .defer c := fun c hc => hd c (ho ▸ hc)
  refine wpIn_of hd' ?_
  cases he with
  | pure hs =>
    obtain ⟨v, h1, h2⟩ := hs γ a h w o ho hop hr
    rw [h1]
    exact hnext v w γ h2 (Ext.refl γ h w) hr
  | read hs =>
    obtain ⟨v, h1, h2⟩ := hs γ a h w o ho (fun _ _ e => e) hop hr
    rw [h1]
    exact hnext v w γ h2 (Ext.refl γ h w) hr
  | @new _ ob ver N hn hg hs =>
    obtain ⟨ob', w1, v, h1, h2, hst, h3⟩ := hs γ a h w o ho hop hr
    rw [h1]
    have hno : γ h.nx ver = none := by
      cases q : γ h.nx ver with
      | none => rfl
      | some x => exact absurd (hr.lt _ _ _ q) (Nat.lt_irrefl _)
    obtain ⟨h4, h5⟩ := h3 (γ.put h.nx ver w.heap.size N) (Gh.le_put hno) Gh.put_same
    obtain ⟨g1, g2⟩ := hr.new hn hg h2 h5 hst
    exact hnext v w1 _ h4 g2 g1
  | act hs =>
    obtain ⟨r, w', γ', v, h1, h2, h3, h4, h5⟩ := hs γ a w o ho hop hr
    rw [h1]
    rcases h2 with rfl | ⟨rfl, rfl⟩
    · exact hnext v w' γ' h3 h4 h5
    · exact hnext undef w' γ' h3 h4 h5
/-! ### rounds -/
theorem setParams_ok {nt : Nat} : ∀ (ts : List Tmp) (vs : List AV) (tm : Tm) (K : Tm → Ans), setParams nt ts vs tm K = .ok rv rh →
    ts.length = vs.length ∧ ∃ tm', K tm' = .ok rv rh ∧ tm'.df = tm.df ∧ ∀ γ (us : List Value) (t : Array Value), VRL γ vs us → TmR γ nt tm t → TmR γ nt tm' ((ts.zip us).foldl (fun tmps (x : Tmp × Value) => tmps.setIfInBounds x.1 x.2) t)
  | [], [], tm, K, e => ⟨rfl, tm, e, rfl, fun γ us t h1 h2 => by simpa using h2⟩
  | t :: ts, v :: vs, tm, K, e => by
    rw [setParams] at e
    cases hc : cPut nt (some t) with
    | mk put =>
      rw [hc] at e
      obtain ⟨tm1, e1, hp⟩ := cPut_ok hc (show put tm (fun tm _ => setParams nt ts vs tm K) v ⟨0, .e⟩ = .ok rv rh from e)
      obtain ⟨hl, tm', e2, hdf, hs⟩ := setParams_ok ts vs tm1 K e1
      refine ⟨by simp [hl], tm', e2, hdf.trans hp.1, fun γ us t0 h1 h2 => ?_⟩
      obtain ⟨u, us, rfl, h3, h4⟩ := h1
      have := TmR.put (a := { tmps := t0, defers := [] }) h2 hp h3
      simpa [Act.put] using hs γ us _ h4 this
  | [], _ :: _, tm, K, e => by simp [setParams] at e
  | _ :: _, [], tm, K, e => by simp [setParams] at e
def jumpOf : AX → Option Code
  | .nrm => none
  | .exit id => some (.exit id)
  | .ret => some .ret
/-- A row that is no row of cells is written over. -/
theorem HR.putObj {γ : Gh} {h h' : H} {w : World} (hr : HR γ h w) {a B N : Nat} {ob ob' : AO} {o o' : Obj} (ha : h.get a = some ob) (hv : ∀ v N o, ObR γ v N o ob → v = 0) (hg : γ a 0 = some (B, N)) (hB : w.heap[B]? = some o)
    (hob : ObR γ 0 N o' ob') (hn : h'.nx = h.nx) (hget : ∀ b, h'.get b = if b = a then some ob' else h.get b) {w' : World} (hw : w'.heap = w.heap.setIfInBounds B o') (hst : Still w w' := by exact ⟨rfl, rfl, rfl⟩) : Ext γ h w γ h' w' ∧ HR γ h' w' := by
  have hlt : B < w.heap.size := (Array.getElem?_eq_some_iff.1 hB).1
  have h1 : w'.heap[B]? = some o' := by rw [hw, Array.getElem?_setIfInBounds_self_of_lt hlt]
  have h2 : ∀ C, C ≠ B → w'.heap[C]? = w.heap[C]? := fun C hC => by rw [hw, Array.getElem?_setIfInBounds_ne (Ne.symm hC)]
  refine (HR.put hr hg hn hget h1 (by rw [hw]; simp) h2 (fun v' C N' hg' => ?_) hst).symm
  obtain ⟨ob2, o2, x1, x2, x3⟩ := hr.ob a v' C N' hg'
  rw [ha] at x1; cases x1
  obtain rfl := hv _ _ _ x3
  rw [hg] at hg'; cases hg'
  exact ⟨_, h1, hob⟩
theorem ObR_loop {γ : Gh} {v N nt d : Nat} {o : Obj} {st : LoopState} {pending : Option Code} {tm : Tm} {params : List Tmp} {assign body : Code} (h : ObR γ v N o (.loop st pending nt tm params assign body d)) :
    v = 0 ∧ ∃ r : Loop, o = .loop r ∧ r.state = st ∧ r.pending = pending ∧ TmR γ nt tm r.tmps ∧ r.params.toList = params ∧ r.assign = assign ∧ r.body = body ∧ ∃ N', γ d 0 = some (r.defers, N') := h
theorem run_getLoop {w : World} {B : Nat} {r : Loop} (h : w.heap[B]? = some (.loop r)) : (Instr.getLoop B).run P w = .ok r w := by
  simp only [Instr.getLoop, Sem.run_bind, run_getObj' h (fun _ _ _ h => by cases h), Result.andThen_ok, Sem.run_pure]
theorem endRound_ok {l : Nat} {h : H} {ex : AX} {K : KV} (e : endRoundA l h ex K = .ok rv rh) :
    ∃ v h', K v h' = .ok rv rh ∧ ∀ γ w B N, γ l 0 = some (B, N) → HR γ h w → ∃ u w', (Instr.endRound B (jumpOf ex)).run P w = .ok u w' ∧ VR γ v u ∧ Ext γ h w γ h' w' ∧ HR γ h' w' := by
  obtain ⟨ob, ho, e1⟩ := H.getK_ok (show h.getK l _ = .ok rv rh from e)
  split at e1
  · rename_i st pd nt tm0 params assign body d
    have fin : ∀ (st' : LoopState) (b : Bool) (h' : H), (if (jumpOf ex).isNone then LoopState.ready else .done) = st' → (jumpOf ex).isNone = b → h'.nx = h.nx → (∀ c, h'.get c = if c = l then some (.loop st' (jumpOf ex) nt tm0 params assign body d) else h.get c) →
        ∀ γ w B N, γ l 0 = some (B, N) → HR γ h w → ∃ u w', (Instr.endRound B (jumpOf ex)).run P w = .ok u w' ∧ VR γ (.b b) u ∧ Ext γ h w γ h' w' ∧ HR γ h' w' := by
      intro st' b h' hst hb hn hget γ w B N hg hr
      obtain ⟨ob2, o2, x1, x2, x3⟩ := hr.ob _ _ _ _ hg
      rw [ho] at x1; cases x1
      obtain ⟨_, r, rfl, y1, y2, y3, y4, y5, y6, y7⟩ := ObR_loop x3
      have hfin := hr.putObj (w' := { w with heap := w.heap.setIfInBounds B (.loop { r with state := if (jumpOf ex).isNone then .ready else .done, pending := jumpOf ex }) }) ho (fun v N o hh => (ObR_loop hh).1) hg x2
        (o' := .loop { r with state := if (jumpOf ex).isNone then .ready else .done, pending := jumpOf ex }) (ob' := .loop st' (jumpOf ex) nt tm0 params assign body d) ⟨rfl, _, rfl, hst, rfl, y3, y4, y5, y6, y7⟩ hn hget rfl
      refine ⟨.bool (jumpOf ex).isNone, _, ?_, ?_, hfin⟩
      · simp only [Instr.endRound, Sem.run_bind, run_getLoop x2, Result.andThen_ok, run_setObj' x2 (fun _ _ _ h => by cases h), Sem.run_pure]
      · simp only [VR, hb]
    cases ex with
    | nrm =>
      obtain ⟨h', e2, hn, hget⟩ := H.putK_ok e1
      exact ⟨_, h', e2, fin .ready true h' rfl rfl hn hget⟩
    | exit id =>
      obtain ⟨h', e2, hn, hget⟩ := H.putK_ok e1
      exact ⟨_, h', e2, fin .done false h' rfl rfl hn hget⟩
    | ret =>
      obtain ⟨h', e2, hn, hget⟩ := H.putK_ok e1
      exact ⟨_, h', e2, fin .done false h' rfl rfl hn hget⟩
  · cases e1
def YieldSpec (P : Program) (l : Nat) (args : List AV) (h : H) (v : AV) (h' : H) : Prop := ∀ γ (vs : Array Value) w B N, VRL γ args vs.toList → HR γ h w → γ l 0 = some (B, N) → ∃ f tmps assign body, (Instr.yield B vs).run P w = .ok (.round B f tmps assign body) w ∧
  ∀ R, RoundIn (FR R) 0 P B f tmps assign body w fun e w' => ∃ u γ', e = .returned u ∧ VR γ' v u ∧ Ext γ h w γ' h' w' ∧ HR γ' h' w'
theorem exE_normal {ex : AX} (h : Exit.normal = exE ex) : ex = .nrm := by cases ex <;> simp [exE] at h ⊢
theorem yield_ok {r : Rec} (hrec : RecOK P r) {l : Nat} {args : List AV} {h : H} {K : KV} (e : yieldA r l args h K = .ok rv rh) : ∃ v h', K v h' = .ok rv rh ∧ YieldSpec P l args h v h' := by
  obtain ⟨ob, ho, e1⟩ := H.getK_ok (show h.getK l _ = .ok rv rh from e)
  split at e1
  · rename_i st pd nt tm params assign body d
    obtain ⟨tm1, e1, hdf, hget1⟩ := setDf_ok e1
    obtain ⟨hlen, tm2, e2, hdf2, hset⟩ := setParams_ok _ _ _ _ e1
    obtain ⟨ex, tm3, h1, e3, hcode1⟩ := hrec.code _ _ _ _ _ _ _ _ e2
    cases ex with
    | nrm =>
      obtain ⟨ob1, ho1, e4⟩ := H.getK_ok e3
      split at e4
      · rename_i pd1 nt1 tm01 params1 assign1 body1 d1
        obtain ⟨h2, e5, hn2, hget2⟩ := H.putK_ok e4
        obtain ⟨ex2, tm4, h3, e6, hcode2⟩ := hrec.code _ _ _ _ _ _ _ _ e5
        obtain ⟨v, h', e7, hend⟩ := endRound_ok (P := P) e6
        refine ⟨v, h', e7, fun γ vs w B N hvs hr hg => ?_⟩
        obtain ⟨ob2, o2, x1, x2, x3⟩ := hr.ob _ _ _ _ hg
        rw [ho] at x1; cases x1
        obtain ⟨_, lp, rfl, y1, y2, y3, y4, y5, y6, y7⟩ := ObR_loop x3
        have hsz : vs.size = lp.params.size := by
          have := hvs.length
          rw [← Array.length_toList, ← Array.length_toList, y4, hlen, this]
        refine ⟨lp.fn, (lp.params.zip vs).foldl (fun tmps (x : Tmp × Value) => tmps.setIfInBounds x.1 x.2) lp.tmps, lp.assign, lp.body, ?_, fun R => ?_⟩
        · simp only [Instr.yield, Sem.run_bind, run_getLoop x2, Result.andThen_ok, hsz, ne_eq, not_true_eq_false, if_false, Sem.run_pure]
        · refine roundIn_of_wpIn (F := FR R) trivial ?_
          have hst : St γ nt tm2 h { tmps := (lp.params.zip vs).foldl (fun tmps (x : Tmp × Value) => tmps.setIfInBounds x.1 x.2) lp.tmps, defers := [] } w := by
            refine ⟨?_, by rw [hdf2, hdf]; rfl, hr⟩
            have := hset γ vs.toList lp.tmps hvs (y3.setDf hget1)
            rw [← y4] at this
            rw [← Array.toList_zip, Array.foldl_toList] at this
            exact this
          have hw1 := hcode1 γ _ w (some B) ⟨N, hg⟩ hst
          rw [y5]
          refine wpIn_mono hw1 fun e' a1 w1 hq => ?_
          obtain ⟨rfl, γ1, hst1, hx1⟩ := hq
          have hg1 := hx1.mono _ _ _ hg
          obtain ⟨ob3, o3, z1, z2, z3⟩ := hst1.hrr.ob _ _ _ _ hg1
          rw [ho1] at z1; cases z1
          obtain ⟨_, lp1, rfl, u1, u2, u3, u4, u5, u6, u7⟩ := ObR_loop z3
          have hfin := hst1.hrr.putObj (w' := { w1 with heap := w1.heap.setIfInBounds B (.loop { lp1 with state := .busy }) }) ho1 (fun v N o hh => (ObR_loop hh).1) hg1 z2
            (o' := .loop { lp1 with state := .busy }) (ob' := .loop .busy pd1 nt1 tm01 params1 assign1 body1 d1) ⟨rfl, _, rfl, rfl, u2, u3, u4, u5, u6, u7⟩ hn2 hget2 rfl
          refine ⟨{ w1 with heap := w1.heap.setIfInBounds B (.loop { lp1 with state := .busy }) }, ?_, ?_⟩
          · simp only [Instr.beginRound, Sem.run_bind, run_getLoop z2, Result.andThen_ok, run_setObj' z2 (fun _ _ _ h => by cases h), u1, Sem.run_pure]
          · rw [y6]
            refine wpIn_mono (hcode2 γ1 a1 _ (some B) ⟨N, hg1⟩ ⟨hst1.tmr, hst1.dfr, hfin.2⟩) fun e2 a2 w2 hq2 => ?_
            obtain ⟨rfl, γ2, hst2, hx2⟩ := hq2
            have hg2 := hx2.mono _ _ _ hg1
            obtain ⟨u, w3, q1, q2, q3, q4⟩ := hend γ2 w2 B N hg2 hst2.hrr
            have hext : Ext γ h w γ2 h' w3 := ((hx1.trans hfin.1).trans hx2).trans q3
            cases ex2 <;> exact ⟨u, w3, q1, u, γ2, rfl, q2, hext, q4⟩
      · cases e4
    | exit id => cases e3
    | ret => cases e3
  · cases e1
end Go.AB
namespace Go.AB
variable [Base]
variable {rv : AV} {rh : H}

/-! ### calls -/
theorem args_rel {P : Program} {γ : Gh} {V : Operand → AV → Prop} {c : Call} {ac : Act} (hop : OpdsR γ V (.call c) ac) {vs : List AV} (h1 : vs.length = c.args.toList.length) (h2 : ∀ (i : Nat) x v, c.args.toList[i]? = some x → vs[i]? = some v → V x v) :
    VRL γ vs (c.args.map ac.eval).toList := by
  rw [Array.toList_map]
  exact VRL_opds hop c.args.toList vs (fun y hy => by simp only [Op.operands, Call.operands, Array.mem_append]; exact .inr (Array.mem_toList_iff.1 hy)) h1 h2
theorem run_valueCall {P : Program} {c : Call} {f : Operand} (hc : c.callee = .value f) {o : Oper} (ho : o.op = .call c) (ac : Act) (w : World) {fn : Fn} {first cap : Array Value} (hf : ac.eval f = .func fn first cap) :
    (execOp ac.eval o).run P w = (invoke (.fn fn cap) (first ++ c.args.map ac.eval)).run P w := by
  simp only [execOp, ho, resolve, hc, hf, Deferred.ofValue, Sem.run_bind, Sem.run_pure, Result.andThen_ok]
theorem call_fn {E : Env} {c : Call} {f : Operand} (hc : c.callee = .value f) {tm : Tm} {h h' : H} {v : AV} {g : FuncId} {first cap vs : List AV} (h1 : vs.length = c.args.toList.length) (h2 : ∀ (i : Nat) x u, c.args.toList[i]? = some x → vs[i]? = some u → OV tm x u)
    (hf : OV tm f (.fn (.func g) first cap)) (hs : FnSpec E.P g (first ++ (vs ++ cap)) h v h') : OpSpec E.P (.call c) tm h v h' := by
  intro γ a w o R ho hop hr next Q hnext
  refine wpIn_of (fun c' hc' => by rw [ho] at hc'; cases hc') ?_
  have hfv := hop f _ (by simp [Op.operands, Call.operands, hc]) hf
  simp only [VR] at hfv
  obtain ⟨x, y, hfv, hx, hy, _⟩ := hfv
  rw [run_valueCall hc ho a w hfv]
  have harg := args_rel (P := E.P) hop h1 h2
  simp only [invoke]
  refine hs γ _ w ?_ hr R o a next Q hnext
  simp only [Array.toList_append]
  rw [List.append_assoc]
  exact hx.append (harg.append hy)
theorem call_yield {E : Env} {c : Call} {f : Operand} (hc : c.callee = .value f) {tm : Tm} {h h' : H} {v : AV} {l : Nat} {vs : List AV} (h1 : vs.length = c.args.toList.length) (h2 : ∀ (i : Nat) x u, c.args.toList[i]? = some x → vs[i]? = some u → OV tm x u)
    (hf : OV tm f (.yl l)) (hs : YieldSpec E.P l vs h v h') : OpSpec E.P (.call c) tm h v h' := by
  intro γ a w o R ho hop hr next Q hnext
  refine wpIn_of (fun c' hc' => by rw [ho] at hc'; cases hc') ?_
  have hfv := hop f _ (by simp [Op.operands, Call.operands, hc]) hf
  simp only [VR] at hfv
  obtain ⟨B, N, hg, hfv⟩ := hfv
  rw [run_valueCall hc ho a w hfv]
  have harg := args_rel (P := E.P) hop h1 h2
  obtain ⟨fi, tmps, asg, body, hy, hround⟩ := hs γ (c.args.map a.eval) w B N harg hr hg
  have : (#[] : Array Value) ++ c.args.map a.eval = c.args.map a.eval := by simp
  simp only [invoke, this, hy]
  rw [Oper.uponIn_round]
  refine ⟨FR_depth R 0, RoundIn.mono (hround R) fun e w' he => ?_⟩
  obtain ⟨u, γ', rfl, q1, q2, q3⟩ := he
  exact hnext u w' γ' q1 q2 q3
theorem callValue_ok {E : Env} (hE : EnvOK E) {r : Rec} (hrec : RecOK E.P r) {c : Call} {f : Operand} (hc : c.callee = .value f) {tm : Tm} {h : H} {K : KV} {fv : AV} {vs : List AV} (h1 : vs.length = c.args.toList.length)
    (h2 : ∀ (i : Nat) x u, c.args.toList[i]? = some x → vs[i]? = some u → OV tm x u) (hf : OV tm f fv) (e : callValueA E r fv vs h K = .ok rv rh) : ∃ v h', K v h' = .ok rv rh ∧ OpSpec E.P (.call c) tm h v h' := by
  unfold callValueA at e
  split at e
  · split at e
    · rename_i g
      rw [app2_eq, app2_eq] at e
      obtain ⟨v, h', e1, hs⟩ := callFuncA_ok hE hrec e
      exact ⟨v, h', e1, call_fn hc h1 h2 hf hs⟩
    · cases e
  · obtain ⟨v, h', e1, hs⟩ := yield_ok hrec e
    exact ⟨v, h', e1, call_yield hc h1 h2 hf hs⟩
  · cases e
/-- An operation, run: its value, the memory behind it, and what the program does. -/
theorem cEff_ok {E : Env} (hE : EnvOK E) {r : Rec} (hrec : RecOK E.P r) {op : Op} (hnd : ∀ c, op ≠ .defer c) {f : Rec → Tm → H → KV → Ans} (hc : cEff E op = .mk f) {tm : Tm} {h : H} {K : KV} (e : f r tm h K = .ok rv rh) :
    ∃ val h', K val h' = .ok rv rh ∧ OpSpec E.P op tm h val h' ∧ (opKind E.P op ≤ 2 → Eff E.P op (OV tm) h val h' (opKind E.P op)) := by
  cases op with
  | call c =>
    unfold cEff at hc
    cases has : cOpds c.args.toList with
    | mk as =>
      simp only [has] at hc
      cases hcal : c.callee with
      | builtin b =>
        simp only [hcal] at hc
        cases hb : cBuiltin E.P b c.argTypes c.args.toList with
        | mk g =>
          rw [hb] at hc
          cases hc
          obtain ⟨val, h', e1, he⟩ := cBuiltin_ok hcal hb e
          exact ⟨val, h', e1, he.opSpec hnd, fun _ => he⟩
      | value fo =>
        simp only [hcal] at hc
        have hk : ¬ (opKind E.P (.call c) ≤ 2) := by unfold opKind; simp only [hcal]; omega
        cases fo with
        | func g =>
          simp only at hc
          split at hc
          · cases hc
            obtain ⟨vs, h1, h2, e1⟩ := cOpds_ok _ has e
            rw [List.append_nil] at e1
            obtain ⟨v, h', e2, hs⟩ := hrec.call _ _ _ _ _ _ e1
            exact ⟨v, h', e2, call_fn hcal h1 h2 .func (by simpa using hs.fn hE.noCount), fun hh => absurd hh hk⟩
          · cases hc
            obtain ⟨vs, h1, h2, e1⟩ := cOpds_ok _ has e
            rw [List.append_nil] at e1
            obtain ⟨v, h', e2, hs⟩ := callFuncA_ok hE hrec e1
            exact ⟨v, h', e2, call_fn hcal h1 h2 .func (by simpa using hs), fun hh => absurd hh hk⟩
        | tmp t =>
          simp only at hc
          cases hg : cOpd (.tmp t) with
          | mk g =>
            rw [hg] at hc; cases hc
            obtain ⟨vs, h1, h2, e1⟩ := cOpds_ok _ has e
            rw [List.append_nil] at e1
            obtain ⟨fv, hfv, e2⟩ := cOpd_ok hg e1
            obtain ⟨v, h', e3, hs⟩ := callValue_ok hE hrec hcal h1 h2 hfv e2
            exact ⟨v, h', e3, hs, fun hh => absurd hh hk⟩
        | const t =>
          simp only at hc
          cases hg : cOpd (.const t) with
          | mk g =>
            rw [hg] at hc; cases hc
            obtain ⟨vs, h1, h2, e1⟩ := cOpds_ok _ has e
            rw [List.append_nil] at e1
            obtain ⟨fv, hfv, e2⟩ := cOpd_ok hg e1
            obtain ⟨v, h', e3, hs⟩ := callValue_ok hE hrec hcal h1 h2 hfv e2
            exact ⟨v, h', e3, hs, fun hh => absurd hh hk⟩
        | global t =>
          simp only at hc
          cases hg : cOpd (.global t) with
          | mk g =>
            rw [hg] at hc; cases hc
            obtain ⟨vs, h1, h2, e1⟩ := cOpds_ok _ has e
            rw [List.append_nil] at e1
            obtain ⟨fv, hfv, e2⟩ := cOpd_ok hg e1
            obtain ⟨v, h', e3, hs⟩ := callValue_ok hE hrec hcal h1 h2 hfv e2
            exact ⟨v, h', e3, hs, fun hh => absurd hh hk⟩
      | invoke r m =>
        simp only [hcal] at hc
        cases hc
        cases e
  | defer c => exact absurd rfl (hnd c)
  | _ =>
    simp only [cEff] at hc
    cases hg : cSimple E.P _ with
    | mk g =>
      rw [hg] at hc
      cases hc
      obtain ⟨val, h', e1, he⟩ := cSimple_ok hg e
      exact ⟨val, h', e1, he.opSpec hnd, fun _ => he⟩

/-! ### operations with their temporaries -/
/-- What a step of a frame's code says: from related states to related states. -/
def StepSpec (E : Env) (nt : Nat) (tm : Tm) (h : H) (tm' : Tm) (h' : H) (W : (Act → World → Prop) → (Exit → Act → World → Prop) → Act → World → Option Nat → Prop) (defers : Bool) : Prop :=
  ∀ γ a w R, (defers = true → R = none) → St γ nt tm h a w → ∀ (next : Act → World → Prop) Q, (∀ a' w' γ', St γ' nt tm' h' a' w' → Ext γ h w γ' h' w' → next a' w') → W next Q a w R
theorem OpdsR_of {γ : Gh} {nt : Nat} {tm : Tm} {a : Act} (ht : TmR γ nt tm a.tmps) (op : Op) : OpdsR γ (OV tm) op a := fun _ _ _ hv => hv.rel ht
theorem cOper_ok {E : Env} (hE : EnvOK E) {r : Rec} (hrec : RecOK E.P r) {nt : Nat} {o : Oper} {f : Rec → Tm → H → KT → Ans} (hc : cOper E nt o = .mk f) {tm : Tm} {h : H} {K : KT} (e : f r tm h K = .ok rv rh) :
    ∃ tm' h', K tm' h' = .ok rv rh ∧ StepSpec E nt tm h tm' h' (fun next Q a w R => o.wpIn (FR R) 0 E.P a w next Q) (isDefer o) := by
  unfold cOper at hc
  cases hp : cPut nt o.dst with
  | mk put =>
    simp only [hp] at hc
    have plain : (∀ c, o.op ≠ .defer c) → (match cEff E o.op with | .mk f => BR.mk fun r tm h K => f r tm h (put tm K)) = .mk f → ∃ tm' h', K tm' h' = .ok rv rh ∧ StepSpec E nt tm h tm' h' (fun next Q a w R => o.wpIn (FR R) 0 E.P a w next Q) (isDefer o) := by
      intro hnd hc
      cases hf : cEff E o.op with
      | mk g =>
        rw [hf] at hc; cases hc
        obtain ⟨val, h', e1, hs, _⟩ := cEff_ok hE hrec hnd hf e
        obtain ⟨tm', e2, hput⟩ := cPut_ok hp e1
        refine ⟨tm', h', e2, fun γ a w R _ hst next Q hnext => ?_⟩
        refine hs γ a w o R rfl (OpdsR_of hst.tmr _) hst.hrr next Q fun u w' γ' h1 h2 h3 => ?_
        refine hnext _ _ γ' ⟨(hst.tmr.mono h2.mono).put hput h1, ?_, h3⟩ h2
        rw [Act.put_df, hput.1]
        exact hst.dfr.mono h2.mono
    cases hop : o.op with
    | defer c =>
      simp only [hop] at hc
      cases has : cOpds c.args.toList with
      | mk as =>
        rw [has] at hc
        cases hcal : c.callee with
        | value fo =>
          simp only [hcal] at hc
          cases hg : cOpd fo with
          | mk g =>
            rw [hg] at hc
            cases hc
            obtain ⟨vs, h1, h2, e1⟩ := cOpds_ok _ has e
            rw [List.append_nil] at e1
            obtain ⟨fv, hfv, e2⟩ := cOpd_ok hg e1
            split at e2
            · rename_i gi first cap
              rw [df'_eq] at e2
              obtain ⟨tm1, e3, hdf, hget⟩ := setDf_ok e2
              obtain ⟨tm', e4, hput⟩ := cPut_ok hp e3
              refine ⟨tm', h, e4, fun γ a w R hR hst next Q hnext => ?_⟩
              obtain rfl := hR (by simp [isDefer, hop])
              have hfr := hfv.rel hst.tmr
              simp only [VR] at hfr
              obtain ⟨x, y, hfe, hx, hy, _⟩ := hfr
              have harg : VRL γ vs (c.args.map a.eval).toList := by
                rw [Array.toList_map]
                exact VRL_opds (OpdsR_of hst.tmr (.defer c)) c.args.toList vs (fun z hz => by simp only [Op.operands, Call.operands, Array.mem_append]; exact .inr (Array.mem_toList_iff.1 hz)) h1 h2
              refine ⟨fun f _ => trivial, ?_⟩
              show o.uponIn (FR none) 0 E.P a next Q ((execOp a.eval o).run E.P w)
              have hrun : (execOp a.eval o).run E.P w = .ok (.defer { target := .fn (.func gi) y, args := x ++ c.args.map a.eval }) w := by
                simp only [execOp, hop, resolve, hcal, hfe, Deferred.ofValue, Sem.run_bind, Sem.run_pure, Result.andThen_ok]
              rw [hrun, Oper.uponIn_defer]
              refine hnext _ _ γ ⟨?_, ?_, hst.hrr⟩ (Ext.refl γ h w)
              · have := (TmR.setDf (tm' := tm1) hst.tmr hget)
                exact TmR.put (a := { a with defers := _ :: a.defers }) this hput (by simp [und, VR, undef])
              · rw [Act.put_df, hput.1, hdf]
                exact ⟨_, _, rfl, ⟨.func gi, first, cap, x, y, c.args.map a.eval, rfl, (fun l hh => by cases hh), rfl, hx, hy, harg⟩, hst.dfr⟩
            · cases e2
        | invoke rc m => simp only [hcal] at hc; cases hc; cases e
        | builtin b => simp only [hcal] at hc; cases hc; cases e
    | _ => exact plain (fun c hcc => by rw [hop] at hcc; cases hcc) (by rw [hop] at hc ⊢; exact hc)
theorem cOne_ok {E : Env} (hE : EnvOK E) {r : Rec} (hrec : RecOK E.P r) {nt : Nat} {ops : Array Oper} {o : Oper} {f : Rec → Tm → H → KT → Ans} (hc : cOne E nt ops o = .mk f) {tm : Tm} {h : H} {K : KT} (e : f r tm h K = .ok rv rh) :
    ∃ tm' h', K tm' h' = .ok rv rh ∧ StepSpec E nt tm h tm' h' (fun next Q a w R => if Region.wanted o (yielded ops a.tmps) then o.wpIn (FR R) 0 E.P a w next Q else next (a.put o.dst undef) w) (isDefer o) := by
  unfold cOne at hc
  cases hf : cOper E nt o with
  | mk g =>
    simp only [hf] at hc
    split at hc
    · rename_i hgd
      cases hc
      obtain ⟨tm', h', e1, hs⟩ := cOper_ok hE hrec hf e
      refine ⟨tm', h', e1, fun γ a w R hR hst next Q hnext => ?_⟩
      have hw : Region.wanted o (yielded ops a.tmps) = true := by unfold Region.wanted; rw [hgd]
      simp only [hw, if_true]
      exact hs γ a w R hR hst next Q hnext
    · split at hc
      · rename_i t want hgp
        cases hg : cOpd (.tmp t) with
        | mk gt => cases hp : cPut nt o.dst with
          | mk put =>
            rw [hg, hp] at hc
            cases hc
            obtain ⟨x, hx, e1⟩ := cOpd_ok hg e
            have hxr : ∀ {γ : Gh} {a : Act}, TmR γ nt tm a.tmps → VR γ x (a.tmps.getD t undef) := fun ht => hx.rel (a := { tmps := _, defers := [] }) ht
            rcases guardK_ok e1 with ⟨rfl, e2⟩ | ⟨hne, e2⟩
            · obtain ⟨tm', h', e3, hs⟩ := cOper_ok hE hrec hf e2
              refine ⟨tm', h', e3, fun γ a w R hR hst next Q hnext => ?_⟩
              have hw := (wanted_iff hgp (hxr hst.tmr)).2 rfl
              simp only [hw, if_true]
              exact hs γ a w R hR hst next Q hnext
            · obtain ⟨tm', e3, hput⟩ := cPut_ok hp e2
              refine ⟨tm', h, e3, fun γ a w R hR hst next Q hnext => ?_⟩
              have hw : ¬ (Region.wanted o (yielded ops a.tmps) = true) := fun hh => hne ((wanted_iff hgp (hxr hst.tmr)).1 hh)
              simp only [hw, Bool.false_eq_true, if_false]
              refine hnext _ _ γ ⟨hst.tmr.put hput (by simp [und, VR, undef]), ?_, hst.hrr⟩ (Ext.refl γ h w)
              rw [Act.put_df, hput.1]
              exact hst.dfr
      · cases hc; cases e

/-! ### a region in the order of its text -/
theorem cOps_ok {E : Env} (hE : EnvOK E) {r : Rec} (hrec : RecOK E.P r) {nt : Nat} {ops : Array Oper} : ∀ (l : List Oper) (k : Nat), (∀ i, i < l.length → ops[k + i]? = l[i]?) → ∀ {f : Rec → Tm → H → KT → Ans} (_ : cOps E nt ops l = .mk f) {tm : Tm} {h : H} {K : KT} (_ : f r tm h K = .ok rv rh),
    ∃ tm' h', K tm' h' = .ok rv rh ∧ StepSpec E nt tm h tm' h' (fun next Q a w R => (∀ a' w', next a' w' → Q .normal a' w') → wpOpsIn (FR R) 0 E.P ops Q (List.range' k l.length) a w) (l.any isDefer)
  | [], k, _, f, hc, tm, h, K, e => by
    cases hc
    exact ⟨tm, h, e, fun γ a w R _ hst next Q hnext hQ => hQ _ _ (hnext a w γ hst (Ext.refl γ h w))⟩
  | o :: l, k, hk, f, hc, tm, h, K, e => by
    have hc : (match cOps E nt ops l, cOne E nt ops o with | .mk g, .mk f => BR.mk fun r tm h K => f r tm h fun tm h => g r tm h K) = .mk f := hc
    cases hl : cOps E nt ops l with
    | mk g => cases ho : cOne E nt ops o with
      | mk f0 =>
        rw [hl, ho] at hc
        cases hc
        obtain ⟨tm1, h1, e1, hs1⟩ := cOne_ok hE hrec ho e
        obtain ⟨tm2, h2, e2, hs2⟩ := cOps_ok hE hrec l (k + 1) (fun i hi => by have := hk (i + 1) (by simpa using hi); simpa [Nat.add_assoc, Nat.add_comm 1] using this) hl e1
        refine ⟨tm2, h2, e2, fun γ a w R hR hst next Q hnext hQ => ?_⟩
        have hko : ops[k]? = some o := by simpa using hk 0 (by simp)
        have hgo := hs1 γ a w R (fun hd => hR (by simp [hd])) hst (wpOpsIn (FR R) 0 E.P ops Q (List.range' (k + 1) l.length)) Q
          (fun a' w' γ' hst' hx => hs2 γ' a' w' R (fun hd => hR (by simp only [List.any_cons, hd, Bool.or_true])) hst' next Q (fun a'' w'' γ'' hst'' hx' => hnext a'' w'' γ'' hst'' (hx.trans hx')) hQ)
        simp only [List.length_cons, List.range'_succ, wpOpsIn, hko]
        by_cases hw : Region.wanted o (yielded ops a.tmps) = true
        · simp only [hw, if_true] at hgo ⊢; exact hgo
        · simp only [hw, Bool.false_eq_true, if_false] at hgo ⊢; exact ⟨fun _ _ => trivial, hgo⟩
theorem region_ok {E : Env} (hE : EnvOK E) {r : Rec} (hrec : RecOK E.P r) {nt : Nat} {id : Nat} {ops : Array Oper} {f : Rec → Tm → H → KT → Ans} (hc : cOps E nt ops ops.toList = .mk f) {tm : Tm} {h : H} {K : KT} (e : f r tm h K = .ok rv rh) {ro : Option Nat}
    (hd : ops.toList.any isDefer = true → ro = none) : ∃ tm' h', K tm' h' = .ok rv rh ∧ CodeSpec E.P nt ro (.region id ops false) tm h .nrm tm' h' := by
  obtain ⟨tm', h', e1, hs⟩ := cOps_ok hE hrec ops.toList 0 (fun i _ => by simp) hc e
  refine ⟨tm', h', e1, fun γ a w R hro hst => wpIn_region ?_⟩
  rw [List.range_eq_range', ← Array.length_toList]
  refine hs γ a w R (fun hdd => ?_) hst (fun a' w' => ∃ γ', St γ' nt tm' h' a' w' ∧ Ext γ h w γ' h' w') _ (fun a' w' γ' h1 h2 => ⟨γ', h1, h2⟩) (fun a' w' hh => ⟨rfl, hh⟩)
  have := hd hdd
  subst this
  cases R with
  | none => rfl
  | some _ => exact hro.elim
end Go.AB
namespace Go.AB
variable [Base]
variable {rv : AV} {rh : H}

/-! ### sets of numbers, as bits -/
theorem tbN_eq (m i : Nat) : tbN m i = m.testBit i := by
  unfold tbN
  rw [Nat.testBit_eq_decide_div_mod_eq]
  show Nat.beq ((m >>> i) &&& 1) 1 = _
  rw [Nat.and_one_is_mod, Nat.shiftRight_eq_div_pow, nbeq]
  rfl
theorem tbN_zero (i : Nat) : tbN 0 i = false := by rw [tbN_eq]; simp
theorem tbN_bit (m i j : Nat) : tbN (bitN m i) j = (tbN m j || decide (i = j)) := by
  rw [tbN_eq, tbN_eq]
  show ((m ||| (1 <<< i)).testBit j) = _
  rw [Nat.testBit_or, Nat.one_shiftLeft, Nat.testBit_two_pow]
theorem sub_iff (m L : Nat) : Nat.beq (Nat.land m L) m = true ↔ ∀ j, tbN m j = true → tbN L j = true := by
  rw [Nat.beq_eq]
  constructor
  · intro h j hj
    rw [tbN_eq] at hj ⊢
    have : (m &&& L).testBit j = true := by
      have h' : m &&& L = m := h
      rw [h']; exact hj
    rw [Nat.testBit_and, hj, Bool.true_and] at this
    exact this
  · intro h
    show m &&& L = m
    apply Nat.eq_of_testBit_eq
    intro j
    rw [Nat.testBit_and]
    have := h j
    rw [tbN_eq, tbN_eq] at this
    cases hm : m.testBit j with
    | false => rfl
    | true => rw [this hm]; rfl
theorem tbN_lor (a b i : Nat) : tbN (Nat.lor a b) i = (tbN a i || tbN b i) := by
  rw [tbN_eq, tbN_eq, tbN_eq]
  show (a ||| b).testBit i = _
  rw [Nat.testBit_or]
theorem nthN_eq (l : List Nat) : ∀ i, nthN l i = l[i]?.getD 0 := by
  induction l with
  | nil => intro i; rfl
  | cons x l ih =>
    intro i
    cases i with
    | zero => rfl
    | succ i => show nthN l i = _; rw [ih]; simp
theorem nthO_eq (l : List Oper) : ∀ i, nthO l i = l[i]? := by
  induction l with
  | nil => intro i; rfl
  | cons x l ih =>
    intro i
    cases i with
    | zero => rfl
    | succ i => show nthO l i = _; rw [ih]; simp
theorem memN_iff (t : Nat) (l : List Nat) : memN t l = true ↔ t ∈ l := by
  induction l with
  | nil => simp [memN]
  | cons x l ih =>
    show orB (Nat.beq x t) (memN t l) = true ↔ _
    rw [orB_eq, Bool.or_eq_true, ih, Nat.beq_eq, List.mem_cons]
    exact or_congr_left ⟨fun h => h.symm, fun h => h.symm⟩
theorem maskE_iff (acc : List Nat) (j : Nat) : ∀ es : List Edge, tbN (maskE acc es) j = true ↔ ∃ e ∈ es, bindsAny e = true ∧ (e.on = j ∨ tbN (nthN acc e.on) j = true)
  | [] => by simp [maskE, tbN_zero]
  | e :: es => by
    have ih := maskE_iff acc j es
    have hd : maskE acc (e :: es) = Bool.rec (motive := fun _ => Nat) (maskE acc es) (Nat.lor (Nat.lor (nthN acc e.on) (bitN Nat.zero e.on)) (maskE acc es)) (bindsAny e) := rfl
    rw [hd]
    cases hb : bindsAny e with
    | false =>
      simp only
      rw [ih]
      constructor
      · rintro ⟨x, h1, h2⟩; exact ⟨x, by simp [h1], h2⟩
      · rintro ⟨x, h1, h2, h3⟩
        rcases List.mem_cons.1 h1 with rfl | h1
        · rw [hb] at h2; cases h2
        · exact ⟨x, h1, h2, h3⟩
    | true =>
      simp only
      rw [tbN_lor, tbN_lor, tbN_bit, Bool.or_eq_true, Bool.or_eq_true, Bool.or_eq_true, ih]
      have hz : tbN Nat.zero j = false := tbN_zero j
      rw [hz]
      constructor
      · rintro ((h | h | h) | ⟨x, h1, h2⟩)
        · exact ⟨e, by simp, hb, .inr h⟩
        · cases h
        · exact ⟨e, by simp, hb, .inl (by simpa using h)⟩
        · exact ⟨x, by simp [h1], h2⟩
      · rintro ⟨x, h1, h2, h3⟩
        rcases List.mem_cons.1 h1 with rfl | h1
        · rcases h3 with h3 | h3
          · exact .inl (.inr (.inr (by simpa using h3)))
          · exact .inl (.inl h3)
        · exact .inr ⟨x, h1, h2, h3⟩
theorem masksN_cons (o : Oper) (l : List Oper) (acc : List Nat) : masksN (o :: l) acc = masksN l (acc ++ [maskE acc o.after.toList]) := rfl
theorem masksN_len : ∀ (l : List Oper) (acc : List Nat), (masksN l acc).length = acc.length + l.length
  | [], acc => rfl
  | o :: l, acc => by rw [masksN_cons, masksN_len l]; simp; omega
theorem masksN_pre : ∀ (l : List Oper) (acc : List Nat) (i : Nat), i < acc.length → nthN (masksN l acc) i = nthN acc i
  | [], acc, i, h => rfl
  | o :: l, acc, i, h => by
    rw [masksN_cons, masksN_pre l _ i (by simp; omega), nthN_eq, nthN_eq, List.getElem?_append_left h]
theorem masksN_at : ∀ (l : List Oper) (acc : List Nat) (i : Nat) (o : Oper), l[i]? = some o → ∃ pre : List Nat, (∀ j, j < acc.length + i → nthN pre j = nthN (masksN l acc) j) ∧ nthN (masksN l acc) (acc.length + i) = maskE pre o.after.toList
  | [], acc, i, o, h => by simp at h
  | x :: l, acc, 0, o, h => by
    simp at h; subst h
    refine ⟨acc, fun j hj => ?_, ?_⟩
    · rw [masksN_cons, masksN_pre l _ j (by simp; omega), nthN_eq, nthN_eq, List.getElem?_append_left (by omega)]
    · rw [masksN_cons, masksN_pre l _ _ (by simp), nthN_eq]; simp
  | x :: l, acc, i + 1, o, h => by
    obtain ⟨pre, h1, h2⟩ := masksN_at l (acc ++ [maskE acc x.after.toList]) i o (by simpa using h)
    have hlen : (acc ++ [maskE acc x.after.toList]).length + i = acc.length + (i + 1) := by simp; omega
    rw [hlen] at h1 h2
    exact ⟨pre, h1, h2⟩
theorem kindsN_at (P : Program) : ∀ (l : List Oper) (i : Nat) (o : Oper), l[i]? = some o → nthN (kindsN P l) i = opKind P o.op
  | [], i, o, h => by simp at h
  | x :: l, 0, o, h => by simp at h; subst h; rfl
  | x :: l, i + 1, o, h => kindsN_at P l i o (by simpa using h)
theorem kindsN_len (P : Program) : ∀ l : List Oper, (kindsN P l).length = l.length
  | [] => rfl
  | x :: l => by show (opKind P x.op :: kindsN P l).length = _; simp [kindsN_len P l]
theorem opKind_le (P : Program) (op : Op) : opKind P op ≤ 3 := by
  unfold opKind
  repeat' split
  all_goals omega
theorem firstN_some {ms ks : List Nat} {act : Bool} {listed j : Nat} : ∀ (k i : Nat), firstN ms ks act listed k i = some j →
    i ≤ j ∧ j < i + k ∧ tbN listed j = false ∧ (∀ x, tbN (nthN ms j) x = true → tbN listed x = true) ∧ (if act then 3 ≤ nthN ks j else nthN ks j ≤ 2)
  | 0, i, h => by cases h
  | k + 1, i, h => by
    have h' : Bool.rec (motive := fun _ => Option Nat) (firstN ms ks act listed k (i + 1)) (some i)
      (andB (notB (tbN listed i)) (andB (Nat.beq (Nat.land (nthN ms i) listed) (nthN ms i)) (Bool.rec (motive := fun _ => Bool) (Nat.ble (nthN ks i) 2) (Nat.ble 3 (nthN ks i)) act))) = some j := h
    cases hb : (andB (notB (tbN listed i)) (andB (Nat.beq (Nat.land (nthN ms i) listed) (nthN ms i)) (Bool.rec (motive := fun _ => Bool) (Nat.ble (nthN ks i) 2) (Nat.ble 3 (nthN ks i)) act))) with
    | false =>
      rw [hb] at h'
      obtain ⟨h1, h2, h3⟩ := firstN_some k (i + 1) h'
      exact ⟨by omega, by omega, h3⟩
    | true =>
      rw [hb] at h'
      cases h'
      simp only [andB_eq, notB_eq, Bool.and_eq_true, Bool.not_eq_true'] at hb
      refine ⟨Nat.le_refl _, by omega, hb.1, (sub_iff _ _).1 hb.2.1, ?_⟩
      cases act
      · exact Nat.le_of_ble_eq_true hb.2.2
      · exact Nat.le_of_ble_eq_true hb.2.2
theorem firstN_none {ms ks : List Nat} {act : Bool} {listed : Nat} : ∀ (k i : Nat), firstN ms ks act listed k i = none → ∀ j, i ≤ j → j < i + k → tbN listed j = false → (∀ x, tbN (nthN ms j) x = true → tbN listed x = true) →
    ¬ (if act then 3 ≤ nthN ks j else nthN ks j ≤ 2)
  | 0, i, h, j, h1, h2, _, _ => by omega
  | k + 1, i, h, j, h1, h2, h3, h4 => by
    have h' : Bool.rec (motive := fun _ => Option Nat) (firstN ms ks act listed k (i + 1)) (some i)
      (andB (notB (tbN listed i)) (andB (Nat.beq (Nat.land (nthN ms i) listed) (nthN ms i)) (Bool.rec (motive := fun _ => Bool) (Nat.ble (nthN ks i) 2) (Nat.ble 3 (nthN ks i)) act))) = none := h
    cases hb : (andB (notB (tbN listed i)) (andB (Nat.beq (Nat.land (nthN ms i) listed) (nthN ms i)) (Bool.rec (motive := fun _ => Bool) (Nat.ble (nthN ks i) 2) (Nat.ble 3 (nthN ks i)) act))) with
    | true => rw [hb] at h'; cases h'
    | false =>
      rw [hb] at h'
      by_cases hij : i = j
      · subst hij
        intro hact
        have : (andB (notB (tbN listed i)) (andB (Nat.beq (Nat.land (nthN ms i) listed) (nthN ms i)) (Bool.rec (motive := fun _ => Bool) (Nat.ble (nthN ks i) 2) (Nat.ble 3 (nthN ks i)) act))) = true := by
          simp only [andB_eq, notB_eq, Bool.and_eq_true, Bool.not_eq_true']
          refine ⟨h3, (sub_iff _ _).2 h4, ?_⟩
          cases act
          · exact Nat.ble_eq_true_of_le hact
          · exact Nat.ble_eq_true_of_le hact
        rw [this] at hb; cases hb
      · exact firstN_none k (i + 1) h' j (by omega) (by omega) h3 h4

/-! ### what an operation of such a region says -/
def WantA (ops : Array Oper) (o : Oper) (tm : Tm) : Prop := o.guard = none ∨ ∃ t want, guardP ops o = some (t, want) ∧ t < 256 ∧ tm.get t = .b want
def NoWantA (ops : Array Oper) (o : Oper) (tm : Tm) : Prop := ∃ t want, guardP ops o = some (t, want) ∧ t < 256 ∧ tm.get t ≠ .b want
def EvOK (E : Env) (nt : Nat) (ops : Array Oper) (i : Nat) (tm : Tm) (h : H) (v : AV) (tm1 : Tm) (h1 : H) : Prop := ∃ o, ops[i]? = some o ∧ PutR nt o.dst tm v tm1 ∧
  ((WantA ops o tm ∧ OpSpec E.P o.op tm h v h1 ∧ (opKind E.P o.op ≤ 2 → Eff E.P o.op (OV tm) h v h1 (opKind E.P o.op))) ∨ (NoWantA ops o tm ∧ v = und ∧ h1 = h))
def ChkA (P : Program) (ops : Array Oper) (j : Nat) (tm : Tm) (h : H) : Prop := ∃ o, ops[j]? = some o ∧ (NoWantA ops o tm ∨ ∃ d, o.dst = some d ∧ d < 256 ∧ SpecRead P o.op (OV tm) h (tm.get d))
theorem OV_tmp {tm : Tm} {t : Nat} {v : AV} (h : OV tm (.tmp t) v) : t < 256 ∧ v = tm.get t := by cases h with | tmp ht => exact ⟨ht, rfl⟩
theorem cOper_ev {E : Env} (hE : EnvOK E) {r : Rec} (hrec : RecOK E.P r) {nt : Nat} {o : Oper} (hnd : isDefer o = false) {f : Rec → Tm → H → KT → Ans} (hc : cOper E nt o = .mk f) {tm : Tm} {h : H} {K : KT} (e : f r tm h K = .ok rv rh) :
    ∃ v tm1 h1, K tm1 h1 = .ok rv rh ∧ PutR nt o.dst tm v tm1 ∧ OpSpec E.P o.op tm h v h1 ∧ (opKind E.P o.op ≤ 2 → Eff E.P o.op (OV tm) h v h1 (opKind E.P o.op)) := by
  have hnd' : ∀ c, o.op ≠ .defer c := fun c hc => by simp [isDefer, hc] at hnd
  unfold cOper at hc
  cases hp : cPut nt o.dst with
  | mk put =>
    simp only [hp] at hc
    have main : (match cEff E o.op with | .mk f => BR.mk fun r tm h K => f r tm h (put tm K)) = .mk f := by
      cases hop : o.op with
      | defer c => exact absurd hop (hnd' c)
      | _ => rw [hop] at hc; exact hc
    cases hf : cEff E o.op with
    | mk g =>
      rw [hf] at main; cases main
      obtain ⟨val, h', e1, hs, hk⟩ := cEff_ok hE hrec hnd' hf e
      obtain ⟨tm', e2, hput⟩ := cPut_ok hp e1
      exact ⟨val, tm', h', e2, hput, hs, hk⟩
theorem cOne_ev {E : Env} (hE : EnvOK E) {r : Rec} (hrec : RecOK E.P r) {nt : Nat} {ops : Array Oper} {i : Nat} {o : Oper} (ho : ops[i]? = some o) (hnd : isDefer o = false) {f : Rec → Tm → H → KT → Ans} (hc : cOne E nt ops o = .mk f) {tm : Tm} {h : H} {K : KT} (e : f r tm h K = .ok rv rh) :
    ∃ v tm1 h1, K tm1 h1 = .ok rv rh ∧ EvOK E nt ops i tm h v tm1 h1 := by
  unfold cOne at hc
  cases hf : cOper E nt o with
  | mk g =>
    simp only [hf] at hc
    split at hc
    · rename_i hgd
      cases hc
      obtain ⟨v, tm1, h1, e1, h2, h3⟩ := cOper_ev hE hrec hnd hf e
      exact ⟨v, tm1, h1, e1, o, ho, h2, .inl ⟨.inl hgd, h3⟩⟩
    · split at hc
      · rename_i t want hgp
        cases hg : cOpd (.tmp t) with
        | mk gt => cases hp : cPut nt o.dst with
          | mk put =>
            rw [hg, hp] at hc
            cases hc
            obtain ⟨x, hx, e1⟩ := cOpd_ok hg e
            obtain ⟨ht, rfl⟩ := OV_tmp hx
            rcases guardK_ok e1 with ⟨hb, e2⟩ | ⟨hne, e2⟩
            · obtain ⟨v, tm1, h1, e3, h2, h3⟩ := cOper_ev hE hrec hnd hf e2
              exact ⟨v, tm1, h1, e3, o, ho, h2, .inl ⟨.inr ⟨t, want, hgp, ht, hb⟩, h3⟩⟩
            · obtain ⟨tm', e3, hput⟩ := cPut_ok hp e2
              exact ⟨und, tm', h, e3, o, ho, hput, .inr ⟨⟨t, want, hgp, ht, hne⟩, rfl, rfl⟩⟩
      · cases hc; cases e
theorem cChk_ok {P : Program} {ops : Array Oper} {j : Nat} {o : Oper} (ho : ops[j]? = some o) (hk : opKind P o.op = 1) {r : Rec} {f : Rec → Tm → H → KT → Ans} (hc : cChk P ops o = .mk f) {tm : Tm} {h : H} {K : KT} (e : f r tm h K = .ok rv rh) :
    K tm h = .ok rv rh ∧ ChkA P ops j tm h := by
  unfold cChk at hc
  split at hc
  · rename_i x1 x2 d hd
    clear x1 x2
    have main : ∀ (g : Tm → H → KV → Ans) (gd : Tm → (AV → Ans) → Ans), (match o.op with | .call c => (match c.callee with | .builtin b => cBuiltin P b c.argTypes c.args.toList | _ => .mk fun _ _ _ => .err 263) | op => cSimple P op) = .mk g → cOpd (.tmp d) = .mk gd →
        ∀ (K' : Ans), (g tm h fun v _ => gd tm fun u => sameV v u K') = .ok rv rh → K' = .ok rv rh ∧ d < 256 ∧ SpecRead P o.op (OV tm) h (tm.get d) := by
      intro g gd hg hgd K' e
      have eff : ∃ val h', (gd tm fun u => sameV val u K') = .ok rv rh ∧ Eff P o.op (OV tm) h val h' 1 := by
        cases hop : o.op with
        | call c =>
          rw [hop] at hg hk
          cases hcal : c.callee with
          | builtin b =>
            simp only [hcal] at hg
            obtain ⟨val, h', e1, he⟩ := cBuiltin_ok hcal hg e
            rw [hk] at he
            exact ⟨val, h', e1, he⟩
          | value f => simp only [hcal] at hg; cases hg; cases e
          | invoke a b => simp only [hcal] at hg; cases hg; cases e
        | _ =>
          rw [hop] at hg hk
          obtain ⟨val, h', e1, he⟩ := cSimple_ok hg e
          rw [hk] at he
          exact ⟨val, h', e1, he⟩
      obtain ⟨val, h', e1, he⟩ := eff
      obtain ⟨u, hu, e2⟩ := cOpd_ok hgd e1
      obtain ⟨hd, rfl⟩ := OV_tmp hu
      obtain ⟨rfl, e3⟩ := sameV_ok e2
      cases he with
      | read hs => exact ⟨e3, hd, hs⟩
    split at hc
    rename_i g gd hg hgd
    split at hc
    · cases hc
      obtain ⟨h1, h2, h3⟩ := main g gd hg hgd _ e
      exact ⟨h1, o, ho, .inr ⟨d, hd, h2, h3⟩⟩
    · split at hc
      · rename_i t want hgp
        split at hc
        rename_i gt hgt
        cases hc
        obtain ⟨x, hx, e1⟩ := cOpd_ok hgt e
        obtain ⟨ht, rfl⟩ := OV_tmp hx
        rcases guardK_ok e1 with ⟨hb, e2⟩ | ⟨hne, e2⟩
        · obtain ⟨h1, h2, h3⟩ := main g gd hg hgd _ e2
          exact ⟨h1, o, ho, .inr ⟨d, hd, h2, h3⟩⟩
        · exact ⟨e2, o, ho, .inl ⟨t, want, hgp, ht, hne⟩⟩
      · cases hc; cases e
  · cases hc; cases e
end Go.AB
namespace Go.AB
variable [Base]
variable {rv : AV} {rh : H}

/-! ### the evaluator's own order -/
def cons0 {α : Type} (x : α) (f : Nat → α) : Nat → α
  | 0 => x
  | p + 1 => f p
theorem cSteps_run {E : Env} {nt : Nat} {ops : Array Oper} {i : Nat} {l : List DS} {g : Rec → Tm → H → KT → Ans} (hc : cSteps E nt ops (.run i :: l) = .mk g) {r : Rec} {tm : Tm} {h : H} {K : KT} (e : g r tm h K = .ok rv rh) :
    ∃ o f g', ops[i]? = some o ∧ cOne E nt ops o = .mk f ∧ cSteps E nt ops l = .mk g' ∧ (f r tm h fun tm h => g' r tm h K) = .ok rv rh := by
  have hc : (match cSteps E nt ops l with
      | .mk g => match nthO ops.toList i with
          | some o => match cOne E nt ops o with
            | .mk f => BR.mk fun r tm h K => f r tm h fun tm h => g r tm h K
          | none => .mk fun _ _ _ _ => .err 265) = .mk g := hc
  split at hc
  rename_i g' hg'
  rw [nthO_eq] at hc
  split at hc
  · rename_i o ho
    split at hc
    rename_i f hf
    cases hc
    exact ⟨o, f, g', by simpa using ho, hf, hg', e⟩
  · cases hc; cases e
theorem cSteps_chk {E : Env} {nt : Nat} {ops : Array Oper} {i : Nat} {l : List DS} {g : Rec → Tm → H → KT → Ans} (hc : cSteps E nt ops (.chk i :: l) = .mk g) {r : Rec} {tm : Tm} {h : H} {K : KT} (e : g r tm h K = .ok rv rh) :
    ∃ o f g', ops[i]? = some o ∧ cChk E.P ops o = .mk f ∧ cSteps E nt ops l = .mk g' ∧ (f r tm h fun tm h => g' r tm h K) = .ok rv rh := by
  have hc : (match cSteps E nt ops l with
      | .mk g => match nthO ops.toList i with
          | some o => match cChk E.P ops o with
            | .mk f => BR.mk fun r tm h K => f r tm h fun tm h => g r tm h K
          | none => .mk fun _ _ _ _ => .err 265) = .mk g := hc
  split at hc
  rename_i g' hg'
  rw [nthO_eq] at hc
  split at hc
  · rename_i o ho
    split at hc
    rename_i f hf
    cases hc
    exact ⟨o, f, g', by simpa using ho, hf, hg', e⟩
  · cases hc; cases e
theorem chks_ok {E : Env} {nt : Nat} {ops : Array Oper} {ks : List Nat} (hks : ∀ (i : Nat) o, ops[i]? = some o → nthN ks i = opKind E.P o.op) {m : Nat} {rest : List DS} {r : Rec} {tm : Tm} {h : H} {K : KT} : ∀ (ran : List Nat) {g : Rec → Tm → H → KT → Ans}
    (_ : cSteps E nt ops (chksN ks m ran rest) = .mk g) (_ : g r tm h K = .ok rv rh), (∃ g', cSteps E nt ops rest = .mk g' ∧ g' r tm h K = .ok rv rh) ∧ ∀ j ∈ ran, nthN ks j = 1 → tbN m j = false → ChkA E.P ops j tm h
  | [], g, hc, e => ⟨⟨g, hc, e⟩, fun j hj => by simp at hj⟩
  | j :: ran, g, hc, e => by
    have hd : chksN ks m (j :: ran) rest = Bool.rec (motive := fun _ => List DS) (chksN ks m ran rest) (.chk j :: chksN ks m ran rest) (andB (Nat.beq (nthN ks j) 1) (notB (tbN m j))) := rfl
    rw [hd] at hc
    cases hb : andB (Nat.beq (nthN ks j) 1) (notB (tbN m j)) with
    | false =>
      rw [hb] at hc
      obtain ⟨h1, h2⟩ := chks_ok hks ran hc e
      refine ⟨h1, fun x hx hk hm => ?_⟩
      rcases List.mem_cons.1 hx with rfl | hx
      · rw [andB_eq, notB_eq, hk, hm] at hb
        cases hb
      · exact h2 x hx hk hm
    | true =>
      rw [hb] at hc
      rw [andB_eq, notB_eq, Bool.and_eq_true, Bool.not_eq_true'] at hb
      obtain ⟨o, f, g', ho, hf, hg', e1⟩ := cSteps_chk hc e
      obtain ⟨e2, hck⟩ := cChk_ok ho (by rw [← hks j o ho]; exact Nat.eq_of_beq_eq_true hb.1) hf e1
      obtain ⟨h1, h2⟩ := chks_ok hks ran hg' e2
      refine ⟨h1, fun x hx hk hm => ?_⟩
      rcases List.mem_cons.1 hx with rfl | hx
      · exact hck
      · exact h2 x hx hk hm
theorem hasRun_cons_run (i j : Nat) (l : List DS) : hasRun i (.run j :: l) = (Nat.beq j i || hasRun i l) := by
  show orB _ _ = _
  rw [orB_eq]; rfl
theorem hasRun_chks (i : Nat) (ks : List Nat) (m : Nat) (rest : List DS) : ∀ ran : List Nat, hasRun i (chksN ks m ran rest) = hasRun i rest
  | [] => rfl
  | j :: ran => by
    have hd : chksN ks m (j :: ran) rest = Bool.rec (motive := fun _ => List DS) (chksN ks m ran rest) (.chk j :: chksN ks m ran rest) (andB (Nat.beq (nthN ks j) 1) (notB (tbN m j))) := rfl
    rw [hd]
    cases (andB (Nat.beq (nthN ks j) 1) (notB (tbN m j))) with
    | false => exact hasRun_chks i ks m rest ran
    | true => exact hasRun_chks i ks m rest ran
/-- What the evaluator's run over a region says, place by place. -/
structure Sched (E : Env) (nt : Nat) (ops : Array Oper) (n : Nat) (ms ks : List Nat) (listed : Nat) (ran : List Nat) (N : Nat) (ix : Nat → Nat) (T : Nat → Tm) (Hh : Nat → H) (va : Nat → AV) : Prop where
  lt : ∀ p, p < N → ix p < n
  new : ∀ p, p < N → tbN listed (ix p) = false ∧ ∀ q, q < p → ix q ≠ ix p
  mask : ∀ p, p < N → ∀ j, tbN (nthN ms (ix p)) j = true → tbN listed j = true ∨ ∃ q, q < p ∧ ix q = j
  act : ∀ p, p < N → 3 ≤ nthN ks (ix p) → ∀ j, j < n → tbN listed j = false → (∀ q, q < p → ix q ≠ j) → (∀ k, tbN (nthN ms j) k = true → tbN listed k = true ∨ ∃ q, q < p ∧ ix q = k) → 3 ≤ nthN ks j
  ev : ∀ p, p < N → EvOK E nt ops (ix p) (T p) (Hh p) (va p) (T (p + 1)) (Hh (p + 1))
  chk : ∀ p, p < N → 3 ≤ nthN ks (ix p) → (∀ j ∈ ran, nthN ks j = 1 → tbN (nthN ms (ix p)) j = false → ChkA E.P ops j (T (p + 1)) (Hh (p + 1))) ∧
    ∀ q, q < p → nthN ks (ix q) = 1 → tbN (nthN ms (ix p)) (ix q) = false → ChkA E.P ops (ix q) (T (p + 1)) (Hh (p + 1))
theorem Sched.cons {E : Env} {nt : Nat} {ops : Array Oper} {n : Nat} {ms ks : List Nat} {listed : Nat} {ran : List Nat} {N : Nat} {ix : Nat → Nat} {T : Nat → Tm} {Hh : Nat → H} {va : Nat → AV} {i : Nat} {tm : Tm} {h : H} {v : AV}
    (hs : Sched E nt ops n ms ks (bitN listed i) (i :: ran) N ix T Hh va) (h1 : i < n) (h2 : tbN listed i = false) (h3 : ∀ x, tbN (nthN ms i) x = true → tbN listed x = true)
    (h4 : 3 ≤ nthN ks i → ∀ j, j < n → tbN listed j = false → (∀ k, tbN (nthN ms j) k = true → tbN listed k = true) → 3 ≤ nthN ks j) (h5 : EvOK E nt ops i tm h v (T 0) (Hh 0))
    (h6 : 3 ≤ nthN ks i → ∀ j ∈ ran, nthN ks j = 1 → tbN (nthN ms i) j = false → ChkA E.P ops j (T 0) (Hh 0)) :
    Sched E nt ops n ms ks listed ran (N + 1) (cons0 i ix) (cons0 tm T) (cons0 h Hh) (cons0 v va) := by
  have hbit : ∀ j, tbN (bitN listed i) j = true → tbN listed j = true ∨ i = j := fun j hj => by
    rw [tbN_bit, Bool.or_eq_true] at hj
    exact hj.imp id (by simp)
  have up : ∀ p j, (∃ q, q < p ∧ ix q = j) → ∃ q, q < p + 1 ∧ cons0 i ix q = j := fun p j ⟨q, hq, he⟩ => ⟨q + 1, by omega, he⟩
  refine ⟨fun p hp => ?_, fun p hp => ?_, fun p hp j hj => ?_, fun p hp hk j hj hl hne hm => ?_, fun p hp => ?_, fun p hp hk => ?_⟩
  · cases p with
    | zero => exact h1
    | succ p => exact hs.lt p (by omega)
  · cases p with
    | zero => exact ⟨h2, fun q hq => by omega⟩
    | succ p =>
      obtain ⟨q1, q2⟩ := hs.new p (by omega)
      rw [tbN_bit, Bool.or_eq_false_iff] at q1
      refine ⟨q1.1, fun q hq => ?_⟩
      cases q with
      | zero =>
        have q3 : i ≠ ix p := by simpa using q1.2
        exact q3
      | succ q => exact q2 q (by omega)
  · cases p with
    | zero => exact .inl (h3 j hj)
    | succ p =>
      rcases hs.mask p (by omega) j hj with h | h
      · rcases hbit j h with h | rfl
        · exact .inl h
        · exact .inr ⟨0, by omega, rfl⟩
      · exact .inr (up p j h)
  · cases p with
    | zero => exact h4 hk j hj hl (fun k hkk => (hm k hkk).resolve_right (by rintro ⟨q, hq, _⟩; omega))
    | succ p =>
      refine hs.act p (by omega) hk j hj ?_ (fun q hq => hne (q + 1) (by omega)) (fun k hkk => ?_)
      · have q3 : i ≠ j := hne 0 (by omega)
        rw [tbN_bit, hl, Bool.false_or]; simpa using q3
      · rcases hm k hkk with h | ⟨q, hq, he⟩
        · exact .inl (by rw [tbN_bit, h]; rfl)
        · cases q with
          | zero =>
            have he : i = k := he
            subst he
            exact .inl (by rw [tbN_bit]; simp)
          | succ q => exact .inr ⟨q, by omega, he⟩
  · cases p with
    | zero => exact h5
    | succ p => exact hs.ev p (by omega)
  · cases p with
    | zero => exact ⟨h6 hk, fun q hq => by omega⟩
    | succ p =>
      obtain ⟨q1, q2⟩ := hs.chk p (by omega) hk
      refine ⟨fun j hj => q1 j (by simp [hj]), fun q hq => ?_⟩
      cases q with
      | zero => exact q1 i (by simp)
      | succ q => exact q2 q (by omega)
theorem sched_ok {E : Env} (hE : EnvOK E) {r : Rec} (hrec : RecOK E.P r) {nt : Nat} {ops : Array Oper} {n : Nat} {ms ks : List Nat} (hks : ∀ (i : Nat) o, ops[i]? = some o → nthN ks i = opKind E.P o.op) (hnd : ∀ (i : Nat) o, ops[i]? = some o → isDefer o = false) :
    ∀ (f listed : Nat) (ran : List Nat) {g : Rec → Tm → H → KT → Ans} (_ : cSteps E nt ops (planN n ms ks f listed ran) = .mk g) {tm : Tm} {h : H} {K : KT} (_ : g r tm h K = .ok rv rh),
      ∃ N ix T Hh va, Sched E nt ops n ms ks listed ran N ix T Hh va ∧ T 0 = tm ∧ Hh 0 = h ∧ K (T N) (Hh N) = .ok rv rh ∧ ∀ i, hasRun i (planN n ms ks f listed ran) = true → ∃ q, q < N ∧ ix q = i
  | 0, listed, ran, g, hc, tm, h, K, e => by
    cases hc
    exact ⟨0, fun _ => 0, fun _ => tm, fun _ => h, fun _ => und, ⟨fun p hp => by omega, fun p hp => by omega, fun p hp => by omega, fun p hp => by omega, fun p hp => by omega, fun p hp => by omega⟩, rfl, rfl, e, fun i hi => by cases hi⟩
  | f + 1, listed, ran, g, hc, tm, h, K, e => by
    have hpl : planN n ms ks (f + 1) listed ran = (match firstN ms ks false listed n 0 with
      | some i => .run i :: planN n ms ks f (bitN listed i) (i :: ran)
      | none => match firstN ms ks true listed n 0 with
        | some i => .run i :: chksN ks (nthN ms i) ran (planN n ms ks f (bitN listed i) (i :: ran))
        | none => []) := rfl
    rw [hpl] at hc ⊢
    split at hc
    · rename_i i hi
      obtain ⟨f1, f2, f3, f4, f5⟩ := firstN_some _ _ hi
      simp only [Bool.false_eq_true, if_false] at f5
      obtain ⟨o, fo, g', ho, hfo, hg', e1⟩ := cSteps_run hc e
      obtain ⟨v, tm1, h1, e2, hev⟩ := cOne_ev hE hrec ho (hnd i o ho) hfo e1
      obtain ⟨N, ix, T, Hh, va, hs, rfl, rfl, e3, hr⟩ := sched_ok hE hrec hks hnd f (bitN listed i) (i :: ran) hg' e2
      refine ⟨N + 1, cons0 i ix, cons0 tm T, cons0 h Hh, cons0 v va, hs.cons (by omega) f3 f4 (fun hk => by omega) hev (fun hk => by omega), rfl, rfl, e3, fun j hj => ?_⟩
      rw [hasRun_cons_run, Bool.or_eq_true] at hj
      rcases hj with hj | hj
      · exact ⟨0, by omega, Nat.eq_of_beq_eq_true hj⟩
      · obtain ⟨q, hq, he⟩ := hr j hj
        exact ⟨q + 1, by omega, he⟩
    · rename_i hno
      split at hc
      · rename_i i hi
        obtain ⟨f1, f2, f3, f4, f5⟩ := firstN_some _ _ hi
        simp only [if_true] at f5
        obtain ⟨o, fo, g', ho, hfo, hg', e1⟩ := cSteps_run hc e
        obtain ⟨v, tm1, h1, e2, hev⟩ := cOne_ev hE hrec ho (hnd i o ho) hfo e1
        obtain ⟨⟨g2, hg2, e3⟩, hck⟩ := chks_ok hks ran hg' e2
        obtain ⟨N, ix, T, Hh, va, hs, rfl, rfl, e4, hr⟩ := sched_ok hE hrec hks hnd f (bitN listed i) (i :: ran) hg2 e3
        refine ⟨N + 1, cons0 i ix, cons0 tm T, cons0 h Hh, cons0 v va, hs.cons (by omega) f3 f4 (fun _ j hj hl hm => ?_) hev (fun _ => hck), rfl, rfl, e4, fun j hj => ?_⟩
        · have := firstN_none n 0 hno j (by omega) (by omega) hl hm
          simp only [Bool.false_eq_true, if_false] at this
          omega
        · rw [hasRun_cons_run, Bool.or_eq_true, hasRun_chks] at hj
          rcases hj with hj | hj
          · exact ⟨0, by omega, Nat.eq_of_beq_eq_true hj⟩
          · obtain ⟨q, hq, he⟩ := hr j hj
            exact ⟨q + 1, by omega, he⟩
      · rename_i hno2
        cases hc
        refine ⟨0, fun _ => 0, fun _ => tm, fun _ => h, fun _ => und, ⟨fun p hp => by omega, fun p hp => by omega, fun p hp => by omega, fun p hp => by omega, fun p hp => by omega, fun p hp => by omega⟩, rfl, rfl, e, fun i hi => ?_⟩
        cases hi

/-! ### the checks of a region's text -/
structure OrdOK (E : Env) (ops : Array Oper) (ms ks : List Nat) : Prop where
  back : ∀ (i : Nat) o, ops[i]? = some o → ∀ e ∈ o.after.toList, bindsAny e = true → e.on < i
  wait : ∀ (i j : Nat) x y d, ops[i]? = some x → ops[j]? = some y → i ≠ j → y.dst = some d → d ∈ tmpsOf x (match guardP ops x with | some (t, _) => some t | none => none) → tbN (nthN ms i) j = true ∨ (tbN (nthN ms j) i = true ∧ nthN ks i ≠ 1)
  once : ∀ (i j : Nat) x y d, ops[i]? = some x → ops[j]? = some y → i ≠ j → y.dst = some d → x.dst ≠ some d
  acts : ∀ (i j : Nat) x y, ops[i]? = some x → ops[j]? = some y → i ≠ j → nthN ks i = 3 → nthN ks j = 3 → tbN (nthN ms i) j = true ∨ tbN (nthN ms j) i = true
  self : ∀ (i : Nat) x d, ops[i]? = some x → x.dst = some d → nthN ks i = 1 → d ∉ tmpsOf x (match guardP ops x with | some (t, _) => some t | none => none)
theorem mem_zipIdx {α : Type} {l : List α} {i : Nat} {x : α} (h : l[i]? = some x) : (x, i) ∈ l.zipIdx := by
  rw [List.mem_zipIdx_iff_getElem?]; exact h
theorem orderOK_ok {E : Env} {ops : Array Oper} {ms ks : List Nat} (hm : ms.length = ops.toList.length) (hk : ks.length = ops.toList.length) (h : orderOK ops.toList (guardsOf ops ops.toList) ms ks = true) : OrdOK E ops ms ks := by
  have item : ∀ (i : Nat) o, ops[i]? = some o → ((ops.toList.zip ((guardsOf ops ops.toList).zip (ms.zip ks)))[i]?) = some (o, (match guardP ops o with | some (t, _) => some t | none => none), nthN ms i, nthN ks i) := by
    intro i o ho
    have ho' : ops.toList[i]? = some o := by simpa using ho
    have hlt : i < ops.toList.length := (List.getElem?_eq_some_iff.1 ho').1
    have h1 : ms[i]? = some (nthN ms i) := by rw [nthN_eq, List.getElem?_eq_getElem (by omega)]; rfl
    have h2 : ks[i]? = some (nthN ks i) := by rw [nthN_eq, List.getElem?_eq_getElem (by omega)]; rfl
    have h3 : (guardsOf ops ops.toList)[i]? = some (match guardP ops o with | some (t, _) => some t | none => none) := by
      unfold guardsOf
      rw [List.getElem?_map, ho']; rfl
    rw [List.getElem?_zip_eq_some, List.getElem?_zip_eq_some, List.getElem?_zip_eq_some]
    exact ⟨ho', h3, h1, h2⟩
  unfold orderOK at h
  simp only [List.all_eq_true] at h
  have one := fun (i : Nat) o (ho : ops[i]? = some o) => h _ (mem_zipIdx (item i o ho))
  simp only [Bool.and_eq_true, List.all_eq_true] at one
  have two := fun (i j : Nat) x y (hx : ops[i]? = some x) (hy : ops[j]? = some y) => (one i x hx).2 _ (mem_zipIdx (item j y hy))
  refine ⟨fun i o ho e he hb => ?_, fun i j x y d hx hy hij hd hmem => ?_, fun i j x y d hx hy hij hd => ?_, fun i j x y hx hy hij h1 h2 => ?_, fun i x d hx hd hk1 => ?_⟩
  · have := (one i o ho).1.1 e he
    rw [hb] at this
    simp only [notB_eq, Bool.not_true, Bool.false_or] at this
    exact Nat.le_of_ble_eq_true this
  · have := two i j x y hx hy
    have hne : Nat.beq i j = false := by rw [nbeq]; simpa using hij
    simp only [hne, Bool.false_or, Bool.and_eq_true, hd, (memN_iff _ _).2 hmem, if_true, Bool.or_eq_true, Bool.not_eq_true'] at this
    rcases this.1.1 with h | h
    · exact .inl h
    · exact .inr ⟨h.1, fun hh => by rw [hh] at h; cases h.2⟩
  · have := two i j x y hx hy
    have hne : Nat.beq i j = false := by rw [nbeq]; simpa using hij
    simp only [hne, Bool.false_or, Bool.and_eq_true, hd] at this
    intro hxd
    have h2 := this.1.2
    rw [hxd] at h2
    simp [nbeq] at h2
  · have := two i j x y hx hy
    have hne : Nat.beq i j = false := by rw [nbeq]; simpa using hij
    simp only [hne, Bool.false_or, Bool.and_eq_true, h1, h2] at this
    have h3 := this.2
    simpa using h3
  · have := (one i x hx).1.2
    rw [hd, hk1] at this
    intro hmem
    have h2 : (if Nat.beq 1 1 = true then !memN d (tmpsOf x (match guardP ops x with | some (t, _) => some t | none => none)) else true) = true := this
    rw [(memN_iff _ _).2 hmem] at h2
    simp at h2
end Go.AB
namespace Go.AB
variable [Base]
variable {rv : AV} {rh : H}

structure Reg (E : Env) (nt : Nat) (ops : Array Oper) (ms ks : List Nat) (N : Nat) (ix : Nat → Nat) (T : Nat → Tm) (Hh : Nat → H) (va : Nat → AV) : Prop where
  S : Sched E nt ops ops.size ms ks 0 [] N ix T Hh va
  O : OrdOK E ops ms ks
  K : ∀ (i : Nat) o, ops[i]? = some o → nthN ks i = opKind E.P o.op
  A : ∀ i, i < ops.size → ∃ q, q < N ∧ ix q = i
  M : ∀ (i : Nat) o, ops[i]? = some o → ∀ j, tbN (nthN ms i) j = true ↔ ∃ e ∈ o.after.toList, bindsAny e = true ∧ (e.on = j ∨ tbN (nthN ms e.on) j = true)
  D : ∀ (i : Nat) o, ops[i]? = some o → isDefer o = false

section
variable {E : Env} {nt : Nat} {ops : Array Oper} {ms ks : List Nat} {N : Nat} {ix : Nat → Nat} {T : Nat → Tm} {Hh : Nat → H} {va : Nat → AV}

theorem Reg.mask (R : Reg E nt ops ms ks N ix T Hh va) {p : Nat} (hp : p < N) {j : Nat} (h : tbN (nthN ms (ix p)) j = true) : ∃ q, q < p ∧ ix q = j :=
  (R.S.mask p hp j h).resolve_left (by rw [tbN_zero]; simp)
theorem Reg.inj (R : Reg E nt ops ms ks N ix T Hh va) {p q : Nat} (hp : p < N) (hq : q < N) (h : ix p = ix q) : p = q := by
  rcases Nat.lt_trichotomy p q with hlt | he | hlt
  · exact absurd h ((R.S.new q hq).2 p hlt)
  · exact he
  · exact absurd h.symm ((R.S.new p hp).2 q hlt)
theorem Reg.op (R : Reg E nt ops ms ks N ix T Hh va) {p : Nat} (hp : p < N) : ∃ o, ops[ix p]? = some o := ⟨ops[ix p]'(R.S.lt p hp), Array.getElem?_eq_getElem (R.S.lt p hp)⟩
theorem Reg.kle (R : Reg E nt ops ms ks N ix T Hh va) {p : Nat} (hp : p < N) : nthN ks (ix p) ≤ 3 := by
  obtain ⟨o, ho⟩ := R.op hp
  rw [R.K _ o ho]; exact opKind_le _ _
/-- The temporary that an operation writes. -/
def dstAt (ops : Array Oper) (i : Nat) : Option Tmp := (ops[i]?).bind (·.dst)
theorem Reg.evAt (R : Reg E nt ops ms ks N ix T Hh va) {p : Nat} (hp : p < N) {o : Oper} (ho : ops[ix p]? = some o) : PutR nt o.dst (T p) (va p) (T (p + 1)) ∧
    ((WantA ops o (T p) ∧ OpSpec E.P o.op (T p) (Hh p) (va p) (Hh (p + 1)) ∧ (opKind E.P o.op ≤ 2 → Eff E.P o.op (OV (T p)) (Hh p) (va p) (Hh (p + 1)) (opKind E.P o.op))) ∨ (NoWantA ops o (T p) ∧ va p = und ∧ Hh (p + 1) = Hh p)) := by
  obtain ⟨o', ho', h⟩ := R.S.ev p hp
  rw [ho] at ho'; cases ho'
  exact h
theorem Reg.once (R : Reg E nt ops ms ks N ix T Hh va) {p q : Nat} (hp : p < N) (hq : q < N) {t : Tmp} (h1 : dstAt ops (ix p) = some t) (h2 : dstAt ops (ix q) = some t) : p = q := by
  obtain ⟨x, hx⟩ := R.op hp
  obtain ⟨y, hy⟩ := R.op hq
  by_cases hne : ix p = ix q
  · exact R.inj hp hq hne
  · unfold dstAt at h1 h2
    rw [hx] at h1; rw [hy] at h2
    exact absurd h1 (R.O.once _ _ x y t hx hy hne h2)
/-- What a temporary holds at a place of the evaluator's order. -/
theorem Reg.val (R : Reg E nt ops ms ks N ix T Hh va) : ∀ q, q ≤ N → ∀ t, t < 256 → (∀ s, s < q → dstAt ops (ix s) = some t → (T q).get t = va s) ∧ ((∀ s, s < q → dstAt ops (ix s) ≠ some t) → (T q).get t = (T 0).get t)
  | 0, _, t, _ => ⟨fun s hs => by omega, fun _ => rfl⟩
  | q + 1, hq, t, ht => by
    obtain ⟨o, ho⟩ := R.op (p := q) (by omega)
    obtain ⟨⟨_, hput, _⟩, _⟩ := R.evAt (by omega) ho
    obtain ⟨h1, h2⟩ := R.val q (by omega) t ht
    have hd : dstAt ops (ix q) = o.dst := by unfold dstAt; rw [ho]; rfl
    have hv := hput t ht
    constructor
    · intro s hs hds
      rcases Nat.lt_or_ge s q with hlt | hge
      · have hne : o.dst ≠ some t := fun hh => by
          have := R.once (p := s) (q := q) (by omega) (by omega) hds (hd.trans hh)
          omega
        rw [hv, if_neg hne]; exact h1 s hlt hds
      · obtain rfl : s = q := by omega
        rw [hv, if_pos (hd.symm.trans hds)]
    · intro hno
      have hne : o.dst ≠ some t := fun hh => hno q (by omega) (hd.trans hh)
      rw [hv, if_neg hne]
      exact h2 fun s hs => hno s (by omega)
def WF (h : H) : Prop := ∀ a ob, h.get a = some ob → a < h.nx
/-- A piece of the evaluator's order without acts. -/
theorem Reg.flt (R : Reg E nt ops ms ks N ix T Hh va) {s : Nat} (hs : s < N) (hk : nthN ks (ix s) ≤ 2) : (Hh s).nx ≤ (Hh (s + 1)).nx ∧ (∀ x, x < (Hh s).nx → (Hh (s + 1)).get x = (Hh s).get x) ∧ (WF (Hh s) → WF (Hh (s + 1))) := by
  obtain ⟨o, ho⟩ := R.op hs
  rw [R.K _ o ho] at hk
  rcases (R.evAt hs ho).2 with ⟨_, _, he⟩ | ⟨_, _, hh⟩
  · have he := he hk
    generalize hkk : opKind E.P o.op = k at he hk
    generalize hhh : Hh (s + 1) = h1 at he
    cases he with
    | pure _ => exact ⟨Nat.le_refl _, fun _ _ => rfl, id⟩
    | read _ => exact ⟨Nat.le_refl _, fun _ _ => rfl, id⟩
    | new hn hg _ =>
      refine ⟨by omega, fun x hx => by rw [hg, if_neg (by omega)], fun hw a ob ha => ?_⟩
      rw [hg] at ha
      split at ha
      · omega
      · have := hw a ob ha; omega
    | act _ => omega
  · rw [hh]; exact ⟨Nat.le_refl _, fun _ _ => rfl, id⟩
theorem Reg.flts (R : Reg E nt ops ms ks N ix T Hh va) {a : Nat} : ∀ b, a ≤ b → b ≤ N → (∀ s, a ≤ s → s < b → nthN ks (ix s) ≤ 2) → (Hh a).nx ≤ (Hh b).nx ∧ (∀ x, x < (Hh a).nx → (Hh b).get x = (Hh a).get x) ∧ (WF (Hh a) → WF (Hh b))
  | 0, hab, _, _ => by obtain rfl : a = 0 := by omega
                       exact ⟨Nat.le_refl _, fun _ _ => rfl, id⟩
  | b + 1, hab, hb, hk => by
    rcases Nat.lt_or_ge a (b + 1) with hlt | hge
    · obtain ⟨h1, h2, h3⟩ := R.flts b (by omega) (by omega) fun s h1 h2 => hk s h1 (by omega)
      obtain ⟨q1, q2, q3⟩ := R.flt (s := b) (by omega) (hk b (by omega) (by omega))
      exact ⟨by omega, fun x hx => by rw [q2 x (by omega), h2 x hx], fun hw => q3 (h3 hw)⟩
    · obtain rfl : a = b + 1 := by omega
      exact ⟨Nat.le_refl _, fun _ _ => rfl, id⟩
theorem next_act (ks : List Nat) (ix : Nat → Nat) (N : Nat) (hk : ∀ s, s < N → nthN ks (ix s) ≤ 3) : ∀ d p, N - p = d → p ≤ N → ∃ p', p ≤ p' ∧ p' ≤ N ∧ (p' < N → nthN ks (ix p') = 3) ∧ ∀ s, p ≤ s → s < p' → nthN ks (ix s) ≤ 2
  | 0, p, hd, hp => ⟨p, Nat.le_refl _, hp, fun h => by omega, fun s h1 h2 => by omega⟩
  | d + 1, p, hd, hp => by
    by_cases h3 : nthN ks (ix p) = 3
    · exact ⟨p, Nat.le_refl _, hp, fun _ => h3, fun s h1 h2 => by omega⟩
    · obtain ⟨p', q1, q2, q3, q4⟩ := next_act ks ix N hk d (p + 1) (by omega) (by omega)
      refine ⟨p', by omega, q2, q3, fun s h1 h2 => ?_⟩
      rcases Nat.lt_or_ge s (p + 1) with hlt | hge
      · obtain rfl : s = p := by omega
        have := hk s (by omega); omega
      · exact q4 s hge h2
theorem HR.growh {γ : Gh} {h h' : H} {w : World} (hr : HR γ h w) (hn : h.nx ≤ h'.nx) (hg : ∀ x, x < h.nx → h'.get x = h.get x) (hw : WF h') : HR γ h' w :=
  ⟨fun a v B N e => by
      obtain ⟨ob, o, h1, h2, h3⟩ := hr.ob a v B N e
      exact ⟨ob, o, by rw [hg a (hr.lt _ _ _ e)]; exact h1, h2, h3⟩,
    hr.inj, fun a v x e => Nat.lt_of_lt_of_le (hr.lt a v x e) hn, hw, hr.base⟩
theorem Ext.growh {γ γ' : Gh} {h h' h'' : H} {w w' : World} (x : Ext γ h w γ' h' w') (hn : h'.nx ≤ h''.nx) (hg : ∀ a, a < h'.nx → h''.get a = h'.get a) : Ext γ h w γ' h'' w' :=
  ⟨x.mono, x.fresh, Nat.le_trans x.nx hn, fun a ha hno => by
      obtain ⟨h1, h2⟩ := x.aold a ha hno
      exact ⟨by rw [hg a (Nat.lt_of_lt_of_le ha x.nx)]; exact h1, h2⟩, x.wold, x.wle, x.still⟩
def On (listed : Array Bool) (j : Nat) : Prop := listed.getD j true = true
theorem On_set {listed : Array Bool} {i j : Nat} (hi : i < listed.size) : On (listed.setIfInBounds i true) j ↔ j = i ∨ On listed j := by
  unfold On
  by_cases hij : i = j
  · subst hij; simp [hi]
  · rw [getD_set_ne true hij]
    exact ⟨.inr, fun h => h.resolve_left (Ne.symm hij)⟩
theorem not_On {listed : Array Bool} {j : Nat} : ¬ On listed j ↔ listed.getD j true = false := by unfold On; simp
theorem On_lt {listed : Array Bool} {j : Nat} (h : j < listed.size) : listed.getD j false = true ↔ On listed j := by unfold On; simp [h]

/-- What holds between the operations of such a region, whatever their order: p is the next act that has not come up. -/
structure Inv (E : Env) (nt : Nat) (ops : Array Oper) (ms ks : List Nat) (N : Nat) (ix : Nat → Nat) (T : Nat → Tm) (Hh : Nat → H) (va : Nat → AV) (γ0 : Gh) (w0 : World) (γ : Gh) (p : Nat) (listed : Array Bool) (a : Act) (w : World) : Prop where
  le : p ≤ N
  size : listed.size = ops.size
  acts : ∀ q, q < p → nthN ks (ix q) = 3 → On listed (ix q)
  rest : ∀ q, p ≤ q → q < N → ¬ On listed (ix q)
  closed : ∀ q, q < N → On listed (ix q) → ∀ j, tbN (nthN ms (ix q)) j = true → On listed j
  tsz : a.tmps.size = nt
  tv : ∀ t, t < 256 → (∀ q, q < N → On listed (ix q) → dstAt ops (ix q) = some t → VR γ (va q) (a.tmps.getD t undef)) ∧ ((∀ q, q < N → On listed (ix q) → dstAt ops (ix q) ≠ some t) → VR γ ((T 0).get t) (a.tmps.getD t undef))
  dfr : DfrsR γ (T 0).df a.defers
  hr : HR γ (Hh p) w
  ext : Ext γ0 (Hh 0) w0 γ (Hh p) w
  wfs : ∀ s, s ≤ p → WF (Hh s)
  mono : ∀ s, s < p → (Hh s).nx ≤ (Hh (s + 1)).nx
  pend : ∀ q, q < p → nthN ks (ix q) = 2 → ¬ On listed (ix q) → ∀ o, ops[ix q]? = some o → WantA ops o (T q) → ∃ ob ver M, SpecNew E.P o.op (OV (T q)) (Hh q).nx (va q) ob ver M ∧ (Hh p).get (Hh q).nx = some ob ∧ (Hh q).nx + 1 = (Hh (q + 1)).nx ∧ ∀ v, γ (Hh q).nx v = none
variable {γ0 γ : Gh} {w0 w : World} {p : Nat} {listed : Array Bool} {a : Act}

theorem Inv.monos (I : Inv E nt ops ms ks N ix T Hh va γ0 w0 γ p listed a w) {s : Nat} : ∀ u, s ≤ u → u ≤ p → (Hh s).nx ≤ (Hh u).nx
  | 0, h, _ => by obtain rfl : s = 0 := by omega
                  exact Nat.le_refl _
  | u + 1, h, hu => by
    rcases Nat.lt_or_ge s (u + 1) with hlt | hge
    · have := I.monos (s := s) u (by omega) (by omega)
      have := I.mono u (by omega)
      omega
    · obtain rfl : s = u + 1 := by omega
      exact Nat.le_refl _
/-- Over a piece without acts. -/
theorem Inv.adv (R : Reg E nt ops ms ks N ix T Hh va) (I : Inv E nt ops ms ks N ix T Hh va γ0 w0 γ p listed a w) {p' : Nat} (h1 : p ≤ p') (h2 : p' ≤ N) (hk : ∀ s, p ≤ s → s < p' → nthN ks (ix s) ≤ 2) : Inv E nt ops ms ks N ix T Hh va γ0 w0 γ p' listed a w := by
  obtain ⟨f1, f2, f3⟩ := R.flts p' h1 h2 hk
  have hwp := I.wfs p (Nat.le_refl _)
  have hmono : ∀ s, s < p' → (Hh s).nx ≤ (Hh (s + 1)).nx := fun s hs => by
    rcases Nat.lt_or_ge s p with hlt | hge
    · exact I.mono s hlt
    · exact (R.flt (by omega) (hk s hge hs)).1
  refine ⟨h2, I.size, fun q hq h3 => ?_, fun q hq hqN => I.rest q (by omega) hqN, I.closed, I.tsz, I.tv, I.dfr, I.hr.growh f1 f2 (f3 hwp), I.ext.growh f1 f2, fun s hs => ?_, hmono, fun q hq hkq hoq o ho hw => ?_⟩
  · rcases Nat.lt_or_ge q p with hlt | hge
    · exact I.acts q hlt h3
    · have := hk q hge hq; omega
  · rcases Nat.lt_or_ge p s with hlt | hge
    · exact (R.flts s (by omega) (by omega) fun u h3 h4 => hk u h3 (by omega)).2.2 hwp
    · exact I.wfs s hge
  · rcases Nat.lt_or_ge q p with hlt | hge
    · obtain ⟨ob, ver, M, q1, q2, q3, q4⟩ := I.pend q hlt hkq hoq o ho hw
      have h5 := I.monos p (s := q + 1) (by omega) (Nat.le_refl _)
      exact ⟨ob, ver, M, q1, by rw [f2 _ (by omega)]; exact q2, q3, q4⟩
    · rcases (R.evAt (by omega) ho).2 with ⟨_, _, he⟩ | ⟨hnw, _, _⟩
      · have hk2 : opKind E.P o.op = 2 := by rw [← R.K _ o ho]; exact hkq
        have he := he (by omega)
        rw [hk2] at he
        obtain ⟨g1, g2, g3⟩ := R.flts (a := q + 1) p' (by omega) h2 fun u h3 h4 => hk u (by omega) h4
        have hge2 : (Hh p).nx ≤ (Hh q).nx := (R.flts q hge (by omega) fun u h3 h4 => hk u h3 (by omega)).1
        generalize hhh : Hh (q + 1) = h1 at he
        cases he with
        | @new _ ob ver M hn hg hs =>
          rw [hhh] at g1 g2 g3
          refine ⟨ob, ver, M, hs, by rw [g2 _ (by omega), hg, if_pos rfl], by omega, fun v => ?_⟩
          cases e : γ (Hh q).nx v with
          | none => rfl
          | some x => have := I.hr.lt _ _ _ e; omega
      · exfalso
        obtain ⟨t, want, hgp, _, hne⟩ := hnw
        rcases hw with hg | ⟨t', want', hgp', _, hb⟩
        · obtain ⟨j, hj, _⟩ := guardP_ok hgp
          rw [hg] at hj; cases hj
        · rw [hgp] at hgp'; cases hgp'; exact hne hb
/-- The temporaries that an operation names, when it may come up. -/
theorem Inv.tmp (R : Reg E nt ops ms ks N ix T Hh va) (I : Inv E nt ops ms ks N ix T Hh va γ0 w0 γ p listed a w) {q : Nat} (hq : q < N) (hnl : ¬ On listed (ix q)) (hm : ∀ j, tbN (nthN ms (ix q)) j = true → On listed j) {o : Oper} (ho : ops[ix q]? = some o) {t : Nat} (ht : t < 256)
    (hmem : t ∈ tmpsOf o (match guardP ops o with | some (t, _) => some t | none => none)) : VR γ ((T q).get t) (a.tmps.getD t undef) := by
  obtain ⟨v1, v2⟩ := R.val q (by omega) t ht
  obtain ⟨i1, i2⟩ := I.tv t ht
  by_cases hex : ∃ s, s < q ∧ dstAt ops (ix s) = some t
  · obtain ⟨s, hs, hds⟩ := hex
    rw [v1 s hs hds]
    refine i1 s (by omega) ?_ hds
    obtain ⟨y, hy⟩ := R.op (p := s) (by omega)
    have hdy : y.dst = some t := by unfold dstAt at hds; rw [hy] at hds; exact hds
    have hne : ix q ≠ ix s := fun hh => by have := R.inj hq (by omega) hh; omega
    rcases R.O.wait _ _ o y t ho hy hne hdy hmem with h | ⟨h, _⟩
    · exact hm _ h
    · obtain ⟨s', hs', he⟩ := R.mask (by omega) h
      have := R.inj (p := s') (q := q) (by omega) hq he
      omega
  · have hno : ∀ s, s < q → dstAt ops (ix s) ≠ some t := fun s hs hd => hex ⟨s, hs, hd⟩
    rw [v2 hno]
    refine i2 fun s hs hon hds => ?_
    have hsq : s ≠ q := fun hh => hnl (hh ▸ hon)
    have hlt : q < s := by
      rcases Nat.lt_or_ge s q with h | h
      · exact absurd hds (hno s h)
      · omega
    obtain ⟨y, hy⟩ := R.op hs
    have hdy : y.dst = some t := by unfold dstAt at hds; rw [hy] at hds; exact hds
    have hne : ix q ≠ ix s := fun hh => hsq (R.inj hs hq hh.symm)
    rcases R.O.wait _ _ o y t ho hy hne hdy hmem with h | ⟨h, _⟩
    · obtain ⟨s', hs', he⟩ := R.mask hq h
      have := R.inj (p := s') (q := s) (by omega) hs he
      omega
    · exact hnl (I.closed s hs hon _ h)
theorem mem_tmpsOf_opd {o : Oper} {g : Option Tmp} {t : Tmp} (h : Operand.tmp t ∈ o.op.operands) : t ∈ tmpsOf o g := by
  unfold tmpsOf
  rw [List.mem_append]
  exact .inr (List.mem_filterMap.2 ⟨.tmp t, by simpa using h, rfl⟩)
theorem mem_tmpsOf_guard {o : Oper} {t : Tmp} : t ∈ tmpsOf o (some t) := by unfold tmpsOf; simp
theorem Inv.opds (R : Reg E nt ops ms ks N ix T Hh va) (I : Inv E nt ops ms ks N ix T Hh va γ0 w0 γ p listed a w) {q : Nat} (hq : q < N) (hnl : ¬ On listed (ix q)) (hm : ∀ j, tbN (nthN ms (ix q)) j = true → On listed j) {o : Oper} (ho : ops[ix q]? = some o) : OpdsR γ (OV (T q)) o.op a := by
  intro x v hx hv
  cases hv with
  | tmp ht => exact I.tmp R hq hnl hm ho ht (mem_tmpsOf_opd hx)
  | const hc => exact absV_rel _ _ _ hc
  | func => simp [VR, Act.eval]
/-- A load's operands have not turned since. -/
theorem Reg.stable (R : Reg E nt ops ms ks N ix T Hh va) {q u : Nat} (hqu : q ≤ u) (hu : u ≤ N) (hq : q < N) {o : Oper} (ho : ops[ix q]? = some o) (hk : nthN ks (ix q) = 1) {t : Nat} (ht : t < 256) (hmem : t ∈ tmpsOf o (match guardP ops o with | some (t, _) => some t | none => none)) :
    (T u).get t = (T q).get t := by
  obtain ⟨v1, v2⟩ := R.val q (by omega) t ht
  obtain ⟨u1, u2⟩ := R.val u hu t ht
  by_cases hex : ∃ s, s < q ∧ dstAt ops (ix s) = some t
  · obtain ⟨s, hs, hds⟩ := hex
    rw [v1 s hs hds, u1 s (by omega) hds]
  · have hno : ∀ s, s < q → dstAt ops (ix s) ≠ some t := fun s hs hd => hex ⟨s, hs, hd⟩
    rw [v2 hno]
    refine u2 fun s hs hds => ?_
    obtain ⟨y, hy⟩ := R.op (p := s) (by omega)
    have hdy : y.dst = some t := by unfold dstAt at hds; rw [hy] at hds; exact hds
    by_cases hsq : s = q
    · subst hsq
      rw [ho] at hy; cases hy
      exact R.O.self _ o t ho hdy hk hmem
    · have hlt : q < s := by
        rcases Nat.lt_or_ge s q with h | h
        · exact absurd hds (hno s h)
        · omega
      have hne : ix q ≠ ix s := fun hh => hsq (R.inj (by omega) hq hh.symm)
      rcases R.O.wait _ _ o y t ho hy hne hdy hmem with h | ⟨_, h⟩
      · obtain ⟨s', hs', he⟩ := R.mask hq h
        have := R.inj (p := s') (q := s) (by omega) (by omega) he
        omega
      · exact h hk
theorem Inv.wanted (R : Reg E nt ops ms ks N ix T Hh va) (I : Inv E nt ops ms ks N ix T Hh va γ0 w0 γ p listed a w) {q : Nat} (hq : q < N) (hnl : ¬ On listed (ix q)) (hm : ∀ j, tbN (nthN ms (ix q)) j = true → On listed j) {o : Oper} (ho : ops[ix q]? = some o) :
    (WantA ops o (T q) → Region.wanted o (yielded ops a.tmps) = true) ∧ (NoWantA ops o (T q) → ¬ Region.wanted o (yielded ops a.tmps) = true) := by
  have key : ∀ t want, guardP ops o = some (t, want) → t < 256 → VR γ ((T q).get t) (a.tmps.getD t undef) := fun t want hgp ht =>
    I.tmp R hq hnl hm ho ht (by rw [hgp]; exact mem_tmpsOf_guard)
  constructor
  · rintro (hg | ⟨t, want, hgp, ht, hb⟩)
    · unfold Region.wanted; rw [hg]
    · exact (wanted_iff hgp (key t want hgp ht)).2 hb
  · rintro ⟨t, want, hgp, ht, hne⟩ hh
    exact hne ((wanted_iff hgp (key t want hgp ht)).1 hh)
/-- An operation's value is in its temporary. -/
theorem tv_put (R : Reg E nt ops ms ks N ix T Hh va) (I : Inv E nt ops ms ks N ix T Hh va γ0 w0 γ p listed a w) {γ' : Gh} (hle : γ.le γ') {q : Nat} (hq : q < N) {o : Oper} (ho : ops[ix q]? = some o) {u : Value} (hu : VR γ' (va q) u) :
    (a.put o.dst u).tmps.size = nt ∧ ∀ t, t < 256 → (∀ s, s < N → On (listed.setIfInBounds (ix q) true) (ix s) → dstAt ops (ix s) = some t → VR γ' (va s) ((a.put o.dst u).tmps.getD t undef)) ∧
      ((∀ s, s < N → On (listed.setIfInBounds (ix q) true) (ix s) → dstAt ops (ix s) ≠ some t) → VR γ' ((T 0).get t) ((a.put o.dst u).tmps.getD t undef)) := by
  have hd : dstAt ops (ix q) = o.dst := by unfold dstAt; rw [ho]; rfl
  obtain ⟨⟨_, _, hput⟩, _⟩ := R.evAt hq ho
  have hset : ∀ j, On (listed.setIfInBounds (ix q) true) j ↔ j = ix q ∨ On listed j := fun j => On_set (by rw [I.size]; exact R.S.lt q hq)
  have hsz : (a.put o.dst u).tmps.size = nt := by
    rw [← I.tsz]; cases o.dst <;> simp [Act.put]
  refine ⟨hsz, fun t ht => ?_⟩
  obtain ⟨i1, i2⟩ := I.tv t ht
  by_cases hdt : o.dst = some t
  · have hget : (a.put o.dst u).tmps.getD t undef = u := by
      obtain ⟨h1, _⟩ := hput t hdt
      rw [hdt]; simp [Act.put, I.tsz, h1]
    rw [hget]
    constructor
    · intro s hs _ hds
      obtain rfl := R.once hs hq hds (hd.trans hdt)
      exact hu
    · intro hno
      exact absurd (hd.trans hdt) (hno q hq ((hset _).2 (.inl rfl)))
  · have hget : (a.put o.dst u).tmps.getD t undef = a.tmps.getD t undef := by
      cases hod : o.dst with
      | none => rfl
      | some d =>
        have : d ≠ t := fun hh => hdt (by rw [hod, hh])
        simp [Act.put, Array.getElem?_setIfInBounds_ne this]
    rw [hget]
    constructor
    · intro s hs hon hds
      rcases (hset _).1 hon with h | h
      · obtain rfl := R.inj hs hq h
        exact absurd (hd.symm.trans hds) hdt
      · exact (i1 s hs h hds).mono hle
    · intro hno
      exact (i2 fun s hs hon => hno s hs ((hset _).2 (.inr hon))).mono hle
end
end Go.AB
namespace Go.AB
variable [Base]
variable {rv : AV} {rh : H}
section
variable {E : Env} {nt : Nat} {ops : Array Oper} {ms ks : List Nat} {N : Nat} {ix : Nat → Nat} {T : Nat → Tm} {Hh : Nat → H} {va : Nat → AV} {γ0 γ : Gh} {w0 w : World} {p : Nat} {listed : Array Bool} {a : Act}

theorem want_not {ops : Array Oper} {o : Oper} {tm : Tm} (h : WantA ops o tm) : ¬ NoWantA ops o tm := by
  rintro ⟨t, want, hgp, _, hne⟩
  rcases h with hg | ⟨t', want', hgp', _, hb⟩
  · obtain ⟨j, hj, _⟩ := guardP_ok hgp
    rw [hg] at hj; cases hj
  · rw [hgp] at hgp'; cases hgp'; exact hne hb
/-- An operation that acts on nothing known comes up. -/
theorem Inv.step (R : Reg E nt ops ms ks N ix T Hh va) (I : Inv E nt ops ms ks N ix T Hh va γ0 w0 γ p listed a w) {q : Nat} (hq : q < p) (hm : ∀ j, tbN (nthN ms (ix q)) j = true → On listed j) {o : Oper} (ho : ops[ix q]? = some o)
    {γ' : Gh} {w' : World} {u : Value} (hle : γ.le γ') (hu : VR γ' (va q) u) (hr : HR γ' (Hh p) w') (hx : Ext γ0 (Hh 0) w0 γ' (Hh p) w') (hpend : ∀ b, (∀ v, γ b v = none) → (nthN ks (ix q) = 2 → WantA ops o (T q) → b ≠ (Hh q).nx) → ∀ v, γ' b v = none) :
    Inv E nt ops ms ks N ix T Hh va γ0 w0 γ' p (listed.setIfInBounds (ix q) true) (a.put o.dst u) w' := by
  have hqN : q < N := Nat.lt_of_lt_of_le hq I.le
  have hset : ∀ j, On (listed.setIfInBounds (ix q) true) j ↔ j = ix q ∨ On listed j := fun j => On_set (by rw [I.size]; exact R.S.lt q hqN)
  obtain ⟨t1, t2⟩ := tv_put R I hle hqN ho hu
  refine ⟨I.le, by simpa using I.size, fun s hs h3 => (hset _).2 (.inr (I.acts s hs h3)), fun s hs hsN hon => ?_, fun s hs hon j hj => ?_, t1, t2, by rw [Act.put_df]; exact I.dfr.mono hle, hr, hx, I.wfs, I.mono, fun s hs hk hoff o' ho' hw => ?_⟩
  · rcases (hset _).1 hon with h | h
    · have := R.inj hsN hqN h; omega
    · exact I.rest s hs hsN h
  · rcases (hset _).1 hon with h | h
    · obtain rfl := R.inj hs hqN h
      exact (hset _).2 (.inr (hm j hj))
    · exact (hset _).2 (.inr (I.closed s hs h j hj))
  · have hoff' : ¬ On listed (ix s) := fun h => hoff ((hset _).2 (.inr h))
    obtain ⟨ob, ver, M, q1, q2, q3, q4⟩ := I.pend s hs hk hoff' o' ho' hw
    refine ⟨ob, ver, M, q1, q2, q3, hpend _ q4 fun hkq hwq hh => ?_⟩
    have hsq : s ≠ q := fun h => hoff ((hset _).2 (.inl (by rw [h])))
    -- two places that make blocks have two numbers
    have hnxs := q3
    have hnxq : (Hh q).nx + 1 = (Hh (q + 1)).nx := by
      rcases (R.evAt hqN ho).2 with ⟨_, _, he⟩ | ⟨hnw, _, he⟩
      · have hk2 : opKind E.P o.op = 2 := by rw [← R.K _ o ho]; exact hkq
        have he := he (by omega)
        rw [hk2] at he
        generalize hhh : Hh (q + 1) = h1 at he
        cases he with
        | new hn _ _ => exact hn.symm
      · exact absurd hnw (want_not hwq)
    rcases Nat.lt_or_ge s q with hlt | hge
    · have := I.monos q (s := s + 1) (by omega) (by omega)
      omega
    · have hqs : q < s := by omega
      have := I.monos s (s := q + 1) (by omega) (by omega)
      omega
/-- An act comes up. -/
theorem Inv.stepAct (R : Reg E nt ops ms ks N ix T Hh va) (I : Inv E nt ops ms ks N ix T Hh va γ0 w0 γ p listed a w) (hp : p < N) (hm : ∀ j, tbN (nthN ms (ix p)) j = true → On listed j) {o : Oper} (ho : ops[ix p]? = some o)
    {γ' : Gh} {w' : World} {u : Value} (hu : VR γ' (va p) u) (hr : HR γ' (Hh (p + 1)) w') (hx : Ext γ (Hh p) w γ' (Hh (p + 1)) w') :
    Inv E nt ops ms ks N ix T Hh va γ0 w0 γ' (p + 1) (listed.setIfInBounds (ix p) true) (a.put o.dst u) w' := by
  have hset : ∀ j, On (listed.setIfInBounds (ix p) true) j ↔ j = ix p ∨ On listed j := fun j => On_set (by rw [I.size]; exact R.S.lt p hp)
  obtain ⟨t1, t2⟩ := tv_put R I hx.mono hp ho hu
  refine ⟨hp, by simpa using I.size, fun s hs h3 => ?_, fun s hs hsN hon => ?_, fun s hs hon j hj => ?_, t1, t2, by rw [Act.put_df]; exact I.dfr.mono hx.mono, hr, I.ext.trans hx, fun s hs => ?_, fun s hs => ?_, fun s hs hk hoff o' ho' hw => ?_⟩
  · rcases Nat.lt_or_ge s p with hlt | hge
    · exact (hset _).2 (.inr (I.acts s hlt h3))
    · obtain rfl : s = p := by omega
      exact (hset _).2 (.inl rfl)
  · rcases (hset _).1 hon with h | h
    · have := R.inj hsN hp h; omega
    · exact I.rest s (by omega) hsN h
  · rcases (hset _).1 hon with h | h
    · obtain rfl := R.inj hs hp h
      exact (hset _).2 (.inr (hm j hj))
    · exact (hset _).2 (.inr (I.closed s hs h j hj))
  · rcases Nat.lt_or_ge p s with hlt | hge
    · obtain rfl : s = p + 1 := by omega
      exact hr.wf
    · exact I.wfs s hge
  · rcases Nat.lt_or_ge s p with hlt | hge
    · exact I.mono s hlt
    · obtain rfl : s = p := by omega
      exact hx.nx
  · have hoff' : ¬ On listed (ix s) := fun h => hoff ((hset _).2 (.inr h))
    have hsp : s < p := by
      rcases Nat.lt_or_ge s p with h | h
      · exact h
      · obtain rfl : s = p := by omega
        exact absurd ((hset _).2 (.inl rfl)) hoff
    obtain ⟨ob, ver, M, q1, q2, q3, q4⟩ := I.pend s hsp hk hoff' o' ho' hw
    have hlt : (Hh s).nx < (Hh p).nx := by
      have := I.monos p (s := s + 1) (by omega) (Nat.le_refl _)
      omega
    obtain ⟨z1, z2⟩ := hx.aold _ hlt q4
    exact ⟨ob, ver, M, q1, by rw [z1]; exact q2, q3, z2⟩
theorem binds_any (e : Edge) : Region.binds .any e = bindsAny e := by
  unfold Region.binds bindsAny
  cases e.ground <;> rfl
/-- An operation that may come up: what must come ahead of it has come up. -/
theorem Inv.ahead (R : Reg E nt ops ms ks N ix T Hh va) (I : Inv E nt ops ms ks N ix T Hh va γ0 w0 γ p listed a w) {q : Nat} (hq : q < N) {o : Oper} (ho : ops[ix q]? = some o) (hall : ∀ e ∈ o.after, Region.binds .any e = true → listed.getD e.on false = true) :
    ∀ j, tbN (nthN ms (ix q)) j = true → On listed j := by
  intro j hj
  obtain ⟨e, he, hb, h⟩ := (R.M _ o ho j).1 hj
  have hon : On listed e.on := by
    have h1 := hall e (Array.mem_toList_iff.1 he) (by rw [binds_any]; exact hb)
    have hlt : e.on < listed.size := by
      rcases Nat.lt_or_ge e.on listed.size with h | h
      · exact h
      · simp [Array.getElem?_eq_none h] at h1
    exact (On_lt hlt).1 h1
  rcases h with rfl | h
  · exact hon
  · have hlt := R.O.back _ o ho e he hb
    have hn := R.S.lt q hq
    obtain ⟨s, hs, hse⟩ := R.A e.on (by omega)
    rw [← hse] at hon h
    exact I.closed s hs hon j h
/-- What may come up now: something without acts from before, or the next act. -/
theorem Inv.place (R : Reg E nt ops ms ks N ix T Hh va) (I : Inv E nt ops ms ks N ix T Hh va γ0 w0 γ p listed a w) (hact : p < N → nthN ks (ix p) = 3) {q : Nat} (hq : q < N) (hnl : ¬ On listed (ix q)) (hm : ∀ j, tbN (nthN ms (ix q)) j = true → On listed j) :
    (q < p ∧ nthN ks (ix q) ≤ 2) ∨ q = p := by
  rcases Nat.lt_trichotomy q p with hlt | he | hgt
  · refine .inl ⟨hlt, ?_⟩
    have h1 := R.kle hq
    have h2 : nthN ks (ix q) ≠ 3 := fun h => hnl (I.acts q hlt h)
    omega
  · exact .inr he
  · exfalso
    have hp : p < N := by omega
    have h3 := hact hp
    have hwhere : ∀ k, On listed k → k < ops.size → ∃ s, s < p ∧ ix s = k := fun k hk hkn => by
      obtain ⟨s, hs, rfl⟩ := R.A k hkn
      refine ⟨s, ?_, rfl⟩
      rcases Nat.lt_or_ge s p with h | h
      · exact h
      · exact absurd hk (I.rest s h hs)
    by_cases hk : nthN ks (ix q) = 3
    · obtain ⟨x, hx⟩ := R.op hq
      obtain ⟨y, hy⟩ := R.op hp
      have hne : ix q ≠ ix p := fun h => by have := R.inj hq hp h; omega
      rcases R.O.acts _ _ x y hx hy hne hk h3 with h | h
      · exact I.rest p (Nat.le_refl _) hp (hm _ h)
      · obtain ⟨s, hs, hse⟩ := R.mask hp h
        have := R.inj (p := s) (q := q) (by omega) hq hse
        omega
    · have hk2 : nthN ks (ix q) ≤ 2 := by have := R.kle hq; omega
      have := R.S.act p hp (by omega) (ix q) (R.S.lt q hq) (tbN_zero _) (fun s hs h => by have := R.inj (p := s) (q := q) (by omega) hq h; omega) (fun k hkk => .inr ?_)
      · omega
      · obtain ⟨s', hs', hse'⟩ := R.mask hq hkk
        exact hwhere k (hm k hkk) (by rw [← hse']; exact R.S.lt s' (by omega))
/-- What a load says, whatever acts have come up since the evaluator did it. -/
theorem Inv.load (R : Reg E nt ops ms ks N ix T Hh va) (I : Inv E nt ops ms ks N ix T Hh va γ0 w0 γ p listed a w) {q : Nat} (hq : q < p) (hnl : ¬ On listed (ix q)) (hm : ∀ j, tbN (nthN ms (ix q)) j = true → On listed j) {o : Oper} (ho : ops[ix q]? = some o) (hk : nthN ks (ix q) = 1) (hw : WantA ops o (T q)) :
    ∃ v, (execOp a.eval o).run E.P w = .ok (.value v) w ∧ VR γ (va q) v := by
  have hqN : q < N := Nat.lt_of_lt_of_le hq I.le
  -- the place of the last act behind it
  have last : ∀ b, q ≤ b → b ≤ p → (∀ s, b ≤ s → s < p → nthN ks (ix s) ≤ 2) → (∃ u, q < u ∧ u ≤ p ∧ nthN ks (ix (u - 1)) = 3 ∧ ∀ s, u ≤ s → s < p → nthN ks (ix s) ≤ 2) ∨ ∀ s, q ≤ s → s < p → nthN ks (ix s) ≤ 2 := by
    intro b
    induction b with
    | zero => intro h1 _ h3; obtain rfl : q = 0 := by omega
              exact .inr h3
    | succ b ih =>
      intro h1 h2 h3
      rcases Nat.lt_or_ge b q with hlt | hge
      · obtain rfl : b + 1 = q := by omega
        exact .inr h3
      · by_cases hk3 : nthN ks (ix b) = 3
        · exact .inl ⟨b + 1, by omega, h2, hk3, h3⟩
        · refine ih hge (by omega) fun s hs1 hs2 => ?_
          rcases Nat.lt_or_ge b s with h | h
          · exact h3 s (by omega) hs2
          · obtain rfl : s = b := by omega
            have hpN := I.le
            have := R.kle (p := s) (by omega)
            omega
  have fin : ∀ u, q ≤ u → u ≤ p → SpecRead E.P o.op (OV (T u)) (Hh u) (va q) → (∀ s, u ≤ s → s < p → nthN ks (ix s) ≤ 2) → ∃ v, (execOp a.eval o).run E.P w = .ok (.value v) w ∧ VR γ (va q) v := by
    intro u h1 h2 hs hfl
    have hwu := I.wfs u h2
    obtain ⟨_, f2, _⟩ := R.flts p h2 I.le hfl
    refine hs γ a (Hh p) w o rfl (fun b ob hb => by rw [f2 b (hwu b ob hb)]; exact hb) (fun x v hx hv => ?_) I.hr
    cases hv with
    | @tmp t ht =>
      have hmem := mem_tmpsOf_opd (g := match guardP ops o with | some (t, _) => some t | none => none) hx
      rw [R.stable h1 (Nat.le_trans h2 I.le) hqN ho hk ht hmem]
      exact I.tmp R hqN hnl hm ho ht hmem
    | const hc => exact absV_rel _ _ _ hc
    | func => simp [VR, Act.eval]
  rcases last p (by omega) (Nat.le_refl _) (fun s h1 h2 => by omega) with ⟨u, hu1, hu2, hu3, hu4⟩ | hall
  · obtain ⟨u, rfl⟩ : ∃ k, u = k + 1 := ⟨u - 1, by omega⟩
    simp only [Nat.add_sub_cancel] at hu3
    have huN : u < N := Nat.lt_of_lt_of_le hu2 I.le
    have hqu : q ≠ u := fun h => by rw [h] at hk; omega
    have hnm : tbN (nthN ms (ix u)) (ix q) = false := by
      cases hb : tbN (nthN ms (ix u)) (ix q) with
      | false => rfl
      | true => exact absurd (I.closed u huN (I.acts u (by omega) hu3) _ hb) hnl
    obtain ⟨o', ho', hck⟩ := (R.S.chk u huN (by omega)).2 q (by omega) hk hnm
    rw [ho] at ho'; cases ho'
    rcases hck with ⟨t, want, hgp, ht, hne⟩ | ⟨d, hd, hd256, hs⟩
    · exfalso
      have hst := R.stable (u := u + 1) (by omega) (by omega) hqN ho hk ht (by rw [hgp]; exact mem_tmpsOf_guard)
      exact want_not hw ⟨t, want, hgp, ht, by rw [← hst]; exact hne⟩
    · have hdq : dstAt ops (ix q) = some d := by unfold dstAt; rw [ho]; exact hd
      rw [(R.val (u + 1) (by omega) d hd256).1 q (by omega) hdq] at hs
      exact fin (u + 1) (by omega) hu2 hs hu4
  · rcases (R.evAt hqN ho).2 with ⟨_, _, he⟩ | ⟨hnw, _, _⟩
    · have hk1 : opKind E.P o.op = 1 := by rw [← R.K _ o ho]; exact hk
      have he := he (by omega)
      rw [hk1] at he
      generalize hhh : Hh (q + 1) = h1 at he
      cases he with
      | read hs => exact fin q (Nat.le_refl _) (by omega) hs hall
    · exact absurd hnw (want_not hw)
/-- All orders of such a region. -/
theorem Inv.all (R : Reg E nt ops ms ks N ix T Hh va) {Q : Exit → Act → World → Prop} (hQ : ∀ γ a w, St γ nt (T N) (Hh N) a w → Ext γ0 (Hh 0) w0 γ (Hh N) w → Q .normal a w) : ∀ (fuel : Nat) (U : List Nat) (γ : Gh) (p : Nat) (listed : Array Bool) (a : Act) (w : World),
    Inv E nt ops ms ks N ix T Hh va γ0 w0 γ p listed a w → (p < N → nthN ks (ix p) = 3) → (∀ j, j < ops.size → ¬ On listed j → j ∈ U) → U.length ≤ fuel → wpAnyIn (FR none) 0 E.P .any ops Q fuel listed a w := by
  have fin : ∀ γ p listed a w, Inv E nt ops ms ks N ix T Hh va γ0 w0 γ p listed a w → (∀ j, j < ops.size → On listed j) → Q .normal a w := by
    intro γ p listed a w I hall
    have hpN : p = N := by
      rcases Nat.lt_or_ge p N with h | h
      · exact absurd (hall _ (R.S.lt p h)) (I.rest p (Nat.le_refl _) h)
      · have := I.le; omega
    subst hpN
    refine hQ γ a w ⟨⟨I.tsz, fun t ht => ?_⟩, ?_, I.hr⟩ I.ext
    · obtain ⟨v1, v2⟩ := R.val p (Nat.le_refl _) t ht
      obtain ⟨i1, i2⟩ := I.tv t ht
      by_cases hex : ∃ s, s < p ∧ dstAt ops (ix s) = some t
      · obtain ⟨s, hs, hds⟩ := hex
        rw [v1 s hs hds]; exact i1 s hs (hall _ (R.S.lt s hs)) hds
      · rw [v2 fun s hs hd => hex ⟨s, hs, hd⟩]
        exact i2 fun s hs _ hd => hex ⟨s, hs, hd⟩
    · have hdf : ∀ b, b ≤ p → (T b).df = (T 0).df := by
        intro b
        induction b with
        | zero => intro _; rfl
        | succ b ih =>
          intro hb
          obtain ⟨o, ho⟩ := R.op (p := b) (by omega)
          rw [(R.evAt (by omega) ho).1.1]; exact ih (by omega)
      rw [hdf p (Nat.le_refl _)]; exact I.dfr
  have ready_nil : ∀ γ p listed a w, Inv E nt ops ms ks N ix T Hh va γ0 w0 γ p listed a w → Region.ready .any ops listed = [] → ∀ j, j < ops.size → On listed j := by
    intro γ p listed a w I hr
    have key : ∀ q, q < N → On listed (ix q) := by
      intro q
      induction q using Nat.strongRecOn with
      | _ q ih =>
        intro hq
        refine Classical.byContradiction fun hoff => ?_
        obtain ⟨o, ho⟩ := R.op hq
        have : ix q ∈ Region.ready .any ops listed := by
          rw [mem_ready]
          refine ⟨not_On.1 hoff, o, ho, fun e he hb => ?_⟩
          rw [binds_any] at hb
          have hm : tbN (nthN ms (ix q)) e.on = true := (R.M _ o ho e.on).2 ⟨e, Array.mem_toList_iff.2 he, hb, .inl rfl⟩
          obtain ⟨s, hs, hse⟩ := R.mask hq hm
          have hon := ih s hs (by omega)
          rw [hse] at hon
          have hlt : e.on < listed.size := by rw [I.size, ← hse]; exact R.S.lt s (by omega)
          exact (On_lt hlt).2 hon
        rw [hr] at this
        cases this
    intro j hj
    obtain ⟨q, hq, rfl⟩ := R.A j hj
    exact key q hq
  intro fuel
  induction fuel with
  | zero =>
    intro U γ p listed a w I hact hU hlen
    have hall : ∀ j, j < ops.size → On listed j := fun j hj => Classical.byContradiction fun h => by
      have := hU j hj h
      have h0 : U = [] := List.eq_nil_of_length_eq_zero (by omega)
      rw [h0] at this; cases this
    refine ⟨?_, fin γ p listed a w I hall⟩
    cases hr : Region.ready .any ops listed with
    | nil => rfl
    | cons i rs =>
      have hi : i ∈ Region.ready .any ops listed := by rw [hr]; simp
      obtain ⟨h1, o, ho, _⟩ := mem_ready.1 hi
      have hlt : i < ops.size := (Array.getElem?_eq_some_iff.1 ho).1
      exact absurd (hall i hlt) (not_On.2 h1)
  | succ fuel ih =>
    intro U γ p listed a w I hact hU hlen
    refine ⟨fun hr => fin γ p listed a w I (ready_nil γ p listed a w I hr), fun i hi => ?_⟩
    obtain ⟨hoff, o, ho, hall⟩ := mem_ready.1 hi
    have hlt : i < ops.size := (Array.getElem?_eq_some_iff.1 ho).1
    obtain ⟨q, hq, rfl⟩ := R.A i hlt
    have hnl : ¬ On listed (ix q) := not_On.2 hoff
    have hm := I.ahead R hq ho hall
    have hset : ∀ j, On (listed.setIfInBounds (ix q) true) j ↔ j = ix q ∨ On listed j := fun j => On_set (by rw [I.size]; exact hlt)
    have hU' : ∀ j, j < ops.size → ¬ On (listed.setIfInBounds (ix q) true) j → j ∈ U.filter (fun x => x != ix q) := fun j hj hn => by
      have h1 : j ≠ ix q := fun h => hn ((hset j).2 (.inl h))
      exact List.mem_filter.2 ⟨hU j hj fun h => hn ((hset j).2 (.inr h)), by simpa using h1⟩
    have hlen' : (U.filter (fun x => x != ix q)).length ≤ fuel := by
      have : (U.filter (fun x => x != ix q)).length < U.length := by
        rw [List.length_filter_lt_length_iff_exists]
        exact ⟨ix q, hU _ hlt hnl, by simp⟩
      omega
    have hnd : ∀ c, o.op ≠ .defer c := fun c hc => by have := R.D _ o ho; simp [isDefer, hc] at this
    have hwant := I.wanted R hq hnl hm ho
    have hops := I.opds R hq hnl hm ho
    unfold wpOpIn
    rw [ho]
    simp only
    rcases I.place R hact hq hnl hm with ⟨hqp, hk2⟩ | rfl
    · -- it acts on nothing known
      have go : ∀ (γ' : Gh) (w' : World) (u : Value), γ.le γ' → VR γ' (va q) u → HR γ' (Hh p) w' → Ext γ0 (Hh 0) w0 γ' (Hh p) w' → (∀ b, (∀ v, γ b v = none) → (nthN ks (ix q) = 2 → WantA ops o (T q) → b ≠ (Hh q).nx) → ∀ v, γ' b v = none) →
          wpAnyIn (FR none) 0 E.P .any ops Q fuel (listed.setIfInBounds (ix q) true) (a.put o.dst u) w' := fun γ' w' u h1 h2 h3 h4 h5 =>
        ih _ γ' p _ _ _ (I.step R hqp hm ho h1 h2 h3 h4 h5) hact hU' hlen'
      rcases (R.evAt hq ho).2 with ⟨hw, _, he⟩ | ⟨hnw, hva, _⟩
      · rw [if_pos (hwant.1 hw)]
        refine wpIn_of hnd ?_
        have hk := R.K _ o ho
        have he := he (by omega)
        by_cases hk1 : nthN ks (ix q) = 1
        · obtain ⟨v, h1, h2⟩ := I.load R hqp hnl hm ho hk1 hw
          rw [h1]
          exact go γ w v (Gh.le_refl γ) h2 I.hr I.ext fun b hb _ => hb
        · rw [← hk] at he
          generalize hkk : nthN ks (ix q) = k at he hk1 hk2
          generalize hhh : Hh (q + 1) = h1 at he
          cases he with
          | pure hs =>
            obtain ⟨v, h1, h2⟩ := hs γ a (Hh p) w o rfl hops I.hr
            rw [h1]
            exact go γ w v (Gh.le_refl γ) h2 I.hr I.ext fun b hb _ => hb
          | read hs => exact absurd rfl hk1
          | @new _ ob0 ver0 M0 hn hg hs0 =>
            obtain ⟨ob, ver, M, hs, g1, g2, g3⟩ := I.pend q hqp hkk hnl o ho hw
            obtain ⟨ob', w1, v, h1, h2, hst1, h3⟩ := hs γ a (Hh p) w o rfl hops I.hr
            rw [h1]
            have hmono := Gh.le_put (γ := γ) (a := (Hh q).nx) (v := ver) (B := w.heap.size) (N := M) (g3 ver)
            obtain ⟨h4, h5⟩ := h3 (γ.put (Hh q).nx ver w.heap.size M) hmono Gh.put_same
            have hlt' : (Hh q).nx < (Hh p).nx := by
              have := I.monos p (s := q + 1) (by omega) (Nat.le_refl _)
              omega
            have h0 : (Hh 0).nx ≤ (Hh q).nx := I.monos q (s := 0) (by omega) (by omega)
            have hold : ∀ a v' B N', γ a v' = some (B, N') → B < w.heap.size := fun a v' B N' e => by
              obtain ⟨_, o', _, h2, _⟩ := I.hr.ob a v' B N' e
              exact (Array.getElem?_eq_some_iff.1 h2).1
            have hkeep : ∀ B, B < w.heap.size → w1.heap[B]? = w.heap[B]? := fun B hB => by rw [h2, Array.getElem?_push_lt hB, ← Array.getElem?_eq_getElem hB]
            refine go (γ.put (Hh q).nx ver w.heap.size M) w1 v hmono h4 ⟨fun b v' B N' e => ?_, fun b v1 B N1 b' v2 N2 e1 e2 => ?_, fun b v' x e => ?_, I.hr.wf, fun B o' hb => ?_⟩ ⟨Gh.le_trans I.ext.mono hmono, fun b v' B N' e => ?_, I.ext.nx, fun b hb hno => ?_, fun B hB hno => ?_, ?_, I.ext.still.trans hst1⟩ fun b hb hne v' => ?_
            · rcases Gh.put_some e with ⟨rfl, rfl, e'⟩ | ⟨e', _⟩
              · cases e'
                exact ⟨ob, ob', g1, by rw [h2]; simp, h5⟩
              · obtain ⟨obx, ox, x1, x2, x3⟩ := I.hr.ob b v' B N' e'
                exact ⟨obx, ox, x1, by rw [hkeep B (hold _ _ _ _ e')]; exact x2, x3.mono hmono⟩
            · rcases Gh.put_some e1 with ⟨rfl, _, e1'⟩ | ⟨e1', _⟩ <;> rcases Gh.put_some e2 with ⟨rfl, _, e2'⟩ | ⟨e2', _⟩
              · rfl
              · cases e1'; exact absurd (hold _ _ _ _ e2') (Nat.lt_irrefl _)
              · cases e2'; exact absurd (hold _ _ _ _ e1') (Nat.lt_irrefl _)
              · exact I.hr.inj _ _ _ _ _ _ _ e1' e2'
            · rcases Gh.put_some e with ⟨rfl, _, _⟩ | ⟨e', _⟩
              · exact hlt'
              · exact I.hr.lt _ _ _ e'
            · obtain ⟨z1, z2⟩ := I.hr.base B o' hb
              have hltB : B < w.heap.size := (Array.getElem?_eq_some_iff.1 z1).1
              refine ⟨by rw [hkeep B hltB]; exact z1, fun b v' N' e => ?_⟩
              rcases Gh.put_some e with ⟨_, _, e'⟩ | ⟨e', _⟩
              · cases e'; exact absurd hltB (Nat.lt_irrefl _)
              · exact z2 _ _ _ e'
            · rcases Gh.put_some e with ⟨rfl, _, e'⟩ | ⟨e', _⟩
              · cases e'; exact .inr I.ext.wle
              · exact I.ext.fresh _ _ _ _ e'
            · obtain ⟨z1, z2⟩ := I.ext.aold b hb hno
              refine ⟨z1, fun v' => ?_⟩
              unfold Gh.put
              rw [if_neg (by rintro ⟨h, _⟩; omega), z2]
            · rw [hkeep B (Nat.lt_of_lt_of_le hB I.ext.wle)]
              exact I.ext.wold B hB hno
            · rw [h2]; simp; have := I.ext.wle; omega
            · unfold Gh.put
              rw [if_neg (by rintro ⟨h, _⟩; exact hne hkk hw h), hb]
          | act hs => omega
      · rw [if_neg (hwant.2 hnw)]
        refine ⟨fun _ _ => trivial, go γ w undef (Gh.le_refl γ) (by rw [hva]; simp [und, VR, undef]) I.hr I.ext fun b hb _ => hb⟩
    · -- the next act
      have go : ∀ (γ' : Gh) (w' : World) (u : Value), VR γ' (va q) u → HR γ' (Hh (q + 1)) w' → Ext γ (Hh q) w γ' (Hh (q + 1)) w' →
          wpAnyIn (FR none) 0 E.P .any ops Q fuel (listed.setIfInBounds (ix q) true) (a.put o.dst u) w' := fun γ' w' u h1 h2 h3 => by
        have I' := I.stepAct R hq hm ho h1 h2 h3
        obtain ⟨p', q1, q2, q3, q4⟩ := next_act ks ix N (fun s hs => R.kle hs) _ (q + 1) rfl hq
        exact ih _ γ' p' _ _ _ (I'.adv R q1 q2 q4) q3 hU' hlen'
      rcases (R.evAt hq ho).2 with ⟨hw, hs, _⟩ | ⟨hnw, hva, hhh⟩
      · rw [if_pos (hwant.1 hw)]
        exact hs γ a w o none rfl hops I.hr _ Q fun u w' γ' h1 h2 h3 => go γ' w' u h1 h3 h2
      · rw [if_neg (hwant.2 hnw)]
        exact ⟨fun _ _ => trivial, go γ w undef (by rw [hva]; simp [und, VR, undef]) (by rw [hhh]; exact I.hr) (by rw [hhh]; exact Ext.refl γ (Hh q) w)⟩
end
/-- **A region whose order is drawn.** -/
theorem draw_ok {E : Env} (hE : EnvOK E) (hmix : E.P.follows .mixedOrders = true) {r : Rec} (hrec : RecOK E.P r) {nt id : Nat} {ops : Array Oper} {f : Rec → Tm → H → KT → Ans} (hc : cDraw E nt ops = .mk f) {tm : Tm} {h : H} {K : KT} (e : f r tm h K = .ok rv rh) :
    ∃ tm' h', K tm' h' = .ok rv rh ∧ CodeSpec E.P nt none (.region id ops true) tm h .nrm tm' h' := by
  unfold cDraw at hc
  split at hc
  · rename_i hord hdef hrun
    have hml : (masksN ops.toList []).length = ops.toList.length := by rw [masksN_len]; simp
    have hO : OrdOK E ops (masksN ops.toList []) (kindsN E.P ops.toList) := orderOK_ok hml (kindsN_len _ _) hord
    have hK : ∀ (i : Nat) o, ops[i]? = some o → nthN (kindsN E.P ops.toList) i = opKind E.P o.op := fun i o ho => kindsN_at E.P ops.toList i o (by simpa using ho)
    have hD : ∀ (i : Nat) o, ops[i]? = some o → isDefer o = false := fun i o ho => by
      have hmem : o ∈ ops.toList := List.mem_of_getElem? (show ops.toList[i]? = some o by simpa using ho)
      cases hd : isDefer o with
      | false => rfl
      | true =>
        have : ops.toList.any isDefer = true := List.any_eq_true.2 ⟨o, hmem, hd⟩
        rw [this] at hdef; cases hdef
    obtain ⟨N, ix, T, Hh, va, hS, hT0, hH0, e1, hcov⟩ := sched_ok hE hrec hK hD _ _ _ hc e
    have hall : ∀ n, allRun (planN ops.toList.length (masksN ops.toList []) (kindsN E.P ops.toList) ops.toList.length 0 []) n = true → ∀ i, i < n → hasRun i (planN ops.toList.length (masksN ops.toList []) (kindsN E.P ops.toList) ops.toList.length 0 []) = true := by
      intro n
      induction n with
      | zero => intro _ i hi; omega
      | succ n ih =>
        intro hn i hi
        have hn' : andB (hasRun n (planN ops.toList.length (masksN ops.toList []) (kindsN E.P ops.toList) ops.toList.length 0 [])) (allRun (planN ops.toList.length (masksN ops.toList []) (kindsN E.P ops.toList) ops.toList.length 0 []) n) = true := hn
        rw [andB_eq, Bool.and_eq_true] at hn'
        rcases Nat.lt_or_ge i n with h | h
        · exact ih hn'.2 i h
        · obtain rfl : i = n := by omega
          exact hn'.1
    have R : Reg E nt ops (masksN ops.toList []) (kindsN E.P ops.toList) N ix T Hh va := by
      refine ⟨by rw [Array.length_toList] at hS; exact hS, hO, hK, fun i hi => hcov i (hall _ hrun i (by simpa using hi)), fun i o ho j => ?_, hD⟩
      obtain ⟨pre, h1, h2⟩ := masksN_at ops.toList [] i o (by simpa using ho)
      simp only [List.length_nil, Nat.zero_add] at h1 h2
      rw [h2, maskE_iff]
      constructor
      · rintro ⟨x, q1, q2, q3⟩
        exact ⟨x, q1, q2, q3.imp (fun hh => hh) fun hh => by rw [← h1 _ (hO.back i o ho x q1 q2)]; exact hh⟩
      · rintro ⟨x, q1, q2, q3⟩
        exact ⟨x, q1, q2, q3.imp (fun hh => hh) fun hh => by rw [h1 _ (hO.back i o ho x q1 q2)]; exact hh⟩
    refine ⟨T N, Hh N, e1, fun γ a w Ro hro hst => wpIn_region_any hmix ?_⟩
    obtain rfl : Ro = none := by cases Ro with | none => rfl | some _ => exact hro.elim
    subst hT0 hH0
    have hr' : HR γ (Hh 0) { w with drawn := w.drawn + 1 } := ⟨hst.hrr.ob, hst.hrr.inj, hst.hrr.lt, hst.hrr.wf, hst.hrr.base⟩
    have hoff : ∀ j, j < ops.size → ¬ On (Array.replicate ops.size false) j := fun j hj => by unfold On; simp [hj]
    have I0 : Inv E nt ops (masksN ops.toList []) (kindsN E.P ops.toList) N ix T Hh va γ { w with drawn := w.drawn + 1 } γ 0 (Array.replicate ops.size false) a { w with drawn := w.drawn + 1 } :=
      ⟨Nat.zero_le _, by simp, fun q hq => by omega, fun q _ hq => hoff _ (R.S.lt q hq), fun q hq hon => absurd hon (hoff _ (R.S.lt q hq)), hst.tmr.1,
        fun t ht => ⟨fun q hq hon => absurd hon (hoff _ (R.S.lt q hq)), fun _ => hst.tmr.2 t ht⟩, hst.dfr, hr', Ext.refl _ _ _, fun s hs => (Nat.le_zero.1 hs) ▸ hr'.wf, fun s hs => by omega, fun q hq => by omega⟩
    obtain ⟨p', q1, q2, q3, q4⟩ := next_act (kindsN E.P ops.toList) ix N (fun s hs => R.kle hs) _ 0 rfl (Nat.zero_le _)
    refine Inv.all R (γ0 := γ) (w0 := { w with drawn := w.drawn + 1 }) ?_ ops.size (List.range ops.size) γ p' _ a _ (I0.adv R q1 q2 q4) q3 (fun j hj _ => List.mem_range.2 hj) (by simp)
    intro γ' a' w' hst' hx'
    exact ⟨rfl, γ', hst', ⟨hx'.mono, hx'.fresh, hx'.nx, hx'.aold, hx'.wold, hx'.wle, ⟨hx'.still.os, hx'.still.tape, hx'.still.output⟩⟩⟩
  · cases hc; cases e
end Go.AB
