/-
  The evaluator (abstract runs of a loaded program's code) and its soundness: part Ab2.
-/
import Derived.Test.YtdbfmnaldkfecaaGreatDoorAb1
import Derived.Laws.Entries
import Derived.Laws.Strings
import Derived.Laws.Cover1
import Derived.Laws.Concat
import Derived.Laws.StructEq
import Derived.LaidEql
import Derived.Deep.MidRow
set_option linter.all false
namespace Go.AB
variable [Base]
variable {rv : AV} {rh : H} {P : Program}

/-! ### operands -/
inductive OV (tm : Tm) : Operand → AV → Prop
  | tmp {t : Nat} : t < 256 → OV tm (.tmp t) (tm.get t)
  | const {v : Value} {x : AV} : absV 10 v = some x → OV tm (.const v) x
  | func {f : FuncId} : OV tm (.func f) (.fn (.func f) [] [])

theorem mapM_absV {γ : Gh} {n : Nat} (ih : ∀ v x, absV n v = some x → VR γ x v) : ∀ (l : List Value) (m : List AV), l.mapM (absV n) = some m → VRL γ m l
  | [], m, h => by simp at h; simp [h]
  | v :: vs, m, h => by
    simp only [List.mapM_cons, Option.pure_def, Option.bind_eq_bind, Option.bind_eq_some_iff, Option.some.injEq] at h
    obtain ⟨x, hx, xs, hxs, rfl⟩ := h
    simp [ih v x hx, mapM_absV ih vs xs hxs]
theorem absV_rel {γ : Gh} : ∀ (n : Nat) (v : Value) (x : AV), absV n v = some x → VR γ x v := by
  intro n
  induction n with
  | zero => intro v x h; cases h
  | succ n ih =>
    intro v x h
    cases v with
    | bool b => simp only [absV] at h; cases h; simp [VR]
    | int k n => simp only [absV] at h; cases h; simp [VR]
    | float k b => simp [absV] at h
    | complex k a b => simp [absV] at h
    | string s => simp only [absV] at h; cases h; simp only [VR]; exact ⟨s, rfl, rfl, rfl⟩
    | pointer a => cases a <;> simp [absV] at h; subst h; simp [VR]
    | slice a l c =>
      cases a with
      | some a => simp [absV] at h
      | none => simp [absV] at h; obtain ⟨⟨rfl, rfl⟩, rfl⟩ := h; simp [VR]
    | map r => cases r <;> simp [absV] at h; subst h; simp [VR]
    | chan r => simp [absV] at h
    | func f a b =>
      cases f with
      | func g =>
        simp [absV] at h
        obtain ⟨⟨rfl, rfl⟩, rfl⟩ := h
        simp [VR]
      | _ => simp [absV] at h
    | nilFunc => simp only [absV] at h; cases h; simp [VR]
    | iface t v =>
      simp only [absV] at h
      cases hy : absV n v with
      | none => rw [hy] at h; cases h
      | some y => rw [hy] at h; cases h; simp only [VR]; exact ⟨v, rfl, ih v y hy⟩
    | nilIface => simp only [absV] at h; cases h; simp [VR]
    | agg cs =>
      simp only [absV] at h
      cases hm : cs.toList.mapM (absV n) with
      | none => rw [hm] at h; cases h
      | some l =>
        rw [hm] at h
        simp only [Option.ite_none_right_eq_some, Option.some.injEq, List.all_eq_true] at h
        obtain ⟨h1, rfl⟩ := h
        simp only [VR]; exact ⟨cs, rfl, mapM_absV ih _ _ hm, h1⟩
    | tuple vs => simp [absV] at h; obtain ⟨rfl, rfl⟩ := h; simp [VR]

theorem OV.rel {γ : Gh} {nt : Nat} {tm : Tm} {a : Act} (ht : TmR γ nt tm a.tmps) {x : Operand} {v : AV} (h : OV tm x v) : VR γ v (a.eval x) := by
  cases h with
  | tmp hlt => exact ht.2 _ hlt
  | const hc => exact absV_rel _ _ _ hc
  | func => simp [VR, Act.eval]
theorem cOpd_ok {x : Operand} {g : Tm → (AV → Ans) → Ans} (hc : cOpd x = .mk g) {tm : Tm} {K : AV → Ans} (h : g tm K = .ok rv rh) : ∃ v, OV tm x v ∧ K v = .ok rv rh := by
  cases x with
  | tmp t =>
    simp only [cOpd] at hc
    cases hb : Nat.ble (Nat.succ t) 256 with
    | false => rw [hb] at hc; cases hc; cases h
    | true =>
      rw [hb] at hc
      have hlt : t < 256 := Nat.le_of_ble_eq_true hb
      refine ⟨tm.get t, .tmp hlt, ?_⟩
      simp only [getBV] at hc
      unfold Tm.get
      cases h2 : selG2 (t / 16) with
      | mk g2 s2 => cases h1 : selG1 (t % 16) with
        | mk g1 s1 => rw [h2, h1] at hc; cases hc; exact h
  | const v =>
    simp only [cOpd] at hc
    cases ha : absV 10 v with
    | none => rw [ha] at hc; cases hc; cases h
    | some x => rw [ha] at hc; cases hc; exact ⟨x, .const ha, h⟩
  | global g => simp only [cOpd] at hc; cases hc; cases h
  | func f => simp only [cOpd] at hc; cases hc; exact ⟨_, .func, h⟩
theorem cOpd_run {x : Operand} {tm : Tm} {K : AV → Ans} (h : (cOpd x).run tm K = .ok rv rh) : ∃ v, OV tm x v ∧ K v = .ok rv rh := by
  cases hc : cOpd x with
  | mk g => rw [hc] at h; exact cOpd_ok hc h
theorem one_ok {x : Operand} {f : AV → H → KV → Ans} {g : Tm → H → KV → Ans} (hc : one x f = .mk g) {tm : Tm} {h : H} {K : KV} (e : g tm h K = .ok rv rh) :
    ∃ v, OV tm x v ∧ f v h K = .ok rv rh := by
  simp only [one] at hc
  cases hx : cOpd x with
  | mk gx => rw [hx] at hc; cases hc; exact cOpd_ok hx e
theorem one'_ok {x : Operand} {f : AV → (AV → Ans) → Ans} {g : Tm → H → KV → Ans} (hc : one' x f = .mk g) {tm : Tm} {h : H} {K : KV} (e : g tm h K = .ok rv rh) :
    ∃ v, OV tm x v ∧ f v (fun r => K r h) = .ok rv rh := by
  simp only [one'] at hc
  cases hx : cOpd x with
  | mk gx => rw [hx] at hc; cases hc; exact cOpd_ok hx e
theorem two_ok {x y : Operand} {f : AV → AV → H → KV → Ans} {g : Tm → H → KV → Ans} (hc : two x y f = .mk g) {tm : Tm} {h : H} {K : KV} (e : g tm h K = .ok rv rh) :
    ∃ v u, OV tm x v ∧ OV tm y u ∧ f v u h K = .ok rv rh := by
  simp only [two] at hc
  cases hx : cOpd x with
  | mk gx => cases hy : cOpd y with
    | mk gy =>
      rw [hx, hy] at hc; cases hc
      obtain ⟨v, hv, e⟩ := cOpd_ok hx e
      obtain ⟨u, hu, e⟩ := cOpd_ok hy e
      exact ⟨v, u, hv, hu, e⟩
theorem two'_ok {x y : Operand} {f : AV → AV → (AV → Ans) → Ans} {g : Tm → H → KV → Ans} (hc : two' x y f = .mk g) {tm : Tm} {h : H} {K : KV} (e : g tm h K = .ok rv rh) :
    ∃ v u, OV tm x v ∧ OV tm y u ∧ f v u (fun r => K r h) = .ok rv rh := by
  simp only [two'] at hc
  cases hx : cOpd x with
  | mk gx => cases hy : cOpd y with
    | mk gy =>
      rw [hx, hy] at hc; cases hc
      obtain ⟨v, hv, e⟩ := cOpd_ok hx e
      obtain ⟨u, hu, e⟩ := cOpd_ok hy e
      exact ⟨v, u, hv, hu, e⟩
theorem cOpds_ok : ∀ (l : List Operand) {g : Tm → List AV → (List AV → Ans) → Ans} (_ : cOpds l = .mk g) {tm : Tm} {acc : List AV} {K : List AV → Ans} (_ : g tm acc K = .ok rv rh),
    ∃ vs, vs.length = l.length ∧ (∀ (i : Nat) x v, l[i]? = some x → vs[i]? = some v → OV tm x v) ∧ K (vs ++ acc) = .ok rv rh
  | [], g, hc, tm, acc, K, e => by
    simp only [cOpds] at hc; cases hc
    exact ⟨[], rfl, fun i x v h => by simp at h, e⟩
  | x :: l, g, hc, tm, acc, K, e => by
    simp only [cOpds] at hc
    cases hl : cOpds l with
    | mk f => cases hx : cOpd x with
      | mk gx =>
        rw [hl, hx] at hc; cases hc
        obtain ⟨vs, h1, h2, h3⟩ := cOpds_ok l hl e
        obtain ⟨v, hv, h4⟩ := cOpd_ok hx h3
        refine ⟨v :: vs, by simp [h1], fun i y u hy hu => ?_, h4⟩
        cases i with
        | zero => simp at hy hu; subst hy; subst hu; exact hv
        | succ i => exact h2 i y u (by simpa using hy) (by simpa using hu)
end Go.AB
namespace Go.AB
variable [Base]
variable {rv : AV} {rh : H} {P : Program}

/-! ### the closed questions answer as the program does -/
theorem nthT_eq (l : List TypeInfo) : ∀ k, nthT l k = l[k]? := by
  induction l with
  | nil => intro k; rfl
  | cons x l ih =>
    intro k
    cases k with
    | zero => rfl
    | succ m => show nthT l m = _; rw [ih]; simp
theorem dropT_eq (n : Nat) : ∀ l : List TypeInfo, Nat.rec (motive := fun _ => List TypeInfo → List TypeInfo) (fun l => l) (fun _ ih l => List.rec (motive := fun _ => List TypeInfo) [] (fun _ t _ => ih t) l) n l = l.drop n := by
  induction n with
  | zero => intro l; rfl
  | succ n ih =>
    intro l
    cases l with
    | nil => rfl
    | cons x l => exact ih l
theorem blkT_eq (P : Program) (k : Nat) : blkT P k = P.types.toList.drop (16 * k) := by
  induction k with
  | zero => rfl
  | succ k ih =>
    have h16 : ∀ l, drop16T l = l.drop 16 := fun l => dropT_eq 16 l
    show drop16T (blkT P k) = _
    rw [ih, h16, List.drop_drop]; congr 1
theorem typeP_eq (P : Program) (t : Nat) : typeP P t = P.types[t]? := by
  show nthT (blkT P (t / 16)) (t % 16) = _
  rw [nthT_eq, blkT_eq, List.getElem?_drop, show 16 * (t / 16) + t % 16 = t by omega]
  simp
theorem typeP_ok {t : Nat} {i : TypeInfo} (h : typeP P t = some i) : P.info? t = some i := by
  rw [typeP_eq] at h
  have : t < P.types.size := (Array.getElem?_eq_some_iff.1 h).1
  simp only [Tables.info?, this, if_true, h]
theorem underP_ok {t : Nat} {d : TypeDesc} (h : underP P t = some d) : P.underlying t = some d := by
  unfold underP at h
  cases ht : typeP P t with
  | none => rw [ht] at h; cases h
  | some i =>
    rw [ht] at h
    have hi := typeP_ok ht
    unfold Program.underlying
    obtain ⟨desc, str, size, bytes, hp, al, fa, zero, comp, ms⟩ := i
    cases desc with
    | named n u =>
      simp only at h
      cases hu : typeP P u with
      | none => rw [hu] at h; cases h
      | some j => rw [hu] at h; rw [hi]; simp only [typeP_ok hu, Option.map_some]; exact h
    | _ => rw [hi]; exact h
theorem underP_type {t : Nat} {d : TypeDesc} (h : underP P t = some d) : ∃ i, typeP P t = some i := by
  unfold underP at h
  cases ht : typeP P t with
  | none => rw [ht] at h; cases h
  | some i => exact ⟨i, rfl⟩
theorem run_underlyingP {t : Nat} {d : TypeDesc} (h : underP P t = some d) (w : World) : (underlying t).run P w = .ok d w := run_underlying (underP_ok h) w
theorem run_typeInfoP {t : Nat} {i : TypeInfo} (h : typeP P t = some i) (w : World) : (typeInfo t).run P w = .ok i w := by
  simp [typeInfo, typeP_ok h]
theorem run_sizeOfP {t : Nat} {i : TypeInfo} (h : typeP P t = some i) (w : World) : (sizeOf t).run P w = .ok (sizeP P t) w := by
  simp [sizeOf, run_typeInfoP h, sizeP, h]
theorem run_isAggP {t : Nat} {d : TypeDesc} (h : underP P t = some d) (w : World) : (isAgg t).run P w = .ok (aggP P t) w := by
  simp only [isAgg, Sem.run_bind, run_underlyingP h, aggP, h]
  cases d <;> rfl

/-! ### what is said of an operation -/
def OpdsR (γ : Gh) (V : Operand → AV → Prop) (op : Op) (a : Act) : Prop := ∀ x v, x ∈ op.operands → V x v → VR γ v (a.eval x)
/-- Its value hangs on its operands alone. -/
def SpecPure (P : Program) (op : Op) (V : Operand → AV → Prop) (val : AV) : Prop :=
  ∀ γ (a : Act) h w (o : Oper), o.op = op → OpdsR γ V op a → HR γ h w → ∃ v, (execOp a.eval o).run P w = .ok (.value v) w ∧ VR γ val v
/-- It looks at memory: the same value as long as the rows known then have not turned. -/
def SpecRead (P : Program) (op : Op) (V : Operand → AV → Prop) (h0 : H) (val : AV) : Prop :=
  ∀ γ (a : Act) h w (o : Oper), o.op = op → (∀ b ob, h0.get b = some ob → h.get b = some ob) → OpdsR γ V op a → HR γ h w → ∃ v, (execOp a.eval o).run P w = .ok (.value v) w ∧ VR γ val v
/-- It makes one block. -/
def SpecNew (P : Program) (op : Op) (V : Operand → AV → Prop) (id : Nat) (val : AV) (ob : AO) (ver N : Nat) : Prop :=
  ∀ γ (a : Act) h w (o : Oper), o.op = op → OpdsR γ V op a → HR γ h w → ∃ ob' w1 v, (execOp a.eval o).run P w = .ok (.value v) w1 ∧ w1.heap = w.heap.push ob' ∧ Still w w1 ∧
    ∀ γ' : Gh, γ.le γ' → γ' id ver = some (w.heap.size, N) → VR γ' val v ∧ ObR γ' ver N ob' ob
/-- It acts. -/
def SpecAct (P : Program) (op : Op) (V : Operand → AV → Prop) (h : H) (val : AV) (h' : H) : Prop :=
  ∀ γ (a : Act) w (o : Oper), o.op = op → OpdsR γ V op a → HR γ h w → ∃ r w' γ' v, (execOp a.eval o).run P w = .ok r w' ∧ (r = .value v ∨ r = .skip ∧ v = undef) ∧
    VR γ' val v ∧ Ext γ h w γ' h' w' ∧ HR γ' h' w'
/-- What is said, by the operation's kind (opKind). -/
inductive Eff (P : Program) (op : Op) (V : Operand → AV → Prop) (h : H) (val : AV) : H → Nat → Prop
  | pure : SpecPure P op V val → Eff P op V h val h 0
  | read : SpecRead P op V h val → Eff P op V h val h 1
  | new {h' : H} {ob : AO} {ver N : Nat} : h'.nx = h.nx + 1 → (∀ a, h'.get a = if a = h.nx then some ob else h.get a) → SpecNew P op V h.nx val ob ver N → Eff P op V h val h' 2
  | act {h' : H} : SpecAct P op V h val h' → Eff P op V h val h' 3

theorem VR_i {γ : Gh} {k : IntKind} {n : Int} : VR γ (.i k n) (.int k n) := by simp [VR]
theorem VR_b {γ : Gh} {b : Bool} : VR γ (.b b) (.bool b) := by simp [VR]

/-! ### operations whose value hangs on their operands alone -/
theorem pure_move {x : Operand} {V : Operand → AV → Prop} {v : AV} (hv : V x v) : SpecPure P (.move x) V v := by
  intro γ a h w o ho hop hr
  exact ⟨a.eval x, by simp [execOp, ho], hop x v (by simp [Op.operands]) hv⟩
theorem pure_assign {x : Operand} {V : Operand → AV → Prop} {v : AV} (hv : V x v) : SpecPure P (.assign x) V v := by
  intro γ a h w o ho hop hr
  exact ⟨a.eval x, by simp [execOp, ho], hop x v (by simp [Op.operands]) hv⟩
theorem pure_pick {c x y : Operand} {V : Operand → AV → Prop} {b : Bool} {v u : AV} (hc : V c (.b b)) (hx : b = true → V x v) (hy : b = false → V y u) : SpecPure P (.pick c x y) V (if b then v else u) := by
  intro γ a h w o ho hop hr
  have h1 := hop c _ (by simp [Op.operands]) hc
  simp only [VR] at h1
  cases b with
  | true => exact ⟨a.eval x, by simp [execOp, ho, h1, asBool], hop x v (by simp [Op.operands]) (hx rfl)⟩
  | false => exact ⟨a.eval y, by simp [execOp, ho, h1, asBool], hop y u (by simp [Op.operands]) (hy rfl)⟩
/-- The value of an operation on two whole numbers. -/
def intVal (op : BinOp) (k : IntKind) (x y : Int) : Option AV := match op with
  | .add => some (.i k (k.wrap (x + y)))
  | .sub => some (.i k (k.wrap (x - y)))
  | .mul => some (.i k (k.wrap (x * y)))
  | .quo => if y = 0 then none else some (.i k (k.wrap (x.tdiv y)))
  | .rem => if y = 0 then none else some (.i k (x.tmod y))
  | .and => some (.i k (k.wrap (BitVec.ofInt k.bits x &&& BitVec.ofInt k.bits y).toNat))
  | .or => some (.i k (k.wrap (BitVec.ofInt k.bits x ||| BitVec.ofInt k.bits y).toNat))
  | .xor => some (.i k (k.wrap (BitVec.ofInt k.bits x ^^^ BitVec.ofInt k.bits y).toNat))
  | .andNot => some (.i k (k.wrap (BitVec.ofInt k.bits x &&& ~~~ BitVec.ofInt k.bits y).toNat))
  | .eql => some (.b (x == y))
  | .neq => some (.b (!(x == y)))
  | .lss => some (.b (decide (x < y)))
  | .leq => some (.b (!decide (y < x)))
  | .gtr => some (.b (decide (y < x)))
  | .geq => some (.b (!decide (x < y)))
  | .shl => if y < 0 then none else some (.i k (k.wrap (x * 2 ^ (min y.toNat k.bits))))
  | .shr => if y < 0 then none else some (.i k (x.fdiv (2 ^ (min y.toNat k.bits))))
theorem intBI_ok {op : BinOp} {f : IntKind → Int → Int → (AV → Ans) → Ans} (hc : intBI op = .mk f) {k : IntKind} {x y : Int} {K : AV → Ans} (e : f k x y K = .ok rv rh) :
    ∃ v, intVal op k x y = some v ∧ K v = .ok rv rh := by
  cases op <;> simp only [intBI] at hc <;> cases hc <;> (try unfold bitsK at e) <;>
    simp only [wrapK_eq, iAdd_eq, iSub_eq, iMul_eq, eqI_eq, ltI_eq, ifK_eq, forceI_eq, boolK_eq, notB_eq] at e <;> simp only [intVal] <;>
    first
      | exact ⟨_, rfl, e⟩
      | (split at e
         · cases e
         · rename_i hn; simp at hn; rw [if_neg (by simpa using hn)]; exact ⟨_, rfl, e⟩)
theorem pure_int {op : BinOp} {t t' : TypeId} {x y : Operand} {V : Operand → AV → Prop} {k j : IntKind} {m n : Int} {v : AV} (hx : V x (.i k m)) (hy : V y (.i j n))
    (hk : k = j ∨ isShift op = true) (hv : intVal op k m n = some v) : SpecPure P (.binOp op t x y t') V v := by
  intro γ a h w o ho hop hr
  have h1 := hop x _ (by simp [Op.operands]) hx
  have h2 := hop y _ (by simp [Op.operands]) hy
  simp only [VR] at h1 h2
  cases op
  case quo =>
    simp only [intVal] at hv; split at hv
    · cases hv
    · rename_i hn
      cases hv
      refine ⟨_, ?_, VR_i⟩
      obtain rfl : k = j := hk.resolve_right (by simp [isShift]); simp [execOp, ho, eqGuard, binOp, Op.intDiv, h1, h2, hn]
  case rem =>
    simp only [intVal] at hv; split at hv
    · cases hv
    · rename_i hn
      cases hv
      refine ⟨_, ?_, VR_i⟩
      obtain rfl : k = j := hk.resolve_right (by simp [isShift]); simp [execOp, ho, eqGuard, binOp, Op.intDiv, h1, h2, hn]
  case shl =>
    simp only [intVal] at hv; split at hv
    · cases hv
    · rename_i hn
      cases hv
      refine ⟨_, ?_, VR_i⟩
      simp [execOp, ho, eqGuard, binOp, Op.shift, h1, h2, hn]
  case shr =>
    simp only [intVal] at hv; split at hv
    · cases hv
    · rename_i hn
      cases hv
      refine ⟨_, ?_, VR_i⟩
      simp [execOp, ho, eqGuard, binOp, Op.shift, h1, h2, hn]
  all_goals
    obtain rfl : k = j := hk.resolve_right (by simp [isShift])
    cases hv
    first
      | refine ⟨_, ?_, VR_i⟩
      | refine ⟨_, ?_, VR_b⟩
    first
        | (simp [execOp, ho, eqGuard, binOp, Op.intArith, h1, h2]; done)
        | (simp [execOp, ho, eqGuard, binOp, Op.intBits, h1, h2]; done)
        | (simp [execOp, ho, eqGuard, binOp, Op.intCmp, h1, h2]; done)
        | (simp only [execOp, ho, eqGuard, binOp, Op.intCmp, h1, h2]; simp; rw [Bool.eq_iff_iff]; simp; done)
        | (simp [execOp, ho, eqGuard, binOp, Op.intCmp, h1, h2, ← Int.not_lt, decide_not]; done)
end Go.AB
namespace Go.AB

/-! ### a list of bytes as one number -/
theorem encB_foldl (l : List UInt8) : ∀ a : Nat, l.foldl (fun a b => a * 256 + b.toNat) a = a * 256 ^ l.length + encB l := by
  induction l with
  | nil => intro a; simp [encB]
  | cons x l ih =>
    intro a
    have h0 := ih (0 * 256 + x.toNat)
    simp only [encB, List.foldl_cons, List.length_cons] at h0 ⊢
    rw [ih, h0, Nat.pow_succ]
    have : (a * 256 + x.toNat) * 256 ^ l.length = a * (256 ^ l.length * 256) + x.toNat * 256 ^ l.length := by
      rw [Nat.add_mul, Nat.mul_assoc, Nat.mul_comm 256]
    have h1 : (0 * 256 + x.toNat) * 256 ^ l.length = x.toNat * 256 ^ l.length := by rw [Nat.zero_mul, Nat.zero_add]
    rw [h1]
    simp only [encB] at *
    omega
theorem encB_cons (x : UInt8) (l : List UInt8) : encB (x :: l) = x.toNat * 256 ^ l.length + encB l := by
  have := encB_foldl l (0 * 256 + x.toNat)
  simpa [encB] using this
theorem encB_append (l m : List UInt8) : encB (l ++ m) = encB l * 256 ^ m.length + encB m := by
  unfold encB; rw [List.foldl_append, encB_foldl]; rfl
theorem encB_lt (l : List UInt8) : encB l < 256 ^ l.length := by
  induction l with
  | nil => simp [encB]
  | cons x l ih =>
    rw [encB_cons, List.length_cons, Nat.pow_succ]
    have := x.toNat_lt
    have h2 : x.toNat * 256 ^ l.length ≤ 255 * 256 ^ l.length := Nat.mul_le_mul_right _ (by omega)
    omega
theorem encB_inj : ∀ {l m : List UInt8}, l.length = m.length → encB l = encB m → l = m
  | [], [], _, _ => rfl
  | x :: l, y :: m, hl, h => by
    have hl' : l.length = m.length := by simpa using hl
    rw [encB_cons, encB_cons, hl'] at h
    have h1 := encB_lt l
    have h2 := encB_lt m
    rw [hl'] at h1
    have hp : 0 < 256 ^ m.length := Nat.pow_pos (by omega)
    have hx : (x.toNat * 256 ^ m.length + encB l) / 256 ^ m.length = x.toNat := by
      rw [Nat.mul_comm, Nat.mul_add_div hp, Nat.div_eq_of_lt h1, Nat.add_zero]
    have hy : (y.toNat * 256 ^ m.length + encB m) / 256 ^ m.length = y.toNat := by
      rw [Nat.mul_comm, Nat.mul_add_div hp, Nat.div_eq_of_lt h2, Nat.add_zero]
    rw [h, hy] at hx
    have hxy : x = y := UInt8.toNat_inj.1 hx.symm
    subst hxy
    rw [encB_inj hl' (by omega)]
theorem pow256 (k : Nat) : 2 ^ (8 * k) = 256 ^ k := by rw [Nat.pow_mul]
theorem byteN_eq (code j : Nat) : byteN code j = code / 256 ^ j % 256 := by
  show Nat.shiftRight code (8 * j) % 256 = _
  rw [show Nat.shiftRight code (8 * j) = code >>> (8 * j) from rfl, Nat.shiftRight_eq_div_pow, pow256]
theorem encB_div (l m : List UInt8) : encB (l ++ m) / 256 ^ m.length = encB l := by
  have hp : 0 < 256 ^ m.length := Nat.pow_pos (by omega)
  rw [encB_append, Nat.mul_comm, Nat.mul_add_div hp, Nat.div_eq_of_lt (encB_lt m), Nat.add_zero]
theorem encB_mod (l m : List UInt8) : encB (l ++ m) % 256 ^ m.length = encB m := by
  rw [encB_append, Nat.mul_comm, Nat.mul_add_mod, Nat.mod_eq_of_lt (encB_lt m)]
/-- The byte at a place. -/
theorem strAt_eq (l : List UInt8) (i : Nat) (hi : i < l.length) : strAt l.length (encB l) i = l[i].toNat := by
  show byteN (encB l) (l.length - (i + 1)) = _
  rw [byteN_eq]
  have hd : (l.drop (i + 1)).length = l.length - (i + 1) := by simp
  have h1 : encB l / 256 ^ (l.length - (i + 1)) = encB (l.take (i + 1)) := by
    rw [← hd]
    have := encB_div (l.take (i + 1)) (l.drop (i + 1))
    rwa [List.take_append_drop] at this
  rw [h1, List.take_succ_eq_append_getElem hi, encB_append]
  have := l[i].toNat_lt
  simp [encB]
/-- A cut. -/
theorem cut_eq (l : List UInt8) (lo hi : Nat) (h1 : lo ≤ hi) (h2 : hi ≤ l.length) :
    Nat.shiftRight (encB l) (8 * (l.length - hi)) % 256 ^ (hi - lo) = encB ((l.take hi).drop lo) := by
  rw [show Nat.shiftRight (encB l) (8 * (l.length - hi)) = encB l >>> (8 * (l.length - hi)) from rfl, Nat.shiftRight_eq_div_pow, pow256]
  have hd : (l.drop hi).length = l.length - hi := by simp
  have e1 : encB l / 256 ^ (l.length - hi) = encB (l.take hi) := by
    rw [← hd]
    have := encB_div (l.take hi) (l.drop hi)
    rwa [List.take_append_drop] at this
  rw [e1]
  have h3 : ((l.take hi).drop lo).length = hi - lo := by simp; omega
  have := encB_mod ((l.take hi).take lo) ((l.take hi).drop lo)
  rwa [List.take_append_drop, h3] at this
/-- Two of one length: as the numbers are. -/
theorem less_same : ∀ (l m : List UInt8), l.length = m.length → (Op.bytesLess l m = true ↔ encB l < encB m)
  | [], [], _ => by simp [Op.bytesLess, encB]
  | x :: l, y :: m, hl => by
    have hl' : l.length = m.length := by simpa using hl
    have ih := less_same l m hl'
    rw [encB_cons, encB_cons, hl']
    have h1 := encB_lt l
    have h2 := encB_lt m
    rw [hl'] at h1
    simp only [Op.bytesLess, Bool.or_eq_true, decide_eq_true_eq, Bool.and_eq_true, beq_iff_eq, ih, UInt8.lt_iff_toNat_lt]
    constructor
    · rintro (h | ⟨rfl, h⟩)
      · have : (x.toNat + 1) * 256 ^ m.length ≤ y.toNat * 256 ^ m.length := Nat.mul_le_mul_right _ h
        rw [Nat.add_mul] at this; omega
      · omega
    · intro h
      rcases Nat.lt_trichotomy x.toNat y.toNat with hxy | hxy | hxy
      · exact .inl hxy
      · have := UInt8.toNat_inj.1 hxy; subst this; exact .inr ⟨rfl, by omega⟩
      · have : (y.toNat + 1) * 256 ^ m.length ≤ x.toNat * 256 ^ m.length := Nat.mul_le_mul_right _ hxy
        rw [Nat.add_mul] at this; omega
/-- In general: the common head decides, then the length. -/
theorem less_take : ∀ (l m : List UInt8), Op.bytesLess l m = (Op.bytesLess (l.take m.length) (m.take l.length) || (l.take m.length == m.take l.length && decide (l.length < m.length)))
  | _, [] => by simp [Op.bytesLess]
  | [], y :: m => by simp [Op.bytesLess]
  | x :: l, y :: m => by
    simp only [Op.bytesLess, List.length_cons, List.take_succ_cons, less_take l m]
    by_cases hxy : x = y
    · subst hxy; simp
    · have hb : (x == y) = false := by simpa using hxy
      simp [hb]
theorem strLt_eq (l m : List UInt8) : strLt l.length (encB l) m.length (encB m) = Op.bytesLess l m := by
  have key : ∀ (p q : List UInt8), p.length = q.length → ∀ n k : Nat, strLt2 (encB p) (encB q) n k = (Op.bytesLess p q || (p == q && decide (n < k))) := by
    intro p q hpq n k
    unfold strLt2
    rw [orB_eq, andB_eq, Bool.eq_iff_iff]
    have hs := less_same p q hpq
    have he : Nat.beq (encB p) (encB q) = (p == q) := by
      rw [Bool.eq_iff_iff, Nat.beq_eq, beq_iff_eq]
      exact ⟨fun h => encB_inj hpq h, fun h => by rw [h]⟩
    rw [he]
    have h1 : Nat.ble (encB p + 1) (encB q) = true ↔ encB p < encB q := by rw [Nat.ble_eq]; rfl
    have h2 : Nat.ble (n + 1) k = decide (n < k) := by rw [Bool.eq_iff_iff, Nat.ble_eq]; simp; rfl
    show (Nat.ble (encB p + 1) (encB q) || (p == q && Nat.ble (n + 1) k)) = true ↔ _
    rw [h2, Bool.or_eq_true, Bool.or_eq_true, h1, hs]
  rw [less_take]
  unfold strLt
  cases hnm : Nat.ble l.length m.length with
  | true =>
    have hle := Nat.le_of_ble_eq_true hnm
    show strLt2 (encB l) (Nat.shiftRight (encB m) (8 * (m.length - l.length))) l.length m.length = _
    rw [show Nat.shiftRight (encB m) (8 * (m.length - l.length)) = encB m >>> (8 * (m.length - l.length)) from rfl, Nat.shiftRight_eq_div_pow, pow256]
    have hd : (m.drop l.length).length = m.length - l.length := by simp
    have e1 : encB m / 256 ^ (m.length - l.length) = encB (m.take l.length) := by
      rw [← hd]
      have := encB_div (m.take l.length) (m.drop l.length)
      rwa [List.take_append_drop] at this
    rw [e1, key l (m.take l.length) (by simp; omega), List.take_of_length_le hle]
  | false =>
    have hlt : m.length < l.length := by
      rcases Nat.lt_or_ge m.length l.length with h | h
      · exact h
      · rw [Nat.ble_eq_true_of_le h] at hnm; cases hnm
    show strLt2 (Nat.shiftRight (encB l) (8 * (l.length - m.length))) (encB m) l.length m.length = _
    rw [show Nat.shiftRight (encB l) (8 * (l.length - m.length)) = encB l >>> (8 * (l.length - m.length)) from rfl, Nat.shiftRight_eq_div_pow, pow256]
    have hd : (l.drop m.length).length = l.length - m.length := by simp
    have e1 : encB l / 256 ^ (l.length - m.length) = encB (l.take m.length) := by
      rw [← hd]
      have := encB_div (l.take m.length) (l.drop m.length)
      rwa [List.take_append_drop] at this
    rw [e1, key (l.take m.length) m (by simp; omega), List.take_of_length_le (l := m) (by omega)]
theorem strEq_eq (l m : List UInt8) : strEq l.length (encB l) m.length (encB m) = (l == m) := by
  unfold strEq
  rw [andB_eq, Bool.eq_iff_iff, Bool.and_eq_true, Nat.beq_eq, Nat.beq_eq, beq_iff_eq]
  exact ⟨fun ⟨h1, h2⟩ => encB_inj h1 h2, fun h => by rw [h]; exact ⟨rfl, rfl⟩⟩
theorem add_eq (l m : List UInt8) : Nat.shiftLeft (encB l) (8 * m.length) + encB m = encB (l ++ m) := by
  rw [show Nat.shiftLeft (encB l) (8 * m.length) = encB l <<< (8 * m.length) from rfl, Nat.shiftLeft_eq, pow256, encB_append]
end Go.AB
namespace Go.AB
variable [Base]
variable {rv : AV} {rh : H} {P : Program}

theorem less_or_eq : ∀ (l m : List UInt8), (Op.bytesLess l m || l == m) = !Op.bytesLess m l
  | [], [] => by simp [Op.bytesLess]
  | [], _ :: _ => by simp [Op.bytesLess]
  | _ :: _, [] => by simp [Op.bytesLess]
  | x :: l, y :: m => by
    have ih := less_or_eq l m
    simp only [Op.bytesLess]
    rcases Nat.lt_trichotomy x.toNat y.toNat with h | h | h
    · have h1 : x < y := UInt8.lt_iff_toNat_lt.2 h
      have h2 : ¬ y < x := fun e => by have := UInt8.lt_iff_toNat_lt.1 e; omega
      have h3 : (y == x) = false := by rw [beq_eq_false_iff_ne]; intro e; subst e; omega
      simp [h1, h2, h3]
    · have hxy := UInt8.toNat_inj.1 h
      subst hxy
      have h2 : ¬ x < x := fun e => by have := UInt8.lt_iff_toNat_lt.1 e; omega
      simpa [h2] using ih
    · have h1 : ¬ x < y := fun e => by have := UInt8.lt_iff_toNat_lt.1 e; omega
      have h2 : y < x := UInt8.lt_iff_toNat_lt.2 h
      have h3 : (x == y) = false := by rw [beq_eq_false_iff_ne]; intro e; subst e; omega
      simp [h1, h2, h3]

theorem VR_s {γ : Gh} {s : ByteArray} : VR γ (.s s.size (encS s)) (.string s) := by simp only [VR]; exact ⟨s, rfl, rfl, rfl⟩
theorem size_list (s : ByteArray) : s.size = s.data.toList.length := by rw [Array.length_toList]; rfl
theorem nbeq (n m : Nat) : Nat.beq n m = (n == m) := by rw [Bool.eq_iff_iff, Nat.beq_eq, beq_iff_eq]
theorem VR_list {γ : Gh} {s : ByteArray} {n c : Nat} (h1 : s.data.toList.length = n) (h2 : encB s.data.toList = c) : VR γ (.s n c) (.string s) := by
  simp only [VR]; exact ⟨s, rfl, by rw [size_list, h1], h2⟩

/-- The value of an operation on two strings. -/
def strVal2 (op : BinOp) (n a m b : Nat) : Option AV := match op with
  | .add => if n + m ≤ 9223372036854775807 then some (.s (n + m) (Nat.shiftLeft a (8 * m) + b)) else none
  | .eql => some (.b (strEq' n a m b))
  | .neq => some (.b (!strEq' n a m b))
  | .lss => some (.b (strLt' n a m b))
  | .leq => some (.b (!strLt' m b n a))
  | .gtr => some (.b (strLt' m b n a))
  | .geq => some (.b (!strLt' n a m b))
  | _ => none
where
  strEq' (n a m b : Nat) : Bool := n == m && a == b
  strLt' (n a m b : Nat) : Bool := if n ≤ m then (decide (a < b / 256 ^ (m - n)) || (a == b / 256 ^ (m - n) && decide (n < m))) else (decide (a / 256 ^ (n - m) < b) || (a / 256 ^ (n - m) == b && decide (n < m)))
theorem strEq'_eq (n a m b : Nat) : strEq n a m b = strVal2.strEq' n a m b := by
  unfold strEq strVal2.strEq'
  rw [andB_eq, nbeq, nbeq]
theorem strLt'_eq (n a m b : Nat) : strLt n a m b = strVal2.strLt' n a m b := by
  have h2 : ∀ p q n k : Nat, strLt2 p q n k = (decide (p < q) || (p == q && decide (n < k))) := by
    intro p q n k
    unfold strLt2
    rw [orB_eq, andB_eq]
    have e1 : Nat.ble (p + 1) q = decide (p < q) := by rw [Bool.eq_iff_iff, Nat.ble_eq]; simp; rfl
    have e2 : Nat.ble (n + 1) k = decide (n < k) := by rw [Bool.eq_iff_iff, Nat.ble_eq]; simp; rfl
    show (Nat.ble (p + 1) q || (Nat.beq p q && Nat.ble (n + 1) k)) = _
    rw [e1, e2, nbeq]
  unfold strLt strVal2.strLt'
  cases hnm : Nat.ble n m with
  | true =>
    have hle := Nat.le_of_ble_eq_true hnm
    rw [if_pos hle]
    show strLt2 a (b >>> (8 * (m - n))) n m = _
    rw [h2, Nat.shiftRight_eq_div_pow, pow256]
  | false =>
    have hle : ¬ n ≤ m := fun h => by rw [Nat.ble_eq_true_of_le h] at hnm; cases hnm
    rw [if_neg hle]
    show strLt2 (a >>> (8 * (n - m))) b n m = _
    rw [h2, Nat.shiftRight_eq_div_pow, pow256]
theorem strBB_ok {op : BinOp} {f : AV → AV → (AV → Ans) → Ans} (hc : strBB op = .mk f) {x y : AV} {K : AV → Ans} (e : f x y K = .ok rv rh) :
    ∃ n a m b v, x = .s n a ∧ y = .s m b ∧ strVal2 op n a m b = some v ∧ K v = .ok rv rh := by
  cases op <;> simp only [strBB] at hc <;> cases hc <;> first
    | (cases e; done)
    | (obtain ⟨n, a, hx, e1⟩ := onS_ok e
       obtain ⟨m, b, hy, e2⟩ := onS_ok e1
       clear e e1
       simp only [ifK_eq, forceN_eq, boolK_eq, notB_eq, strEq'_eq, strLt'_eq] at e2
       simp only [strVal2]
       first
         | exact ⟨n, a, m, b, _, hx, hy, rfl, e2⟩
         | (split at e2
            · rename_i hh
              have hle : n + m ≤ 9223372036854775807 := Nat.le_of_ble_eq_true hh
              exact ⟨n, a, m, b, _, hx, hy, if_pos hle, e2⟩
            · cases e2))
theorem pure_str {op : BinOp} {t t' : TypeId} {x y : Operand} {V : Operand → AV → Prop} {n a m b : Nat} {v : AV} (hx : V x (.s n a)) (hy : V y (.s m b))
    (hv : strVal2 op n a m b = some v) : SpecPure P (.binOp op t x y t') V v := by
  intro γ ac h w o ho hop hr
  have h1 := hop x _ (by simp [Op.operands]) hx
  have h2 := hop y _ (by simp [Op.operands]) hy
  simp only [VR] at h1 h2
  obtain ⟨s, h1, rfl, rfl⟩ := h1
  obtain ⟨u, h2, rfl, rfl⟩ := h2
  have hE : strVal2.strEq' s.size (encS s) u.size (encS u) = (s.toList == u.toList) := by
    rw [← strEq'_eq, size_list, size_list, ByteArray.toList_eq, ByteArray.toList_eq]; exact strEq_eq _ _
  have hL : ∀ s u : ByteArray, strVal2.strLt' s.size (encS s) u.size (encS u) = Op.bytesLess s.toList u.toList := fun s u => by
    rw [← strLt'_eq, size_list, size_list, ByteArray.toList_eq, ByteArray.toList_eq]; exact strLt_eq _ _
  cases op <;> simp only [strVal2] at hv <;> try (cases hv; done)
  case add =>
    split at hv
    · rename_i hle
      cases hv
      refine ⟨.string (s ++ u), by simp [execOp, ho, eqGuard, h1, h2, binOp_string_add, run_string_add_sum w s u hle], VR_list ?_ ?_⟩
      · rw [← size_list, ByteArray.size_append]
      · have := add_eq s.data.toList u.data.toList
        rw [← size_list] at this
        rw [show encS s = encB s.data.toList from rfl, show encS u = encB u.data.toList from rfl, this]
        simp [ByteArray.data_append]
    · cases hv
  all_goals
    cases hv
    refine ⟨_, ?_, VR_b⟩
    simp [execOp, ho, eqGuard, h1, h2, binOp_string_eql, binOp_string_neq, binOp_string_lss, binOp_string_leq, binOp_string_gtr, binOp_string_geq, hE, hL, less_or_eq]
end Go.AB
namespace Go.AB
variable [Base]
variable {rv : AV} {rh : H} {P : Program}

theorem un_ok {op : UnOp} {x : AV} {K : AV → Ans} (e : unK op x K = .ok rv rh) :
    (∃ k n, op = .neg ∧ x = .i k n ∧ K (.i k (k.wrap (0 - n))) = .ok rv rh) ∨
    (∃ k n, op = .xor ∧ x = .i k n ∧ K (.i k (k.wrap (BitVec.ofInt k.bits (if k.signed then -1 else k.max) ^^^ BitVec.ofInt k.bits n).toNat)) = .ok rv rh) ∨
    (∃ b, op = .not ∧ x = .b b ∧ K (.b (!b)) = .ok rv rh) := by
  cases op with
  | neg =>
    obtain ⟨k, n, hx, e1⟩ := onI_ok (show x.onI _ = .ok rv rh from e)
    rw [wrapK_eq, iSub_eq] at e1
    exact .inl ⟨k, n, rfl, hx, e1⟩
  | xor =>
    obtain ⟨k, n, hx, e1⟩ := onI_ok (show x.onI _ = .ok rv rh from e)
    rw [forceI_eq] at e1
    exact .inr (.inl ⟨k, n, rfl, hx, e1⟩)
  | not =>
    obtain ⟨b, hx, e1⟩ := onB_ok (show x.onB _ = .ok rv rh from e)
    rw [boolK_eq, notB_eq] at e1
    exact .inr (.inr ⟨b, rfl, hx, e1⟩)
  | plus => cases e
theorem pure_neg {t : TypeId} {x : Operand} {V : Operand → AV → Prop} {k : IntKind} {n : Int} (hx : V x (.i k n)) : SpecPure P (.unOp .neg t x) V (.i k (k.wrap (0 - n))) := by
  intro γ a h w o ho hop hr
  have h1 := hop x _ (by simp [Op.operands]) hx
  simp only [VR] at h1
  refine ⟨_, ?_, VR_i⟩
  simp [execOp, ho, Op.unary, Op.intArith, h1]
theorem pure_xor {t : TypeId} {x : Operand} {V : Operand → AV → Prop} {k : IntKind} {n : Int} (hx : V x (.i k n)) :
    SpecPure P (.unOp .xor t x) V (.i k (k.wrap (BitVec.ofInt k.bits (if k.signed then -1 else k.max) ^^^ BitVec.ofInt k.bits n).toNat)) := by
  intro γ a h w o ho hop hr
  have h1 := hop x _ (by simp [Op.operands]) hx
  simp only [VR] at h1
  refine ⟨_, ?_, VR_i⟩
  simp [execOp, ho, Op.unary, Op.intBits, h1]
theorem pure_not {t : TypeId} {x : Operand} {V : Operand → AV → Prop} {b : Bool} (hx : V x (.b b)) : SpecPure P (.unOp .not t x) V (.b (!b)) := by
  intro γ a h w o ho hop hr
  have h1 := hop x _ (by simp [Op.operands]) hx
  simp only [VR] at h1
  refine ⟨_, ?_, VR_b⟩
  simp [execOp, ho, Op.unary, h1]
theorem pure_iface {t : TypeId} {x : Operand} {V : Operand → AV → Prop} {v : AV} {d : TypeDesc} (hd : underP P t = some d) (hn : ∀ ms, d ≠ .interface ms) (hx : V x v) :
    SpecPure P (.makeInterface t x) V (.ifc t v) := by
  intro γ a h w o ho hop hr
  have h1 := hop x _ (by simp [Op.operands]) hx
  refine ⟨.iface t (a.eval x), ?_, by simp only [VR]; exact ⟨_, rfl, h1⟩⟩
  have hu := run_underlyingP hd w
  simp only [execOp, ho, Instr.makeInterface, Sem.run_bind, hu, Result.andThen_ok]
  cases d <;> first | exact absurd rfl (hn _) | simp
theorem VRL_opds {γ : Gh} {a : Act} {V : Operand → AV → Prop} {op : Op} (hop : OpdsR γ V op a) : ∀ (l : List Operand) (vs : List AV), (∀ x ∈ l, x ∈ op.operands) → vs.length = l.length →
    (∀ (i : Nat) x v, l[i]? = some x → vs[i]? = some v → V x v) → VRL γ vs (l.map a.eval)
  | [], vs, _, hl, _ => by
    have : vs = [] := List.length_eq_zero_iff.1 (by simpa using hl)
    simp [this]
  | x :: l, [], _, hl, _ => by simp at hl
  | x :: l, v :: vs, hm, hl, hv => by
    simp only [List.map_cons, VRL_cons]
    exact ⟨hop x v (hm x (by simp)) (hv 0 x v rfl rfl), VRL_opds hop l vs (fun y hy => hm y (by simp [hy])) (by simpa using hl) fun i y u hy hu => hv (i + 1) y u (by simpa using hy) (by simpa using hu)⟩
theorem pure_func {f : FuncId} {first captured : Array Operand} {V : Operand → AV → Prop} {x y : List AV} (h1 : x.length = first.toList.length) (h2 : ∀ (i : Nat) z v, first.toList[i]? = some z → x[i]? = some v → V z v)
    (h3 : y.length = captured.toList.length) (h4 : ∀ (i : Nat) z v, captured.toList[i]? = some z → y[i]? = some v → V z v) : SpecPure P (.makeFunc (.func f) first captured) V (.fn (.func f) x y) := by
  intro γ a h w o ho hop hr
  refine ⟨.func (.func f) (first.map a.eval) (captured.map a.eval), by simp [execOp, ho, Instr.makeFunc], ?_⟩
  simp only [VR]
  refine ⟨_, _, rfl, ?_, ?_, by simp⟩
  · rw [Array.toList_map]; exact VRL_opds hop _ _ (fun z hz => by simp [Op.operands]; exact .inl (by simpa using hz)) h1 h2
  · rw [Array.toList_map]; exact VRL_opds hop _ _ (fun z hz => by simp [Op.operands]; exact .inr (by simpa using hz)) h3 h4
theorem pure_extract {x : Operand} {ix : Nat} {V : Operand → AV → Prop} {vs : List AV} {v : AV} (hx : V x (.tu vs)) (hv : vs[ix]? = some v) : SpecPure P (.extract x ix) V v := by
  intro γ a h w o ho hop hr
  have h1 := hop x _ (by simp [Op.operands]) hx
  simp only [VR] at h1
  obtain ⟨c, h1, h2⟩ := h1
  obtain ⟨u, hu, hvu⟩ := h2.get hv
  exact ⟨u, by simp [execOp, ho, Instr.extract, h1, show c[ix]? = some u by simpa using hu], hvu⟩
/-- What a nil check lets by. -/
def notNil : AV → Bool
  | .p _ _ _ => true
  | .fn (.func _) _ _ => true
  | .ifc _ _ => true
  | .yl _ => true
  | _ => false
theorem nilCheck_ok {x : AV} {K : AV → Ans} (e : nilCheckK x K = .ok rv rh) : notNil x = true ∧ K x = .ok rv rh := by
  cases x with
  | fn f a b => cases f <;> first | exact ⟨rfl, e⟩ | cases e
  | p a v o => exact ⟨rfl, e⟩
  | ifc t v => exact ⟨rfl, e⟩
  | yl l => exact ⟨rfl, e⟩
  | _ => cases e
theorem pure_nilCheck {x : Operand} {V : Operand → AV → Prop} {v : AV} (hx : V x v) (hn0 : notNil v = true) : SpecPure P (.nilCheck x) V v := by
  intro γ a h w o ho hop hr
  have h1 := hop x _ (by simp [Op.operands]) hx
  rcases (Or.inl hn0 : notNil v = true ∨ False) with hn | hf
  · refine ⟨a.eval x, ?_, h1⟩
    cases v with
    | p b v o' => simp only [VR] at h1; obtain ⟨B, N, _, h1⟩ := h1; simp [execOp, ho, h1]
    | fn f p q =>
      cases f with
      | func f => simp only [VR] at h1; obtain ⟨p', q', h1, _⟩ := h1; simp [execOp, ho, h1]
      | _ => cases hn
    | ifc t v => simp only [VR] at h1; obtain ⟨u, h1, _⟩ := h1; simp [execOp, ho, h1]
    | yl l => simp only [VR] at h1; obtain ⟨B, N, _, h1⟩ := h1; simp [execOp, ho, h1]
    | _ => cases hn
  · exact hf.elim
end Go.AB
namespace Go.AB
variable [Base]
variable {rv : AV} {rh : H} {P : Program}

theorem add_none (B o n : Nat) : (⟨B, o, none⟩ : Addr).add n = ⟨B, o + n, none⟩ := by
  unfold Addr.add; split
  · rename_i h; subst h; rfl
  · rfl
theorem sizeP_pos {t : Nat} (h : 1 ≤ sizeP P t) : ∃ i, typeP P t = some i := by
  unfold sizeP at h
  cases ht : typeP P t with
  | none => rw [ht] at h; simp at h
  | some i => exact ⟨i, rfl⟩
theorem fieldP_ok {t f off size : Nat} {agg : Bool} (h : fieldP P t f = some (off, size, agg)) :
    ∃ fs x, underP P t = some (.struct fs) ∧ fs[f]? = some x ∧ off = x.offset ∧ size = sizeP P x.type ∧ agg = aggP P x.type ∧ ∃ d, underP P x.type = some d := by
  unfold fieldP at h
  cases hu : underP P t with
  | none => rw [hu] at h; cases h
  | some d =>
    rw [hu] at h
    cases d <;> try (cases h; done)
    rename_i fs
    simp only at h
    cases hf : fs.toList[f]? with
    | none => rw [hf] at h; cases h
    | some x =>
      rw [hf] at h
      simp only at h
      cases hd : underP P x.type with
      | none => rw [hd] at h; cases h
      | some d => rw [hd] at h; cases h; exact ⟨fs, x, rfl, by simpa using hf, rfl, rfl, rfl, d, hd⟩
theorem fieldAddr_ok {t f : Nat} {x : AV} {K : AV → Ans} (e : fieldAddrK (fieldBN P t f) x K = .ok rv rh) :
    ∃ a v o off size agg, x = .p a v o ∧ fieldP P t f = some (off, size, agg) ∧ 1 ≤ size ∧ K (.p a v (o + off)) = .ok rv rh := by
  unfold fieldAddrK fieldBN at e
  cases hf : fieldP P t f with
  | none => rw [hf] at e; cases e
  | some y =>
    obtain ⟨off, size, agg⟩ := y
    rw [hf] at e
    have e1 : ifK (Nat.ble 1 size) (x.onP fun a v o => forceN (Nat.add o off) fun o' => K (.p a v o')) (.err 31) = .ok rv rh := e
    rw [ifK_eq] at e1
    split at e1
    · rename_i hs
      obtain ⟨a, v, o, hx, e2⟩ := onP_ok e1
      rw [forceN_eq] at e2
      exact ⟨a, v, o, off, size, agg, hx, rfl, Nat.le_of_ble_eq_true hs, e2⟩
    · cases e1
theorem pure_fieldAddr {t f : Nat} {x : Operand} {V : Operand → AV → Prop} {a v o off size : Nat} {agg : Bool} (hx : V x (.p a v o)) (hf : fieldP P t f = some (off, size, agg)) (hs : 1 ≤ size) :
    SpecPure P (.fieldAddr t x f) V (.p a v (o + off)) := by
  intro γ ac h w op ho hop hr
  have h1 := hop x _ (by simp [Op.operands]) hx
  simp only [VR] at h1
  obtain ⟨B, N, hg, h1⟩ := h1
  obtain ⟨fs, y, hu, hy, rfl, rfl, rfl, _⟩ := fieldP_ok hf
  obtain ⟨i, hi⟩ := sizeP_pos hs
  refine ⟨.pointer (some ⟨B, o + y.offset, none⟩), ?_, by simp only [VR]; exact ⟨B, N, hg, rfl⟩⟩
  have hu' := run_underlyingP hu w
  have hs' := run_sizeOfP hi w
  have hne : ¬ sizeP P y.type = 0 := by omega
  simp [execOp, ho, Instr.fieldAt, hu', hy, Instr.sureAddr, h1, fieldPlace, hs', hne, add_none]
/-- A part of a row of cells. -/
theorem part_ok {agg : Bool} {size off : Nat} {cs : List AV} {K : AV → Ans} (e : partK agg size off cs K = .ok rv rh) :
    (agg = true ∧ K (.ag ((cs.drop off).take size)) = .ok rv rh) ∨ (agg = false ∧ ∃ v, cs[off]? = some v ∧ K v = .ok rv rh) := by
  unfold partK at e
  rw [ifK_eq] at e
  split at e
  · rename_i h
    rw [dropK_eq, takeK_eq] at e
    exact .inl ⟨h, by simpa using e⟩
  · rename_i h
    rw [nthK_eq] at e
    cases hv : cs[off]? with
    | none => rw [hv] at e; cases e
    | some v => rw [hv] at e; exact .inr ⟨by simpa using h, v, rfl, e⟩
theorem VRL.drop {γ : Gh} : ∀ (n : Nat) {l : List AV} {m : List Value}, VRL γ l m → VRL γ (l.drop n) (m.drop n)
  | 0, _, _, h => by simpa using h
  | n + 1, [], m, h => by simp at h; simp [h]
  | n + 1, x :: xs, m, h => by
    simp only [VRL] at h
    obtain ⟨v, vs, rfl, _, h2⟩ := h
    simpa using h2.drop n
theorem VRL.take {γ : Gh} : ∀ (n : Nat) {l : List AV} {m : List Value}, VRL γ l m → VRL γ (l.take n) (m.take n)
  | 0, _, _, h => by simp
  | n + 1, [], m, h => by simp at h; simp [h]
  | n + 1, x :: xs, m, h => by
    simp only [VRL] at h
    obtain ⟨v, vs, rfl, h1, h2⟩ := h
    simp [h1, h2.take n]
theorem run_part {t : Nat} {d : TypeDesc} (hd : underP P t = some d) {γ : Gh} {cs : List AV} {c : Array Value} (hr : VRL γ cs c.toList) (hc : ∀ x ∈ cs, cellA x = true) (off : Nat) (w : World) :
    (aggP P t = true → ∃ v, (part t c off).run P w = .ok v w ∧ VR γ (.ag ((cs.drop off).take (sizeP P t))) v) ∧
    (aggP P t = false → ∀ x, cs[off]? = some x → ∃ v, (part t c off).run P w = .ok v w ∧ VR γ x v) := by
  obtain ⟨i, hi⟩ := underP_type hd
  have h1 := run_isAggP hd w
  have h2 := run_sizeOfP hi w
  constructor
  · intro ha
    refine ⟨.agg (c.extract off (off + sizeP P t)), by simp [part, h1, ha, h2], ?_⟩
    simp only [VR]
    refine ⟨_, rfl, ?_, fun x hx => hc x (List.mem_of_mem_drop (List.mem_of_mem_take hx))⟩
    have : (c.extract off (off + sizeP P t)).toList = (c.toList.drop off).take (sizeP P t) := by simp
    rw [this]
    exact (hr.drop off).take _
  · intro ha x hx
    obtain ⟨v, hv, hxv⟩ := hr.get hx
    exact ⟨v, by simp [part, h1, ha, show c[off]? = some v by simpa using hv], hxv⟩
theorem field_ok {t f : Nat} {x : AV} {K : AV → Ans} (e : fieldK (fieldBN P t f) x K = .ok rv rh) :
    ∃ cs off size agg, x = .ag cs ∧ fieldP P t f = some (off, size, agg) ∧ partK agg size off cs K = .ok rv rh := by
  unfold fieldK fieldBN at e
  cases hf : fieldP P t f with
  | none => rw [hf] at e; cases e
  | some y =>
    obtain ⟨off, size, agg⟩ := y
    rw [hf] at e
    obtain ⟨cs, hx, e1⟩ := onAg_ok (show x.onAg (fun cs => partK agg size off cs K) = .ok rv rh from e)
    exact ⟨cs, off, size, agg, hx, rfl, e1⟩
theorem pure_field {t f : Nat} {x : Operand} {V : Operand → AV → Prop} {cs : List AV} {off size : Nat} {agg : Bool} {v : AV} (hx : V x (.ag cs)) (hf : fieldP P t f = some (off, size, agg))
    (hv : (agg = true ∧ v = .ag ((cs.drop off).take size)) ∨ (agg = false ∧ cs[off]? = some v)) : SpecPure P (.field t x f) V v := by
  intro γ ac h w op ho hop hr
  have h1 := hop x _ (by simp [Op.operands]) hx
  simp only [VR] at h1
  obtain ⟨c, h1, h2, h3⟩ := h1
  obtain ⟨fs, y, hu, hy, rfl, rfl, rfl, d, hd⟩ := fieldP_ok hf
  have hu' := run_underlyingP hu w
  obtain ⟨ha, hb⟩ := run_part hd h2 h3 y.offset w
  rcases hv with ⟨hg, rfl⟩ | ⟨hg, hv⟩
  · obtain ⟨u, hu1, hu2⟩ := ha hg
    exact ⟨u, by simp [execOp, ho, Instr.field, hu', hy, h1, asAgg, hu1], hu2⟩
  · obtain ⟨u, hu1, hu2⟩ := hb hg _ hv
    exact ⟨u, by simp [execOp, ho, Instr.field, hu', hy, h1, asAgg, hu1], hu2⟩
theorem elemP_ok {t e : Nat} (h : elemP P t = some e) : underP P t = some (.slice e) ∧ ∃ d, underP P e = some d := by
  unfold elemP at h
  cases hu : underP P t with
  | none => rw [hu] at h; cases h
  | some d =>
    rw [hu] at h
    cases d <;> try (cases h; done)
    rename_i e'
    simp only at h
    cases he : underP P e' with
    | none => rw [he] at h; cases h
    | some d => rw [he] at h; cases h; exact ⟨rfl, d, he⟩
theorem arrP_ok {t n e : Nat} (h : arrP P t = some (n, e)) : underP P t = some (.array n e) ∧ ∃ d, underP P e = some d := by
  unfold arrP at h
  cases hu : underP P t with
  | none => rw [hu] at h; cases h
  | some d =>
    rw [hu] at h
    cases d <;> try (cases h; done)
    rename_i n' e'
    simp only at h
    cases he : underP P e' with
    | none => rw [he] at h; cases h
    | some d => rw [he] at h; cases h; exact ⟨rfl, d, he⟩
theorem ble_succ {i n : Nat} (h : Nat.ble (Nat.succ i) n = true) : i < n := Nat.le_of_ble_eq_true h
theorem indexBA_sl {t es : Nat} (h : indexBA P t = .sl es) : ∃ e, elemP P t = some e ∧ es = sizeP P e := by
  unfold indexBA at h
  split at h
  · rename_i e he; cases h; exact ⟨e, he, rfl⟩
  · split at h
    · cases h
    · split at h <;> cases h
theorem indexBA_ar {t n es : Nat} {agg : Bool} (h : indexBA P t = .ar n es agg) : ∃ e, arrP P t = some (n, e) ∧ es = sizeP P e ∧ agg = aggP P e := by
  unfold indexBA at h
  split at h
  · cases h
  · split at h
    · rename_i n' e he; cases h; exact ⟨e, he, rfl, rfl⟩
    · split at h <;> cases h
theorem indexBA_str {t : Nat} (h : indexBA P t = .str) : underP P t = some .string := by
  unfold indexBA at h
  split at h
  · cases h
  · split at h
    · cases h
    · split at h
      · assumption
      · cases h
/-- An element's address. -/
theorem pure_indexAddr {t : Nat} {x ix : Operand} {V : Operand → AV → Prop} {v : AV} {k : IntKind} {i : Nat} {K : AV → Ans} (hx : V x v) (hi : V ix (.i k (i : Int))) (e : (indexBA P t).addr v i K = .ok rv rh) :
    ∃ r, K r = .ok rv rh ∧ SpecPure P (.indexAddr t x ix) V r := by
  cases hb : indexBA P t with
  | sl es' =>
    rw [hb] at e
    obtain ⟨a, ver, o, n, es, c, rfl, e1⟩ := onSl_ok (show v.onSl _ = .ok rv rh from e)
    rw [ifK_eq] at e1
    split at e1
    · rename_i hh
      rw [andB_eq, Bool.and_eq_true, Nat.beq_eq] at hh
      obtain ⟨h1, rfl⟩ := hh
      have hlt := ble_succ h1
      rw [forceN_eq] at e1
      refine ⟨_, e1, ?_⟩
      intro γ ac h w op ho hop hr
      have hv := hop x _ (by simp [Op.operands]) hx
      have hiv := hop ix _ (by simp [Op.operands]) hi
      simp only [VR] at hv hiv
      obtain ⟨B, N, cap, hg, oo, hv, hoo, hes, hnc, _⟩ := hv
      obtain rfl := hoo (by omega)
      obtain ⟨el, hel, rfl⟩ := indexBA_sl hb
      obtain ⟨hu, d, hd⟩ := elemP_ok hel
      obtain ⟨inf, hinf⟩ := underP_type hd
      have hu' := run_underlyingP hu w
      have hs' := run_sizeOfP hinf w
      refine ⟨.pointer (some ⟨B, _ + i * sizeP P el, none⟩), ?_, by simp only [VR]; exact ⟨B, N, hg, rfl⟩⟩
      simp [execOp, ho, Instr.indexAt, hiv, asIntOf, hu', hv, hlt, hs', add_none]
    · cases e1
  | ar n es agg =>
    rw [hb] at e
    obtain ⟨a, ver, o, rfl, e1⟩ := onP_ok (show v.onP _ = .ok rv rh from e)
    rw [ifK_eq] at e1
    split at e1
    · rename_i hh
      rw [andB_eq, Bool.and_eq_true] at hh
      obtain ⟨h1, h2⟩ := hh
      have hlt := ble_succ h1
      rw [forceN_eq] at e1
      refine ⟨_, e1, ?_⟩
      intro γ ac h w op ho hop hr
      have hv := hop x _ (by simp [Op.operands]) hx
      have hiv := hop ix _ (by simp [Op.operands]) hi
      simp only [VR] at hv hiv
      obtain ⟨B, N, hg, hv⟩ := hv
      obtain ⟨el, hel, rfl, rfl⟩ := indexBA_ar hb
      obtain ⟨hu, d, hd⟩ := arrP_ok hel
      obtain ⟨inf, hinf⟩ := underP_type hd
      have hu' := run_underlyingP hu w
      have hs' := run_sizeOfP hinf w
      refine ⟨.pointer (some ⟨B, o + i * sizeP P el, none⟩), ?_, by simp only [VR]; exact ⟨B, N, hg, rfl⟩⟩
      simp [execOp, ho, Instr.indexAt, hiv, asIntOf, hu', hv, Instr.sureAddr, hlt, hs', add_none]
    · cases e1
  | str => rw [hb] at e; cases e
  | no => rw [hb] at e; cases e
/-- An element. -/
theorem pure_index {t : Nat} {x ix : Operand} {V : Operand → AV → Prop} {v : AV} {k : IntKind} {i : Nat} {K : AV → Ans} (hx : V x v) (hi : V ix (.i k (i : Int))) (e : (indexBA P t).at v i K = .ok rv rh) :
    ∃ r, K r = .ok rv rh ∧ SpecPure P (.index t x ix) V r := by
  cases hb : indexBA P t with
  | sl es' => rw [hb] at e; cases e
  | ar n es agg =>
    rw [hb] at e
    obtain ⟨cs, rfl, e1⟩ := onAg_ok (show v.onAg _ = .ok rv rh from e)
    rw [ifK_eq] at e1
    split at e1
    · rename_i hh
      have hlt := ble_succ hh
      obtain ⟨el, hel, rfl, rfl⟩ := indexBA_ar hb
      obtain ⟨hu, d, hd⟩ := arrP_ok hel
      obtain ⟨inf, hinf⟩ := underP_type hd
      have key : ∀ r, ((aggP P el = true ∧ r = .ag ((cs.drop (i * sizeP P el)).take (sizeP P el))) ∨ (aggP P el = false ∧ cs[i * sizeP P el]? = some r)) → SpecPure P (.index t x ix) V r := by
        intro r hr' γ ac h w op ho hop hr
        have hv := hop x _ (by simp [Op.operands]) hx
        have hiv := hop ix _ (by simp [Op.operands]) hi
        simp only [VR] at hv hiv
        obtain ⟨c, hv, h2, h3⟩ := hv
        have hu' := run_underlyingP hu w
        have hs' := run_sizeOfP hinf w
        obtain ⟨ha, hb'⟩ := run_part hd h2 h3 (i * sizeP P el) w
        rcases hr' with ⟨hg, rfl⟩ | ⟨hg, hr'⟩
        · obtain ⟨u, hu1, hu2⟩ := ha hg
          exact ⟨u, by simp [execOp, ho, Instr.index, hiv, asIntOf, hu', hv, hlt, hs', hu1], hu2⟩
        · obtain ⟨u, hu1, hu2⟩ := hb' hg _ hr'
          exact ⟨u, by simp [execOp, ho, Instr.index, hiv, asIntOf, hu', hv, hlt, hs', hu1], hu2⟩
      rcases part_ok e1 with ⟨hg, e2⟩ | ⟨hg, r, hr', e2⟩
      · exact ⟨_, e2, key _ (.inl ⟨hg, rfl⟩)⟩
      · exact ⟨r, e2, key r (.inr ⟨hg, hr'⟩)⟩
    · cases e1
  | str =>
    rw [hb] at e
    obtain ⟨n, code, rfl, e1⟩ := onS_ok (show v.onS _ = .ok rv rh from e)
    rw [ifK_eq] at e1
    split at e1
    · rename_i hh
      have hlt := ble_succ hh
      rw [forceN_eq] at e1
      refine ⟨_, e1, ?_⟩
      intro γ ac h w op ho hop hr
      have hv := hop x _ (by simp [Op.operands]) hx
      have hiv := hop ix _ (by simp [Op.operands]) hi
      simp only [VR] at hv hiv
      obtain ⟨s, hv, rfl, rfl⟩ := hv
      have hu' := run_underlyingP (indexBA_str hb) w
      have hl : i < s.data.toList.length := by rw [← size_list]; exact hlt
      have hat := strAt_eq s.data.toList i hl
      rw [← size_list] at hat
      refine ⟨.int .u8 (s[i].toNat : Int), ?_, ?_⟩
      · simp [execOp, ho, Instr.index, hiv, asIntOf, hu', hv, hlt]
      · have : strAt s.size (encS s) i = s[i].toNat := by
          rw [show encS s = encB s.data.toList from rfl, hat]; simp; rfl
        rw [this]; exact VR_i
    · cases e1
  | no => rw [hb] at e; cases e
end Go.AB
namespace Go.AB
variable [Base]
variable {rv : AV} {rh : H} {P : Program}

/-! ### '==' -/
theorem VR_sl_cases {γ : Gh} {a ver o n es c : Nat} {v : Value} (h : VR γ (.sl a ver o n es c) v) : ∃ B N cap, γ a ver = some (B, N) ∧ ∃ oo, v = .slice (some ⟨B, oo, none⟩) n cap := by
  simp only [VR] at h
  obtain ⟨B, N, cap, hg, oo, hv, _⟩ := h
  exact ⟨B, N, cap, hg, oo, hv⟩
/-- What the one-step comparison says. -/
inductive LitEq : AV → AV → Bool → Prop
  | b {x y : Bool} : LitEq (.b x) (.b y) (x == y)
  | i {k : IntKind} {m n : Int} : LitEq (.i k m) (.i k n) (m == n)
  | s {n a m b : Nat} : LitEq (.s n a) (.s m b) (strVal2.strEq' n a m b)
  | p00 : LitEq .p0 .p0 true
  | p01 {a v o : Nat} : LitEq .p0 (.p a v o) false
  | p10 {a v o : Nat} : LitEq (.p a v o) .p0 false
  | p11 {a v o o' : Nat} : LitEq (.p a v o) (.p a v o') (o == o')
  | p12 {a v o a' v' o' : Nat} : a ≠ a' → LitEq (.p a v o) (.p a' v' o') false
  | l00 : LitEq .sl0 .sl0 true
  | l01 {a v o n es c : Nat} : LitEq .sl0 (.sl a v o n es c) false
  | l10 {a v o n es c : Nat} : LitEq (.sl a v o n es c) .sl0 false
  | m00 : LitEq .m0 .m0 true
  | m01 {a : Nat} : LitEq .m0 (.m a) false
  | m10 {a : Nat} : LitEq (.m a) .m0 false
  | f00 : LitEq .f0 .f0 true
  | f01 {f : Fn} {x y : List AV} : LitEq .f0 (.fn f x y) false
  | f10 {f : Fn} {x y : List AV} : LitEq (.fn f x y) .f0 false
theorem eqB_eq (x y : Bool) : eqB x y = (x == y) := by cases x <;> cases y <;> rfl
theorem litEqK_ok {x y : AV} {K : Bool → Ans} (e : litEqK x y K = .ok rv rh) : ∃ b, LitEq x y b ∧ K b = .ok rv rh := by
  cases x with
  | b x =>
    obtain ⟨z, rfl, e1⟩ := onB_ok (show y.onB _ = .ok rv rh from e)
    rw [eqB_eq] at e1; exact ⟨_, .b, e1⟩
  | i k n =>
    obtain ⟨j, m, rfl, e1⟩ := onI_ok (show y.onI _ = .ok rv rh from e)
    rw [ifK_eq] at e1
    split at e1
    · rename_i hk; obtain rfl := kindEq_iff.1 hk; rw [eqI_eq] at e1; exact ⟨_, .i, e1⟩
    · cases e1
  | s n c =>
    obtain ⟨m, d, rfl, e1⟩ := onS_ok (show y.onS _ = .ok rv rh from e)
    rw [strEq'_eq] at e1; exact ⟨_, .s, e1⟩
  | p0 => cases y <;> first | exact ⟨_, .p00, e⟩ | exact ⟨_, .p01, e⟩ | cases e
  | p a v o =>
    cases y with
    | p0 => exact ⟨_, .p10, e⟩
    | p a' v' o' =>
      have e1 : ifK (Nat.beq a a') (ifK (Nat.beq v v') (K (Nat.beq o o')) (.err 14)) (K false) = .ok rv rh := e
      rw [ifK_eq, ifK_eq, nbeq, nbeq, nbeq] at e1
      split at e1
      · rename_i ha
        split at e1
        · rename_i hv
          obtain rfl := eq_of_beq ha
          obtain rfl := eq_of_beq hv
          exact ⟨_, .p11, e1⟩
        · cases e1
      · rename_i ha; exact ⟨_, .p12 (by simpa using ha), e1⟩
    | _ => cases e
  | sl0 => cases y <;> first | exact ⟨_, .l00, e⟩ | exact ⟨_, .l01, e⟩ | cases e
  | sl a v o n es c => cases y <;> first | exact ⟨_, .l10, e⟩ | exact nomatch (show Ans.err 14 = .ok rv rh from e)
  | m0 => cases y <;> first | exact ⟨_, .m00, e⟩ | exact ⟨_, .m01, e⟩ | cases e
  | m a => cases y <;> first | exact ⟨_, .m10, e⟩ | exact nomatch (show Ans.err 14 = .ok rv rh from e)
  | f0 => cases y <;> first | exact ⟨_, .f00, e⟩ | exact ⟨_, .f01, e⟩ | cases e
  | fn f a b => cases y <;> first | exact ⟨_, .f10, e⟩ | exact nomatch (show Ans.err 14 = .ok rv rh from e)
  | ifc t x => cases e
  | i0 => cases e
  | ag cs => cases e
  | tu vs => cases e
  | gp g o => cases e
  | yl l => cases e
/-- Rows of cells are seen as they are: no bytes of a string's, no view. -/
theorem HR.cells {γ : Gh} {h : H} {w : World} (hr : HR γ h w) {a v B N : Nat} (hg : γ a v = some (B, N)) : (∃ c T, w.heap[B]? = some (.cells c T (0, 0)) ∧ c.size = N) ∨ (∃ o, w.heap[B]? = some o ∧ ∀ c T f, o ≠ .cells c T f) := by
  obtain ⟨ob, o, _, h2, h3⟩ := hr.ob a v B N hg
  cases ob with
  | blk n cs => obtain ⟨_, _, c, T, rfl, h4, _⟩ := h3; exact .inl ⟨c, T, h2, h4⟩
  | grow n cs lw => obtain ⟨_, _, c, T, rfl, h4, _⟩ := h3; exact .inl ⟨c, T, h2, h4⟩
  | map es c => obtain ⟨_, es', rfl, _⟩ := h3; exact .inr ⟨_, h2, by simp⟩
  | mit m s se l => obtain ⟨_, m', rfl, _⟩ := h3; exact .inr ⟨_, h2, by simp⟩
  | sit n c p => obtain ⟨_, s, rfl, _⟩ := h3; exact .inr ⟨_, h2, by simp⟩
  | loop => obtain ⟨_, r, rfl, _⟩ := h3; exact .inr ⟨_, h2, by simp⟩
  | dfr l => obtain ⟨_, l', rfl, _⟩ := h3; exact .inr ⟨_, h2, by simp⟩
theorem frozen_no {γ : Gh} {h : H} {w : World} (hr : HR γ h w) {a v B N : Nat} (hg : γ a v = some (B, N)) (o : Nat) : w.frozen? ⟨B, o, none⟩ = false := by
  rcases hr.cells hg with ⟨c, T, h1, _⟩ | ⟨ob, h1, h2⟩
  · simp [World.frozen?, h1]
  · unfold World.frozen?
    simp only [h1]
    cases ob <;> first | rfl | exact absurd rfl (h2 _ _ _)
end Go.AB
namespace Go.AB
variable [Base]
variable {rv : AV} {rh : H} {P : Program}

/-! ### '==' -/
theorem run_getObj' {w : World} {B : Nat} {o : Obj} (h : w.heap[B]? = some o) (hn : ∀ c e f, o ≠ .cells c e f) : (getObj B).run P w = .ok o w := by
  simp only [getObj, Sem.run, h]
theorem HR.plain {γ : Gh} {h : H} {w : World} (hr : HR γ h w) {a v B N : Nat} (hg : γ a v = some (B, N)) (o : Nat) :
    (noView ⟨B, o, none⟩).run P w = .ok () w ∧ (stringish ⟨B, o, none⟩).run P w = .ok false w := by
  obtain ⟨ob, ob', _, h2, h3⟩ := hr.ob a v B N hg
  cases ob with
  | blk n cs => obtain ⟨_, _, c, T, rfl, h4, _⟩ := h3; constructor <;> simp [noView, viewAt, stringish, World.frozen?, World.shape?, h2]
  | grow n cs lw => obtain ⟨_, _, c, T, rfl, h4, _⟩ := h3; constructor <;> simp [noView, viewAt, stringish, World.frozen?, World.shape?, h2]
  | map es c => obtain ⟨_, es', rfl, _⟩ := h3; constructor <;> simp [noView, viewAt, stringish, World.frozen?, World.shape?, run_getObj' h2 (by simp), h2]
  | mit m s se l => obtain ⟨_, m', rfl, _⟩ := h3; constructor <;> simp [noView, viewAt, stringish, World.frozen?, World.shape?, run_getObj' h2 (by simp), h2]
  | sit n c p => obtain ⟨_, s, rfl, _⟩ := h3; constructor <;> simp [noView, viewAt, stringish, World.frozen?, World.shape?, run_getObj' h2 (by simp), h2]
  | loop => obtain ⟨_, r, rfl, _⟩ := h3; constructor <;> simp [noView, viewAt, stringish, World.frozen?, World.shape?, run_getObj' h2 (by simp), h2]
  | dfr l => obtain ⟨_, l', rfl, _⟩ := h3; constructor <;> simp [noView, viewAt, stringish, World.frozen?, World.shape?, run_getObj' h2 (by simp), h2]
theorem run_sameAddr {γ : Gh} {h : H} {w : World} (hr : HR γ h w) {a v B N o a' v' B' N' o' : Nat} (hg : γ a v = some (B, N)) (hg' : γ a' v' = some (B', N')) (hab : a ≠ a') :
    (sameAddr ⟨B, o, none⟩ ⟨B', o', none⟩).run P w = .ok false w := by
  have hB : B ≠ B' := fun e => hab (hr.inj a v B N a' v' N' hg (by rw [hg', e]))
  have h1 := frozen_no hr hg o
  have h2 := frozen_no hr hg' o'
  obtain ⟨h3, h4⟩ := hr.plain (P := P) hg o
  obtain ⟨h5, h6⟩ := hr.plain (P := P) hg' o'
  simp [sameAddr, hB, h1, h2, h3, h4, h5, h6, mayBeOne]
theorem LitEq.kd {x y : AV} {b : Bool} (h : LitEq x y b) : x.kd = y.kd := by cases h <;> rfl
theorem kdP_ok {t k : Nat} (h : kdP P t = some k) : ∃ d, underP P t = some d ∧
    ((d = .bool ∧ k = 0) ∨ (∃ i, d = .int i ∧ k = 1) ∨ (d = .string ∧ k = 2) ∨ (∃ e, d = .pointer e ∧ k = 3 ∧ 1 ≤ sizeP P e) ∨ (∃ e, d = .slice e ∧ k = 4) ∨ (∃ e f, d = .map e f ∧ k = 5) ∨ (∃ p r v, d = .func p r v ∧ k = 6)) := by
  unfold kdP at h
  cases hu : underP P t with
  | none => rw [hu] at h; cases h
  | some d =>
    refine ⟨d, rfl, ?_⟩
    rw [hu] at h
    cases d <;> first | (cases h; done) | (cases h; simp; done) | skip
    simp only at h
    split at h
    · rename_i hb; cases h; simp [Nat.le_of_ble_eq_true hb]
    · cases h
/-- Values that are compared as they lie: what the program answers. -/
theorem run_litEq {t k : Nat} {x y : AV} {b : Bool} (hk : kdP P t = some k) (hx : x.kd = k) (hl : LitEq x y b) {γ : Gh} {h : H} {w : World} {v u : Value} (hr : HR γ h w) (hv : VR γ x v) (hu : VR γ y u) (d : Nat) :
    (Op.equalIn (d + 1) t v u).run P w = .ok b w := by
  obtain ⟨ds, hd, hc⟩ := kdP_ok hk
  have h0 := run_underlyingP hd w
  rcases hc with ⟨rfl, rfl⟩ | ⟨i, rfl, rfl⟩ | ⟨rfl, rfl⟩ | ⟨e, rfl, rfl, he⟩ | ⟨e, rfl, rfl⟩ | ⟨e, f, rfl, rfl⟩ | ⟨p, r, vr, rfl, rfl⟩ <;> cases hl <;> first | (cases hx; done) | skip
  · simp only [VR] at hv hu; subst hv hu; simp [Op.equalIn, h0]
  · simp only [VR] at hv hu; subst hv hu; simp [Op.equalIn, h0]
  · simp only [VR] at hv hu
    obtain ⟨s, rfl, rfl, rfl⟩ := hv
    obtain ⟨s', rfl, rfl, rfl⟩ := hu
    rw [← strEq'_eq, size_list, size_list]
    show (Op.equalIn (d + 1) t (.string s) (.string s')).run P w = .ok (strEq _ (encB s.data.toList) _ (encB s'.data.toList)) w
    rw [strEq_eq]
    simp [Op.equalIn, h0, beq_toListBytes, ByteArray.toList_eq]
  · simp only [VR] at hv hu; subst hv hu; simp [Op.equalIn, h0]
  · simp only [VR] at hv hu; subst hv; obtain ⟨B, N, _, rfl⟩ := hu; simp [Op.equalIn, h0]
  · simp only [VR] at hv hu; subst hu; obtain ⟨B, N, _, rfl⟩ := hv; simp [Op.equalIn, h0]
  · simp only [VR] at hv hu
    obtain ⟨B, N, h1, rfl⟩ := hv
    obtain ⟨B', N', h2, rfl⟩ := hu
    rw [h1] at h2; cases h2
    obtain ⟨i, hi⟩ := sizeP_pos he
    have hs := run_sizeOfP hi w
    simp [Op.equalIn, h0, hs, show ¬ sizeP P e = 0 by omega, sameAddr]
    rw [Bool.eq_iff_iff]; simp
  · rename_i hab
    simp only [VR] at hv hu
    obtain ⟨B, N, h1, rfl⟩ := hv
    obtain ⟨B', N', h2, rfl⟩ := hu
    obtain ⟨i, hi⟩ := sizeP_pos he
    have hs := run_sizeOfP hi w
    simp [Op.equalIn, h0, hs, show ¬ sizeP P e = 0 by omega, run_sameAddr hr h1 h2 hab]
  · simp only [VR] at hv hu; subst hv hu; simp [Op.equalIn, h0]
  · simp only [VR] at hv; subst hv; obtain ⟨B, N, c, _, oo, rfl⟩ := VR_sl_cases hu; simp [Op.equalIn, h0]
  · simp only [VR] at hu; subst hu; obtain ⟨B, N, c, _, oo, rfl⟩ := VR_sl_cases hv; simp [Op.equalIn, h0]
  · simp only [VR] at hv hu; subst hv hu; simp [Op.equalIn, h0]
  · simp only [VR] at hv hu; subst hv; obtain ⟨B, N, _, rfl⟩ := hu; simp [Op.equalIn, h0]
  · simp only [VR] at hv hu; subst hu; obtain ⟨B, N, _, rfl⟩ := hv; simp [Op.equalIn, h0]
  · simp only [VR] at hv hu; subst hv hu; simp [Op.equalIn, h0]
  · simp only [VR] at hv hu; subst hv; obtain ⟨_, _, rfl, _⟩ := hu; simp [Op.equalIn, h0]
  · simp only [VR] at hv hu; subst hu; obtain ⟨_, _, rfl, _⟩ := hv; simp [Op.equalIn, h0]
/-- What a compiled comparison says: the program's own answer, at any depth from here. -/
def EqSpec (P : Program) (d : Nat) (t : TypeId) (x y : AV) (b : Bool) : Prop :=
  ∀ γ h w v u, HR γ h w → VR γ x v → VR γ y u → ∀ d', d ≤ d' → (Op.equalIn d' t v u).run P w = .ok b w
theorem eqFs_ok {go : TypeId → BQ} {d : Nat} (hgo : ∀ t f, go t = .mk f → ∀ x y K, f x y K = .ok rv rh → ∃ b, EqSpec P d t x y b ∧ K b = .ok rv rh) :
    ∀ (l : List Field) (f : List AV → List AV → (Bool → Ans) → Ans), eqFs P go l = .mk f → ∀ xs ys K, f xs ys K = .ok rv rh →
      ∃ b, (∀ γ h w (v u : Array Value), HR γ h w → VRL γ xs v.toList → VRL γ ys u.toList → (∀ x ∈ xs, cellA x = true) → (∀ x ∈ ys, cellA x = true) → ∀ d', d ≤ d' → (Op.eqFields d' v u l).run P w = .ok b w) ∧ K b = .ok rv rh
  | [], f, hf, xs, ys, K, e => by
    cases hf
    exact ⟨true, fun γ h w v u _ _ _ _ _ d' _ => by simp [Op.eqFields], e⟩
  | q :: l, f, hf, xs, ys, K, e => by
    unfold eqFs at hf
    split at hf
    · rename_i dd g r hn hu hg hl
      cases hf
      have hpart : ∀ (zs : List AV) (K' : AV → Ans), partK (aggP P q.type) (sizeP P q.type) q.offset zs K' = .ok rv rh → ∃ z, K' z = .ok rv rh ∧
          ∀ γ (v : Array Value) (w : World), VRL γ zs v.toList → (∀ x ∈ zs, cellA x = true) → ∃ p, (part q.type v q.offset).run P w = .ok p w ∧ VR γ z p := by
        intro zs K' e'
        rcases part_ok e' with ⟨h1, h2⟩ | ⟨h1, z, h2, h3⟩
        · exact ⟨_, h2, fun γ v w h4 h5 => (run_part hu h4 h5 q.offset w).1 h1⟩
        · exact ⟨z, h3, fun γ v w h4 h5 => (run_part hu h4 h5 q.offset w).2 h1 z h2⟩
      obtain ⟨a, e1, ha⟩ := hpart _ _ e
      obtain ⟨b, e2, hb⟩ := hpart _ _ e1
      obtain ⟨c, hc, e3⟩ := hgo _ _ hg _ _ _ e2
      have hn' : q.name ≠ "_" := by simpa using hn
      cases c with
      | false =>
        refine ⟨false, fun γ h w v u hr hv hu' h1 h2 d' hd => ?_, e3⟩
        obtain ⟨p, hp1, hp2⟩ := ha γ v w hv h1
        obtain ⟨p', hp3, hp4⟩ := hb γ u w hu' h2
        have := hc γ h w p p' hr hp2 hp4 d' hd
        simp [Op.eqFields, hn', hp1, hp3, this]
      | true =>
        obtain ⟨c, h6, e4⟩ := eqFs_ok hgo l r hl xs ys K e3
        refine ⟨c, fun γ h w v u hr hv hu' h1 h2 d' hd => ?_, e4⟩
        obtain ⟨p, hp1, hp2⟩ := ha γ v w hv h1
        obtain ⟨p', hp3, hp4⟩ := hb γ u w hu' h2
        have := hc γ h w p p' hr hp2 hp4 d' hd
        simp [Op.eqFields, hn', hp1, hp3, this, h6 γ h w v u hr hv hu' h1 h2 d' hd]
    · cases hf
theorem eqBQ_ok : ∀ (d : Nat) (t : TypeId) (f : AV → AV → (Bool → Ans) → Ans), eqBQ P d t = .mk f → ∀ x y K, f x y K = .ok rv rh → ∃ b, EqSpec P d t x y b ∧ K b = .ok rv rh ∧ x.kd = y.kd ∧ (x.kd = 8 ∨ kdP P t = some x.kd)
  | 0, t, f, hf, x, y, K, e => by cases hf
  | d + 1, t, f, hf, x, y, K, e => by
    unfold eqBQ at hf
    split at hf
    · rename_i fs hu
      split at hf
      · rename_i g hs hg
        cases hf
        obtain ⟨xs, rfl, e1⟩ := onAg_ok e
        obtain ⟨ys, rfl, e2⟩ := onAg_ok e1
        obtain ⟨b, hb, e3⟩ := eqFs_ok (fun t f h x y K e => (eqBQ_ok d t f h x y K e).imp fun _ z => ⟨z.1, z.2.1⟩) fs.toList g hg xs ys K e2
        refine ⟨b, fun γ h w v u hr hv hu' d' hd => ?_, e3, rfl, .inl rfl⟩
        obtain ⟨d', rfl⟩ : ∃ k, d' = k + 1 := ⟨d' - 1, by omega⟩
        simp only [VR] at hv hu'
        obtain ⟨v, rfl, h1, h2⟩ := hv
        obtain ⟨u, rfl, h3, h4⟩ := hu'
        have hf : P.fieldsOf t = fs := by simp [Program.fieldsOf, underP_ok hu]
        rw [run_equalIn_struct w d' t v u (by rw [hf]; exact underP_ok hu) hs, hf]
        exact hb γ h w v u hr h1 h3 h2 h4 d' (by omega)
      · cases hf
    · split at hf
      · rename_i k hk
        cases hf
        replace e : ifK (Nat.beq x.kd k) (litEqK x y K) (.err 15) = .ok rv rh := e
        rw [ifK_eq] at e
        split at e
        · rename_i hkd
          rw [nbeq] at hkd
          obtain ⟨b, hb, e1⟩ := litEqK_ok e
          refine ⟨b, fun γ h w v u hr hv hu' d' hd => ?_, e1, hb.kd, .inr (by rw [eq_of_beq hkd]; exact hk)⟩
          obtain ⟨d', rfl⟩ : ∃ k, d' = k + 1 := ⟨d' - 1, by omega⟩
          exact run_litEq hk (eq_of_beq hkd) hb hr hv hu' d'
        · cases e
      · cases hf
/-- No number, no string: what '==' passes on to the comparison by type. -/
def plainV : Value → Bool
  | .int _ _ | .float _ _ | .complex _ _ _ | .string _ => false
  | _ => true
theorem binOp_plain {op : BinOp} (ho : op = .eql ∨ op = .neq) {t : TypeId} {v u : Value} (hv : plainV v = true) {b : Bool} {w : World} (h1 : (Op.equalIn 10000 t v u).run P w = .ok b w) :
    (binOp op t v u).run P w = .ok (.bool (if op = .eql then b else !b)) w := by
  rcases ho with rfl | rfl
  · have : binOp .eql t v u = (do pure (Value.bool (← Op.equal t v u)) : Sem Value) := by
      cases v <;> first | (cases hv; done) | (cases u <;> rfl)
    rw [this]; simp [Op.equal, Op.maxDepth, h1]
  · have : binOp .neq t v u = (do pure (Value.bool (!(← Op.equal t v u))) : Sem Value) := by
      cases v <;> first | (cases hv; done) | (cases u <;> rfl)
    rw [this]; simp [Op.equal, Op.maxDepth, h1]
theorem plainV_of {γ : Gh} {x : AV} {v : Value} (h : VR γ x v) (h1 : x.kd ≠ 1) (h2 : x.kd ≠ 2) (h3 : x.kd ≤ 8) : plainV v = true := by
  cases x with
  | b x => simp only [VR] at h; subst h; rfl
  | i k n => exact absurd rfl h1
  | s n c => exact absurd rfl h2
  | p0 => simp only [VR] at h; subst h; rfl
  | p a v' o => simp only [VR] at h; obtain ⟨_, _, _, rfl⟩ := h; rfl
  | sl0 => simp only [VR] at h; subst h; rfl
  | sl a v' o n es c => obtain ⟨_, _, _, _, _, rfl⟩ := VR_sl_cases h; rfl
  | m0 => simp only [VR] at h; subst h; rfl
  | m a => simp only [VR] at h; obtain ⟨_, _, _, rfl⟩ := h; rfl
  | fn f a b => simp only [VR] at h; obtain ⟨_, _, rfl, _⟩ := h; rfl
  | f0 => simp only [VR] at h; subst h; rfl
  | ifc t x => simp only [VR] at h; obtain ⟨_, rfl, _⟩ := h; rfl
  | i0 => simp only [VR] at h; subst h; rfl
  | ag cs => simp only [VR] at h; obtain ⟨_, rfl, _⟩ := h; rfl
  | tu vs => exact absurd (show 9 ≤ 8 from h3) (by decide)
  | gp g o => exact absurd (show 9 ≤ 8 from h3) (by decide)
  | yl l => exact absurd (show 9 ≤ 8 from h3) (by decide)
theorem eqGuard_ok {op : BinOp} {t : TypeId} {x y : Operand} {v u : Value} (hg : P.eqGuardType P.depth t = false) (hn : v ≠ .nilIface) (w : World) : (eqGuard op t x y v u).run P w = .ok () w := by
  cases v <;> first | exact absurd rfl hn | skip
  case agg a => cases u <;> first | exact run_eqGuard_agg w op t x y _ _ hg | (cases op <;> simp [eqGuard])
  all_goals (cases op <;> simp [eqGuard])
theorem pure_eq {op : BinOp} (ho : op = .eql ∨ op = .neq) {t t' : TypeId} {x y : Operand} {V : Operand → AV → Prop} {v u : AV} {b : Bool} (hx : V x v) (hy : V y u) (hg : P.eqGuardType P.depth t = false)
    (hs : EqSpec P 20 t v u b) (hk1 : v.kd ≠ 1) (hk2 : v.kd ≠ 2) (hk3 : v.kd ≤ 8) (hk4 : v.kd ≠ 7) : SpecPure P (.binOp op t x y t') V (.b (if op = .eql then b else !b)) := by
  intro γ a h w o hop hopd hr
  have h1 := hopd x _ (by simp [Op.operands]) hx
  have h2 := hopd y _ (by simp [Op.operands]) hy
  refine ⟨_, ?_, VR_b⟩
  have hn : a.eval x ≠ .nilIface := by
    intro e
    rw [e] at h1
    cases v with
    | gp g o => exact absurd (show 9 ≤ 8 from hk3) (by decide)
    | i0 => exact hk4 rfl
    | _ => simp [VR] at h1
  have h3 := binOp_plain (P := P) ho (plainV_of h1 hk1 hk2 hk3) (hs γ h w _ _ hr h1 h2 10000 (by omega))
  simp [execOp, hop, eqGuard_ok hg hn, h3]
/-- Two of type `any`, one of them nil at least. -/
inductive AnyEq : AV → AV → Bool → Prop
  | nn : AnyEq .i0 .i0 true
  | nh {t : TypeId} {x : AV} : AnyEq .i0 (.ifc t x) false
  | hn {t : TypeId} {x : AV} : AnyEq (.ifc t x) .i0 false
theorem anyEqK_ok {x y : AV} {K : Bool → Ans} (e : anyEqK x y K = .ok rv rh) : ∃ b, AnyEq x y b ∧ K b = .ok rv rh := by
  cases x with
  | i0 => cases y <;> first | exact ⟨_, .nn, e⟩ | exact ⟨_, .nh, e⟩ | cases e
  | ifc t x => cases y <;> first | exact ⟨_, .hn, e⟩ | exact nomatch (show Ans.err 14 = .ok rv rh from e)
  | _ => cases e
theorem pure_any {op : BinOp} (ho : op = .eql ∨ op = .neq) {t t' : TypeId} {x y : Operand} {V : Operand → AV → Prop} {v u : AV} {b : Bool} {ms : Array (String × TypeId)} (hx : V x v) (hy : V y u)
    (ht : underP P t = some (.interface ms)) (hm : ms.isEmpty = true) (hs : AnyEq v u b) : SpecPure P (.binOp op t x y t') V (.b (if op = .eql then b else !b)) := by
  intro γ a h w o hop hopd hr
  have h1 := hopd x _ (by simp [Op.operands]) hx
  have h2 := hopd y _ (by simp [Op.operands]) hy
  refine ⟨_, ?_, VR_b⟩
  have h0 := run_underlyingP ht w
  have hg : (eqGuard op t x y (a.eval x) (a.eval y)).run P w = .ok () w := by
    cases hs with
    | nn =>
      simp only [VR] at h1 h2; rw [h1, h2]
      have h9 : ∀ d, (Op.eqGuardIn (d + 1) t .nilIface .nilIface).run P w = .ok false w := fun d => by simp [Op.eqGuardIn, h0, hm]
      have h8 : (Op.eqGuardIn Op.maxDepth t .nilIface .nilIface).run P w = .ok false w := h9 9999
      rcases ho with rfl | rfl <;> simp [eqGuard, h8]
    | nh =>
      simp only [VR] at h1 h2; obtain ⟨_, h2, _⟩ := h2; rw [h1, h2]
      rcases ho with rfl | rfl <;> simp [eqGuard]
    | hn =>
      simp only [VR] at h1 h2; obtain ⟨_, h1, _⟩ := h1; rw [h1, h2]
      rcases ho with rfl | rfl <;> simp [eqGuard]
  have h3 : ∀ d, (Op.equalIn (d + 1) t (a.eval x) (a.eval y)).run P w = .ok b w := by
    intro d
    cases hs with
    | nn => simp only [VR] at h1 h2; rw [h1, h2]; simp [Op.equalIn, h0]
    | nh => simp only [VR] at h1 h2; obtain ⟨_, h2, _⟩ := h2; rw [h1, h2]; simp [Op.equalIn, h0]
    | hn => simp only [VR] at h1 h2; obtain ⟨_, h1, _⟩ := h1; rw [h1, h2]; simp [Op.equalIn, h0]
  have h4 : plainV (a.eval x) = true := by
    cases hs <;> simp only [VR] at h1
    · rw [h1]; rfl
    · rw [h1]; rfl
    · obtain ⟨_, h1, _⟩ := h1; rw [h1]; rfl
  simp [execOp, hop, hg, binOp_plain (P := P) ho h4 (h3 9999)]
end Go.AB
namespace Go.AB
variable [Base]
variable {rv : AV} {rh : H} {P : Program}

theorem sgn_pure {op : BinOp} {t t' : TypeId} {x y : Operand} {V : Operand → AV → Prop} {i o : Nat} {v : AV} (hx : V x (.gp i o)) (hy : V y (.i .i64 0))
    (hv : ∀ n : Int, (o = 1 → n < 0) → (o = 2 → 0 ≤ n) → intVal op .i64 n 0 = some v) (ho : o = 1 ∨ o = 2) : SpecPure P (.binOp op t x y t') V v := by
  intro γ a h w oo hop hopd hr
  have h1 := hopd x _ (by simp [Op.operands]) hx
  have h2 := hopd y _ (by simp [Op.operands]) hy
  simp only [VR] at h1
  have hn : ∃ n, a.eval x = .int .i64 n ∧ (o = 1 → n < 0) ∧ (o = 2 → 0 ≤ n) := by
    rcases ho with rfl | rfl
    · obtain ⟨n, g1, g2⟩ := h1.2.1 rfl
      exact ⟨n, g1, (fun _ => g2), fun h => nomatch h⟩
    · obtain ⟨n, g1, g2⟩ := h1.2.2 rfl
      exact ⟨n, g1, (fun h => nomatch h), fun _ => g2⟩
  obtain ⟨n, g1, g2, g3⟩ := hn
  have hh := pure_int (P := P) (op := op) (t := t) (t' := t') (x := x) (y := y) (V := fun z u => VR γ u (a.eval z)) (k := .i64) (j := .i64) (m := n) (n := 0) (by simp only [VR]; exact g1) h2 (.inl rfl) (hv n g2 g3)
  exact hh γ a h w oo hop (fun z u _ hz => hz) hr
theorem sgn_ok {op : BinOp} {t : TypeId} {i o : Nat} {K : AV → Ans} (e : sgnK op o K = .ok rv rh) :
    ∃ val, (∀ (V : Operand → AV → Prop) (x' y' : Operand) (t' : TypeId), V x' (.gp i o) → V y' (.i .i64 0) → SpecPure P (.binOp op t x' y' t') V val) ∧ K val = .ok rv rh := by
  unfold sgnK at e
  split at e
  · rw [ifK_eq, ifK_eq] at e
    split at e
    · rename_i ho
      obtain rfl := Nat.eq_of_beq_eq_true ho
      rw [boolK_eq] at e
      exact ⟨_, fun V x' y' t' hx hy => sgn_pure hx hy (fun n h1 _ => by have := h1 rfl; simp [intVal, this]) (.inl rfl), e⟩
    · split at e
      · rename_i ho
        obtain rfl := Nat.eq_of_beq_eq_true ho
        rw [boolK_eq] at e
        exact ⟨_, fun V x' y' t' hx hy => sgn_pure hx hy (fun n _ h1 => by have := h1 rfl; simp [intVal, this]) (.inr rfl), e⟩
      · cases e
  · rw [ifK_eq, ifK_eq] at e
    split at e
    · rename_i ho
      obtain rfl := Nat.eq_of_beq_eq_true ho
      rw [boolK_eq] at e
      exact ⟨_, fun V x' y' t' hx hy => sgn_pure hx hy (fun n h1 _ => by have := h1 rfl; simp [intVal, this]) (.inl rfl), e⟩
    · split at e
      · rename_i ho
        obtain rfl := Nat.eq_of_beq_eq_true ho
        rw [boolK_eq] at e
        exact ⟨_, fun V x' y' t' hx hy => sgn_pure hx hy (fun n _ h1 => by have := h1 rfl; simp [intVal, this]) (.inr rfl), e⟩
      · cases e
  · cases e
theorem bin_ok {op : BinOp} {t : TypeId} {f : AV → AV → (AV → Ans) → Ans} (hc : cBin P op t = .mk f) {x y : AV} {K : AV → Ans} (e : f x y K = .ok rv rh) :
    ∃ val, (∀ (V : Operand → AV → Prop) (x' y' : Operand) (t' : TypeId), V x' x → V y' y → SpecPure P (.binOp op t x' y' t') V val) ∧ K val = .ok rv rh := by
  unfold cBin at hc
  split at hc
  · split at hc
    rename_i g hg
    split at hc
    · rename_i hsh
      cases hc
      obtain ⟨k, a, rfl, e1⟩ := onI_ok (show x.onI _ = .ok rv rh from e)
      obtain ⟨j, b, rfl, e2⟩ := onI_ok (show y.onI _ = .ok rv rh from e1)
      obtain ⟨v, hv, e3⟩ := intBI_ok hg e2
      exact ⟨v, fun V x' y' t' hx hy => pure_int hx hy (.inr hsh) hv, e3⟩
    · cases hc
      rcases onIG_ok (show x.onIG _ _ = .ok rv rh from e) with ⟨k, a, rfl, e1⟩ | ⟨i, o, rfl, e1⟩
      · obtain ⟨j, b, rfl, e2⟩ := onI_ok (show y.onI _ = .ok rv rh from e1)
        rw [ifK_eq] at e2
        split at e2
        · rename_i hk
          obtain ⟨v, hv, e3⟩ := intBI_ok hg e2
          exact ⟨v, fun V x' y' t' hx hy => pure_int hx hy (.inl (kindEq_iff.1 hk)) hv, e3⟩
        · cases e2
      · obtain ⟨j, b, rfl, e2⟩ := onI_ok (show y.onI _ = .ok rv rh from e1)
        rw [ifK_eq] at e2
        split at e2
        · rename_i hk
          rw [andB_eq, Bool.and_eq_true, eqI_eq] at hk
          obtain rfl := kindEq_iff.1 hk.1
          obtain rfl : b = 0 := by simpa using hk.2
          exact sgn_ok e2
        · cases e2
  · obtain ⟨n, a, m, b, v, rfl, rfl, hv, e1⟩ := strBB_ok hc e
    exact ⟨v, fun V x' y' t' hx hy => pure_str hx hy hv, e1⟩
  · rename_i ms hu
    split at hc
    · rename_i hm
      cases hc
      obtain ⟨b, hb, e1⟩ := anyEqK_ok (show anyEqK x y _ = .ok rv rh from e)
      rw [boolK_eq] at e1
      exact ⟨_, fun V x' y' t' hx hy => by simpa using pure_any (.inl rfl) hx hy hu hm hb, e1⟩
    · rename_i hm
      cases hc
      obtain ⟨b, hb, e1⟩ := anyEqK_ok (show anyEqK x y _ = .ok rv rh from e)
      rw [boolK_eq, notB_eq] at e1
      exact ⟨_, fun V x' y' t' hx hy => by simpa using pure_any (.inr rfl) hx hy hu hm hb, e1⟩
    · cases hc; cases e
  · rename_i d h1 h2 h3
    have hkd : ∀ v : AV, v.kd = 8 ∨ kdP P t = some v.kd → v.kd ≠ 1 ∧ v.kd ≠ 2 ∧ v.kd ≤ 8 ∧ v.kd ≠ 7 := by
      intro v hv
      rcases hv with h | h
      · omega
      · obtain ⟨ds, hd, hh⟩ := kdP_ok h
        rcases hh with ⟨_, h⟩ | ⟨i, hi, _⟩ | ⟨hi, _⟩ | ⟨_, _, h, _⟩ | ⟨_, _, h⟩ | ⟨_, _, _, h⟩ | ⟨_, _, _, _, h⟩
        · omega
        · exact absurd (hd.trans (congrArg some hi)) (h1 i)
        · exact absurd (hd.trans (congrArg some hi)) h2
        all_goals omega
    split at hc
    · rename_i hg hf
      cases hc
      obtain ⟨b, hb, e1, h4, h5⟩ := eqBQ_ok _ _ _ hf _ _ _ e
      rw [boolK_eq] at e1
      obtain ⟨k1, k2, k3, k4⟩ := hkd _ h5
      exact ⟨_, fun V x' y' t' hx hy => by simpa using pure_eq (.inl rfl) hx hy hg hb k1 k2 k3 k4, e1⟩
    · rename_i hg hf
      cases hc
      obtain ⟨b, hb, e1, h4, h5⟩ := eqBQ_ok _ _ _ hf _ _ _ e
      rw [boolK_eq, notB_eq] at e1
      obtain ⟨k1, k2, k3, k4⟩ := hkd _ h5
      exact ⟨_, fun V x' y' t' hx hy => by simpa using pure_eq (.inr rfl) hx hy hg hb k1 k2 k3 k4, e1⟩
    · cases hc; cases e
end Go.AB
namespace Go.AB
variable [Base]
variable {rv : AV} {rh : H} {P : Program}

/-! ### loads -/
/-- These cells lie there, at that version. -/
def RowAt (h : H) (a v o : Nat) (l : List AV) : Prop := ∃ ob, h.get a = some ob ∧
  ((∃ n cs, ob = .blk n cs ∧ o + l.length ≤ n ∧ ∀ i, i < l.length → cs.get (o + i) = l[i]?) ∨
   (∃ n cs lw, ob = .grow n cs lw ∧ lw ≤ v ∧ v ≤ n ∧ o + l.length ≤ v ∧ ∀ i, i < l.length → cs.get (o + i) = l[i]?))
theorem readK_ok {agg : Bool} {size : Nat} {cs : BV4} {o : Nat} {K : AV → Ans} (e : readK agg size cs o K = .ok rv rh) :
    ∃ l x, K x = .ok rv rh ∧ (agg = true ∧ x = .ag l ∧ l.length = size ∨ agg = false ∧ l = [x]) ∧ ∀ i, i < l.length → cs.get (o + i) = l[i]? := by
  cases agg with
  | true =>
    obtain ⟨l, h1, h2, h3⟩ := getCells_ok size cs o [] _ (show getCells size cs o [] (fun l => K (.ag l)) = .ok rv rh from e)
    rw [List.append_nil] at h1
    exact ⟨l, _, h1, .inl ⟨rfl, rfl, h2⟩, fun i hi => h3 i (by omega)⟩
  | false =>
    have e1 : BV4.getK cs o K = .ok rv rh := e
    rw [BV4.getK_eq] at e1
    cases hg : cs.get o with
    | none => rw [hg] at e1; cases e1
    | some x =>
      rw [hg] at e1
      refine ⟨[x], x, e1, .inr ⟨rfl, rfl⟩, fun i hi => ?_⟩
      obtain rfl : i = 0 := by simpa using hi
      simpa using hg
theorem loadK_ok {agg : Bool} {size : Nat} {h : H} {p : AV} {K : AV → Ans} (hs : agg = false → size = 1) (e : loadK agg size h p K = .ok rv rh) :
    ∃ a v o l x, p = .p a v o ∧ K x = .ok rv rh ∧ (agg = true ∧ x = .ag l ∧ l.length = size ∨ agg = false ∧ l = [x]) ∧ RowAt h a v o l := by
  obtain ⟨a, v, o, rfl, e1⟩ := onP_ok (show p.onP _ = .ok rv rh from e)
  obtain ⟨ob, ho, e2⟩ := H.getK_ok e1
  rcases row_ok e2 with ⟨n, cs, rfl, e3⟩ | ⟨n, cs, lw, rfl, e3⟩
  · rw [ifK_eq] at e3
    split at e3
    · rename_i hb
      obtain ⟨l, x, h1, h2, h3⟩ := readK_ok e3
      have hl : l.length = size := by
        rcases h2 with ⟨_, _, h⟩ | ⟨ha, rfl⟩
        · exact h
        · rw [hs ha]; rfl
      exact ⟨a, v, o, l, x, rfl, h1, h2, _, ho, .inl ⟨n, cs, rfl, by rw [hl]; exact Nat.le_of_ble_eq_true hb, h3⟩⟩
    · cases e3
  · rw [ifK_eq] at e3
    split at e3
    · rename_i hb
      unfold verOk at hb
      rw [andB_eq, andB_eq, Bool.and_eq_true, Bool.and_eq_true] at hb
      obtain ⟨⟨b1, b2⟩, b3⟩ := hb
      obtain ⟨l, x, h1, h2, h3⟩ := readK_ok e3
      have hl : l.length = size := by
        rcases h2 with ⟨_, _, h⟩ | ⟨ha, rfl⟩
        · exact h
        · rw [hs ha]; rfl
      exact ⟨a, v, o, l, x, rfl, h1, h2, _, ho, .inr ⟨n, cs, lw, rfl, Nat.le_of_ble_eq_true b1, Nat.le_of_ble_eq_true b2, by rw [hl]; exact Nat.le_of_ble_eq_true b3, h3⟩⟩
    · cases e3
theorem RowAt.read {γ : Gh} {h : H} {w : World} {a v o : Nat} {l : List AV} (hx : RowAt h a v o l) (hr : HR γ h w) {B N : Nat} (hg : γ a v = some (B, N)) :
    ∃ vals : List Value, w.rangeAt B o vals ∧ vals.length = l.length ∧ VRL γ l vals ∧ ∀ x ∈ l, cellA x = true := by
  obtain ⟨ob', o', h1, h2, h3⟩ := hr.ob a v B N hg
  obtain ⟨ob, h4, h5⟩ := hx
  rw [h4] at h1; cases h1
  obtain ⟨m, cs, c, T, rfl, hc, hm, hl⟩ : ∃ m cs c T, o' = .cells c T (0, 0) ∧ CellsR γ cs m c ∧ o + l.length ≤ m ∧ ∀ i, i < l.length → cs.get (o + i) = l[i]? := by
    rcases h5 with ⟨n, cs, rfl, h6, h7⟩ | ⟨n, cs, lw, rfl, h6, h7, h8, h9⟩
    · obtain ⟨_, _, c, T, h, _, hc⟩ := h3; exact ⟨n, cs, c, T, h, hc, h6, h7⟩
    · obtain ⟨_, _, c, T, h, _, _, hc⟩ := h3; exact ⟨v, cs, c, T, h, hc h6, h8, h9⟩
  have key : ∀ (i : Nat) x, l[i]? = some x → ∃ u, c[o + i]? = some u ∧ VR γ x u ∧ cellA x = true := by
    intro i x hi
    have hlt : i < l.length := (List.getElem?_eq_some_iff.1 hi).1
    obtain ⟨x', u, h6, h7, h8, h9⟩ := hc (o + i) (by omega)
    rw [hl i hlt, hi] at h6; cases h6
    exact ⟨u, h7, h9, h8⟩
  have hv : ∀ i : Nat, ((c.toList.drop o).take l.length)[i]? = if i < l.length then c[o + i]? else none := by
    intro i
    rw [List.getElem?_take, List.getElem?_drop, Array.getElem?_toList]
  have hlen : ((c.toList.drop o).take l.length).length = l.length := by
    rcases Nat.eq_zero_or_pos l.length with h0 | h0
    · simp [h0]
    · obtain ⟨u, hu, _⟩ := key (l.length - 1) _ (List.getElem?_eq_getElem (by omega))
      have := (Array.getElem?_eq_some_iff.1 hu).1
      simp only [List.length_take, List.length_drop, Array.length_toList]
      omega
  refine ⟨(c.toList.drop o).take l.length, ?_, hlen, ?_, ?_⟩
  · intro j u hj
    rw [hv] at hj
    split at hj
    · simp [World.cell?, h2, hj]
    · cases hj
  · rw [VRL_iff]
    refine ⟨hlen.symm, fun i x u hx hu => ?_⟩
    rw [hv, if_pos (List.getElem?_eq_some_iff.1 hx).1] at hu
    obtain ⟨u', h6, h7, _⟩ := key i x hx
    rw [hu] at h6; cases h6; exact h7
  · intro x hx
    obtain ⟨i, hi⟩ := List.mem_iff_getElem?.1 hx
    obtain ⟨_, _, _, h⟩ := key i x hi
    exact h
theorem RowAt.same {h h' : H} (hk : ∀ b ob, h.get b = some ob → h'.get b = some ob) {a v o : Nat} {l : List AV} (hx : RowAt h a v o l) : RowAt h' a v o l :=
  let ⟨ob, h1, h2⟩ := hx; ⟨ob, hk _ _ h1, h2⟩
/-- What a load yields, by the kind of its type. -/
theorem read_load {t : TypeId} {d : TypeDesc} (hd : underP P t = some d) {x : Operand} {V : Operand → AV → Prop} {a v o : Nat} {l : List AV} {z : AV} {h0 : H} (hx : V x (.p a v o))
    (hz : aggP P t = true ∧ z = .ag l ∧ l.length = sizeP P t ∨ aggP P t = false ∧ l = [z]) (hl : RowAt h0 a v o l) : SpecRead P (.load t x) V h0 z := by
  intro γ ac h w op ho hk hop hr
  have h1 := hop x _ (by simp [Op.operands]) hx
  simp only [VR] at h1
  obtain ⟨B, N, hg, h1⟩ := h1
  obtain ⟨vals, h2, h3, h4, h5⟩ := (hl.same hk).read hr hg
  obtain ⟨i, hi⟩ := underP_type hd
  have ha := run_isAggP hd w
  have hs := run_sizeOfP hi w
  rcases hz with ⟨hz1, rfl, hz3⟩ | ⟨hz1, rfl⟩
  · have hl := run_loadCells_list (P := P) w ⟨B, o, none⟩ vals (fun j u hu => by rw [Addr.add_mid]; exact h2 j u hu)
    rw [h3, hz3] at hl
    refine ⟨.agg vals.toArray, by simp [execOp, ho, h1, Instr.loadAt, Instr.sureAddr, loadVar, ha, hz1, hs, hl], ?_⟩
    simp only [VR]
    exact ⟨_, rfl, by simpa using h4, h5⟩
  · match vals, h3, h4, h2 with
    | [u], _, h4, h2 =>
      simp only [VRL_cons] at h4
      have : w.cell? ⟨B, o, none⟩ = some u := h2 0 u rfl
      refine ⟨u, ?_, h4.1⟩
      simp [execOp, ho, h1, Instr.loadAt, Instr.sureAddr, loadVar, ha, hz1, load, Sem.run, this]
end Go.AB
namespace Go.AB
variable [Base]
variable {rv : AV} {rh : H} {P : Program}

/-! ### slices -/
/-- What an index of a slice expression is: left out, or a number. -/
inductive IxV (dflt : Nat) : Option AV → Nat → Prop
  | none : IxV dflt none dflt
  | some {k : IntKind} {n : Nat} : IxV dflt (some (.i k (n : Int))) n
theorem sliceIx_ok {x : Option AV} {dflt : Nat} {K : Nat → Ans} (e : sliceIx x dflt K = .ok rv rh) : ∃ n, IxV dflt x n ∧ K n = .ok rv rh := by
  cases x with
  | none => exact ⟨dflt, .none, e⟩
  | some v =>
    obtain ⟨k, m, rfl, e1⟩ := onI_ok (show v.onI _ = .ok rv rh from e)
    obtain ⟨n, rfl, e2⟩ := natOf_ok e1
    exact ⟨n, .some, e2⟩
def OptR (γ : Gh) : Option AV → Option Value → Prop
  | none, v => v = none
  | some x, v => ∃ u, v = some u ∧ VR γ x u
theorem run_bounds {γ : Gh} {b : Bool} {len cap l h : Nat} {lo hi : Option AV} {vlo vhi : Option Value} (hlo : IxV 0 lo l) (hhi : IxV len hi h) (rlo : OptR γ lo vlo) (rhi : OptR γ hi vhi)
    (h1 : l ≤ h) (h2 : h ≤ len) (h3 : len ≤ cap) (w : World) : (Instr.sliceBounds b len cap vlo vhi none).run P w = .ok (l, h, cap) w := by
  have hb : ∀ (k : IntKind) (n y : Nat) (c : BoundsCode), n ≤ y → (Instr.sliceBound (.int k (n : Int)) y c).run P w = .ok n w := by
    intro k n y c hn
    simp [Instr.sliceBound, asIntOf, hn]
  cases hlo with
  | none =>
    obtain rfl := rlo
    cases hhi with
    | none => obtain rfl := rhi; simp [Instr.sliceBounds]
    | some =>
      obtain ⟨u, rfl, hu⟩ := rhi
      simp only [VR] at hu; subst hu
      simp [Instr.sliceBounds, hb _ _ _ _ (Nat.le_trans h2 h3)]
  | some =>
    obtain ⟨u', rfl, hu'⟩ := rlo
    simp only [VR] at hu'; subst hu'
    cases hhi with
    | none => obtain rfl := rhi; simp [Instr.sliceBounds, hb _ _ _ _ h1]
    | some =>
      obtain ⟨u, rfl, hu⟩ := rhi
      simp only [VR] at hu; subst hu
      simp [Instr.sliceBounds, hb _ _ _ _ (Nat.le_trans h2 h3), hb _ _ _ _ h1]
/-- A slice of a slice. -/
theorem run_slice_sl {γ : Gh} {t e : TypeId} (hu : underP P t = some (.slice e)) (hd : ∃ i, typeP P e = some i) {a ver o n c l h c' : Nat} {lo hi : Option AV} {v : Value} {vlo vhi : Option Value} (hv : VR γ (.sl a ver o n (sizeP P e) c) v)
    (hlo : IxV 0 lo l) (hhi : IxV n hi h) (rlo : OptR γ lo vlo) (rhi : OptR γ hi vhi) (h1 : l ≤ h) (h2 : h ≤ n) (hc : c = 0 ∧ c' = 0 ∨ ∃ k, c = k + 1 ∧ l ≤ k ∧ c' = k - l + 1) (w : World) :
    ∃ r, (Instr.slice t v vlo vhi none).run P w = .ok r w ∧ VR γ (.sl a ver (o + l * sizeP P e) (h - l) (sizeP P e) c') r := by
  simp only [VR] at hv
  obtain ⟨B, N, cap, hg, oo, rfl, hoo, hes, hnc, hN, hc0, hc1⟩ := hv
  obtain ⟨i, hi'⟩ := hd
  have hb := run_bounds (P := P) (b := true) hlo hhi rlo rhi h1 h2 hnc w
  have hs := run_sizeOfP hi' w
  have hu' := run_underlyingP hu w
  have hlc : l ≤ cap := Nat.le_trans h1 (Nat.le_trans h2 hnc)
  have hsum : o + l * sizeP P e + (cap - l) * sizeP P e = o + cap * sizeP P e := by
    rw [Nat.add_assoc, ← Nat.add_mul, Nat.add_sub_cancel' hlc]
  refine ⟨.slice (some ⟨B, if cap = l then oo else oo + l * sizeP P e, none⟩) (h - l) (cap - l), ?_, ?_⟩
  · simp only [Instr.slice, Sem.run_bind, hu', Result.andThen_ok, hb, hs, Sem.run_pure]
    split <;> simp [add_none]
  · simp only [VR]
    refine ⟨B, N, cap - l, hg, _, rfl, ?_, hes, by omega, by omega, ?_, ?_⟩
    · intro hne
      rw [if_neg (by omega), hoo (by omega)]
    · intro h0
      rcases hc with ⟨rfl, _⟩ | ⟨k, _, _, rfl⟩
      · rw [hsum]; exact hc0 rfl
      · omega
    · intro h0
      rcases hc with ⟨_, rfl⟩ | ⟨k, rfl, _, rfl⟩
      · exact absurd rfl h0
      · have := hc1 (by omega)
        omega
theorem run_slice_s {γ : Gh} {t : TypeId} (hu : underP P t = some .string) {n code l h : Nat} {lo hi : Option AV} {v : Value} {vlo vhi : Option Value} (hv : VR γ (.s n code) v)
    (hlo : IxV 0 lo l) (hhi : IxV n hi h) (rlo : OptR γ lo vlo) (rhi : OptR γ hi vhi) (h1 : l ≤ h) (h2 : h ≤ n) (w : World) :
    ∃ r, (Instr.slice t v vlo vhi none).run P w = .ok r w ∧ VR γ (.s (h - l) (Nat.shiftRight code (8 * (n - h)) % 256 ^ (h - l))) r := by
  simp only [VR] at hv
  obtain ⟨s, rfl, rfl, rfl⟩ := hv
  have hb := run_bounds (P := P) (b := false) hlo hhi rlo rhi h1 h2 (Nat.le_refl _) w
  have hu' := run_underlyingP hu w
  refine ⟨.string (s.extract l h), by simp [Instr.slice, hu', hb], ?_⟩
  have hd : (s.extract l h).data.toList = (s.data.toList.take h).drop l := by
    rw [ByteArray.data_extract, Array.toList_extract, List.extract_eq_take_drop, List.drop_take]
  have h2' : h ≤ s.data.toList.length := by rw [← size_list]; exact h2
  refine VR_list ?_ ?_
  · rw [hd, List.length_drop, List.length_take]; omega
  · rw [hd, size_list]; exact (cut_eq _ l h h1 h2').symm
/-- An index left out, or an operand. -/
def OptV (V : Operand → AV → Prop) : Option Operand → Option AV → Prop
  | none, none => True
  | some x, some v => V x v
  | _, _ => False
theorem OptV.rel {γ : Gh} {V : Operand → AV → Prop} {op : Op} {ac : Act} (hop : OpdsR γ V op ac) {lo : Option Operand} {lv : Option AV} (hm : ∀ x, lo = some x → x ∈ op.operands) (hl : OptV V lo lv) :
    OptR γ lv (lo.map ac.eval) := by
  cases lo with
  | none => cases lv with | none => rfl | some v => exact hl.elim
  | some x => cases lv with | none => exact hl.elim | some v => exact ⟨_, rfl, hop x v (hm x rfl) hl⟩
theorem pure_slice {t : TypeId} {d : TypeDesc} (hd : underP P t = some d) (hn : ∀ n e, d ≠ .array n e) {x : Operand} {lo hi : Option Operand} {lv hv : Option AV} {V : Operand → AV → Prop} {v r : AV} (hx : V x v) (hl : OptV V lo lv) (hh : OptV V hi hv)
    (hs : ∀ γ u vlo vhi w, VR γ v u → OptR γ lv vlo → OptR γ hv vhi → ∃ z, (Instr.slice t u vlo vhi none).run P w = .ok z w ∧ VR γ r z) : SpecPure P (.slice t x lo hi none) V r := by
  intro γ ac h w op ho hop hr
  have h1 := hop x _ (by simp [Op.operands]) hx
  have h2 := OptV.rel hop (fun y hy => by simp [Op.operands, hy]) hl
  have h3 := OptV.rel hop (fun y hy => by simp [Op.operands, hy]) hh
  obtain ⟨z, h4, h5⟩ := hs γ _ _ _ w h1 h2 h3
  refine ⟨z, ?_, h5⟩
  have hu := run_underlyingP hd w
  have h6 : (Instr.sliceAt t (ac.eval x) (lo.map ac.eval) (hi.map ac.eval) none).run P w = .ok z w := by
    simp only [Instr.sliceAt, Sem.run_bind, hu, Result.andThen_ok]
    cases d <;> first | exact absurd rfl (hn _ _) | exact h4
  simp [execOp, ho, h6]
end Go.AB
namespace Go.AB
variable [Base]
variable {rv : AV} {rh : H} {P : Program}

/-! ### conversions -/
theorem conv_ok {src dst : TypeId} {x : AV} {K : AV → Ans} (e : (convBK P src dst).run x K = .ok rv rh) :
    ∃ i k j n, underP P src = some (.int i) ∧ underP P dst = some (.int k) ∧ x = .i j n ∧ K (.i k (k.wrap n)) = .ok rv rh := by
  unfold convBK at e
  split at e
  · rename_i i k h1 h2
    obtain ⟨j, n, rfl, e1⟩ := onI_ok (show x.onI _ = .ok rv rh from e)
    rw [wrapK_eq] at e1
    exact ⟨i, k, j, n, h1, h2, rfl, e1⟩
  · cases e
theorem pure_conv {src dst : TypeId} {i k j : IntKind} {n : Int} (h1 : underP P src = some (.int i)) (h2 : underP P dst = some (.int k)) {x : Operand} {V : Operand → AV → Prop} (hx : V x (.i j n)) :
    SpecPure P (.convert src dst x) V (.i k (k.wrap n)) := by
  intro γ ac h w op ho hop hr
  have h3 := hop x _ (by simp [Op.operands]) hx
  simp only [VR] at h3
  have h4 := run_underlyingP h1 w
  have h5 := run_underlyingP h2 w
  refine ⟨_, ?_, VR_i⟩
  simp [execOp, ho, convert, h3, h4, h5, Conv.intToInt]
end Go.AB
