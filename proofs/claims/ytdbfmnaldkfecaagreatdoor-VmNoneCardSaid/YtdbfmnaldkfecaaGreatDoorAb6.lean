/-
  MEMOS: a call whose outcome is known by a theorem of its own is taken whole. This text: the numbers of rows turned (what a theorem says of a small memory is said of it inside any other), and a memo's use.
-/
import Derived.Test.YtdbfmnaldkfecaaGreatDoorAb5
set_option linter.all false
namespace Go.AB

/-! ### the numbers of rows turned -/
mutual
def AV.ren (τ : Nat → Nat) : AV → AV
  | .b x => .b x
  | .i k n => .i k n
  | .s n c => .s n c
  | .p0 => .p0
  | .p a v o => .p (τ a) v o
  | .sl0 => .sl0
  | .sl a v o n es c => .sl (τ a) v o n es c
  | .m0 => .m0
  | .m a => .m (τ a)
  | .fn f x y => .fn f (AV.renL τ x) (AV.renL τ y)
  | .f0 => .f0
  | .ifc t x => .ifc t (x.ren τ)
  | .i0 => .i0
  | .ag l => .ag (AV.renL τ l)
  | .tu l => .tu (AV.renL τ l)
  | .gp g o => .gp g o
  | .yl l => .yl (τ l)
def AV.renL (τ : Nat → Nat) : List AV → List AV
  | [] => []
  | x :: l => x.ren τ :: AV.renL τ l
end
theorem renL_eq (τ : Nat → Nat) : ∀ l : List AV, AV.renL τ l = l.map (AV.ren τ)
  | [] => by simp [AV.renL]
  | x :: l => by simp [AV.renL, renL_eq τ l]
def BV4.ren (τ : Nat → Nat) : BV4 → BV4
  | .e => .e
  | .nd x c0 c1 c2 c3 => .nd (x.ren τ) (c0.ren τ) (c1.ren τ) (c2.ren τ) (c3.ren τ)
def renE (τ : Nat → Nat) (l : List (AV × AV × Nat)) : List (AV × AV × Nat) := l.map fun x => (x.1.ren τ, x.2.1.ren τ, x.2.2)
def AO.ren (τ : Nat → Nat) : AO → AO
  | .blk n cs => .blk n (cs.ren τ)
  | .grow n cs lw => .grow n (cs.ren τ) lw
  | .map es c => .map (renE τ es) c
  | o => o
def AO.plain : AO → Bool
  | .blk _ _ => true
  | .grow _ _ _ => true
  | .map _ _ => true
  | _ => false
theorem cellA_ren (τ : Nat → Nat) (x : AV) : cellA (x.ren τ) = cellA x := by cases x <;> simp [AV.ren, cellA]
theorem BV4.get_ren (τ : Nat → Nat) (t : BV4) : ∀ k, (t.ren τ).get k = (t.get k).map (AV.ren τ) := by
  induction t with
  | e => intro k; rfl
  | nd x c0 c1 c2 c3 h0 h1 h2 h3 =>
    intro k
    cases k with
    | zero => rfl
    | succ m =>
      simp only [BV4.ren, BV4.get]
      repeat' split
      · exact h0 _
      · exact h1 _
      · exact h2 _
      · exact h3 _

/-! ### by the kernel -/
noncomputable def renVK (τ : Nat → Nat) (x : AV) : (AV → Ans) → Ans :=
  AV.rec (motive_1 := fun _ => (AV → Ans) → Ans) (motive_2 := fun _ => (List AV → Ans) → Ans)
    (fun b K => K (.b b)) (fun k n K => forceI n fun n => K (.i k n)) (fun n c K => forceN n fun n => forceN c fun c => K (.s n c)) (fun K => K .p0) (fun a v o K => forceN (τ a) fun a => forceN v fun v => forceN o fun o => K (.p a v o)) (fun K => K .sl0)
    (fun a v o n es c K => forceN (τ a) fun a => forceN v fun v => forceN o fun o => forceN n fun n => forceN es fun es => forceN c fun c => K (.sl a v o n es c)) (fun K => K .m0) (fun a K => forceN (τ a) fun a => K (.m a))
    (fun f _ _ ih1 ih2 K => ih1 fun x => ih2 fun y => K (.fn f x y)) (fun K => K .f0) (fun t _ ih K => ih fun x => K (.ifc t x)) (fun K => K .i0)
    (fun _ ih K => ih fun l => K (.ag l)) (fun _ ih K => ih fun l => K (.tu l)) (fun g o K => K (.gp g o)) (fun l K => forceN (τ l) fun l => K (.yl l))
    (fun K => K []) (fun _ _ ih1 ih2 K => ih1 fun x => ih2 fun l => K (x :: l)) x
noncomputable def renLK (τ : Nat → Nat) (l : List AV) : (List AV → Ans) → Ans :=
  AV.rec_1 (motive_1 := fun _ => (AV → Ans) → Ans) (motive_2 := fun _ => (List AV → Ans) → Ans)
    (fun b K => K (.b b)) (fun k n K => forceI n fun n => K (.i k n)) (fun n c K => forceN n fun n => forceN c fun c => K (.s n c)) (fun K => K .p0) (fun a v o K => forceN (τ a) fun a => forceN v fun v => forceN o fun o => K (.p a v o)) (fun K => K .sl0)
    (fun a v o n es c K => forceN (τ a) fun a => forceN v fun v => forceN o fun o => forceN n fun n => forceN es fun es => forceN c fun c => K (.sl a v o n es c)) (fun K => K .m0) (fun a K => forceN (τ a) fun a => K (.m a))
    (fun f _ _ ih1 ih2 K => ih1 fun x => ih2 fun y => K (.fn f x y)) (fun K => K .f0) (fun t _ ih K => ih fun x => K (.ifc t x)) (fun K => K .i0)
    (fun _ ih K => ih fun l => K (.ag l)) (fun _ ih K => ih fun l => K (.tu l)) (fun g o K => K (.gp g o)) (fun l K => forceN (τ l) fun l => K (.yl l))
    (fun K => K []) (fun _ _ ih1 ih2 K => ih1 fun x => ih2 fun l => K (x :: l)) l
noncomputable def renBK (τ : Nat → Nat) (t : BV4) : (BV4 → Ans) → Ans :=
  BV4.rec (motive := fun _ => (BV4 → Ans) → Ans) (fun K => K .e)
    (fun x _ _ _ _ h0 h1 h2 h3 K => renVK τ x fun x => h0 fun c0 => h1 fun c1 => h2 fun c2 => h3 fun c3 => K (.nd x c0 c1 c2 c3)) t
noncomputable def renEK (τ : Nat → Nat) (l : List (AV × AV × Nat)) : (List (AV × AV × Nat) → Ans) → Ans :=
  List.rec (motive := fun _ => (List (AV × AV × Nat) → Ans) → Ans) (fun K => K []) (fun x _ ih K => renVK τ x.1 fun k => renVK τ x.2.1 fun v => forceN x.2.2 fun b => ih fun l => K ((k, v, b) :: l)) l
noncomputable def renOK (τ : Nat → Nat) (o : AO) (K : AO → Ans) : Ans := match o with
  | .blk n cs => forceN n fun n => renBK τ cs fun cs => K (.blk n cs)
  | .grow n cs lw => forceN n fun n => forceN lw fun lw => renBK τ cs fun cs => K (.grow n cs lw)
  | .map es c => forceN c fun c => renEK τ es fun es => K (.map es c)
  | _ => .err 280
mutual
theorem renVK_eq (τ : Nat → Nat) : ∀ (x : AV) (K : AV → Ans), renVK τ x K = K (x.ren τ)
  | .b _, K => by simp only [AV.ren]; rfl
  | .i k n, K => by
    simp only [AV.ren]
    show forceI n (fun n => K (.i k n)) = _
    rw [forceI_eq]
  | .s n c, K => by
    simp only [AV.ren]
    show forceN n (fun n => forceN c fun c => K (.s n c)) = _
    rw [forceN_eq, forceN_eq]
  | .p0, K => by simp only [AV.ren]; rfl
  | .p a v o, K => by
    simp only [AV.ren]
    show forceN (τ a) (fun a => forceN v fun v => forceN o fun o => K (.p a v o)) = _
    simp only [forceN_eq]
  | .sl0, K => by simp only [AV.ren]; rfl
  | .sl a v o n es c, K => by
    simp only [AV.ren]
    show forceN (τ a) (fun a => forceN v fun v => forceN o fun o => forceN n fun n => forceN es fun es => forceN c fun c => K (.sl a v o n es c)) = _
    simp only [forceN_eq]
  | .m0, K => by simp only [AV.ren]; rfl
  | .m a, K => by
    simp only [AV.ren]
    show forceN (τ a) (fun a => K (.m a)) = _
    rw [forceN_eq]
  | .fn f x y, K => by
    simp only [AV.ren]
    show renLK τ x (fun x => renLK τ y fun y => K (.fn f x y)) = _
    rw [renLK_eq, renLK_eq]
  | .f0, K => by simp only [AV.ren]; rfl
  | .ifc t x, K => by
    simp only [AV.ren]
    show renVK τ x (fun x => K (.ifc t x)) = _
    rw [renVK_eq]
  | .i0, K => by simp only [AV.ren]; rfl
  | .ag l, K => by
    simp only [AV.ren]
    show renLK τ l (fun l => K (.ag l)) = _
    rw [renLK_eq]
  | .tu l, K => by
    simp only [AV.ren]
    show renLK τ l (fun l => K (.tu l)) = _
    rw [renLK_eq]
  | .gp _ _, K => by simp only [AV.ren]; rfl
  | .yl l, K => by
    simp only [AV.ren]
    show forceN (τ l) (fun a => K (.yl a)) = _
    rw [forceN_eq]
theorem renLK_eq (τ : Nat → Nat) : ∀ (l : List AV) (K : List AV → Ans), renLK τ l K = K (AV.renL τ l)
  | [], K => by simp only [AV.renL]; rfl
  | x :: l, K => by
    simp only [AV.renL]
    show renVK τ x (fun x => renLK τ l fun l => K (x :: l)) = _
    rw [renVK_eq, renLK_eq]
end
theorem renBK_eq (τ : Nat → Nat) (t : BV4) : ∀ K : BV4 → Ans, renBK τ t K = K (t.ren τ) := by
  induction t with
  | e => intro K; rfl
  | nd x c0 c1 c2 c3 h0 h1 h2 h3 =>
    intro K
    show renVK τ x (fun x => renBK τ c0 fun c0 => renBK τ c1 fun c1 => renBK τ c2 fun c2 => renBK τ c3 fun c3 => K (.nd x c0 c1 c2 c3)) = _
    rw [renVK_eq, h0, h1, h2, h3]
    rfl
theorem renEK_eq (τ : Nat → Nat) : ∀ (l : List (AV × AV × Nat)) (K : List (AV × AV × Nat) → Ans), renEK τ l K = K (renE τ l)
  | [], K => rfl
  | x :: l, K => by
    show renVK τ x.1 (fun k => renVK τ x.2.1 fun v => forceN x.2.2 fun b => renEK τ l fun l => K ((k, v, b) :: l)) = _
    rw [renVK_eq, renVK_eq, forceN_eq, renEK_eq]
    rfl
variable {rv : AV} {rh : H}
theorem renOK_ok {τ : Nat → Nat} {o : AO} {K : AO → Ans} (e : renOK τ o K = .ok rv rh) : o.plain = true ∧ K (o.ren τ) = .ok rv rh := by
  cases o <;> first
    | (refine ⟨rfl, ?_⟩; simp only [renOK, forceN_eq, renBK_eq, renEK_eq] at e; exact e)
    | cases e

/-! ### the relations over turned numbers -/
variable [Base]
/-- The map behind turned numbers. -/
def Gh.comp (γ : Gh) (τ : Nat → Nat) : Gh := fun a v => γ (τ a) v
mutual
theorem VR_ren {γ : Gh} {τ : Nat → Nat} : ∀ (x : AV) {v : Value}, VR γ (x.ren τ) v ↔ VR (γ.comp τ) x v
  | .b _, _ => by simp only [AV.ren, VR]
  | .i _ _, _ => by simp only [AV.ren, VR]
  | .s _ _, _ => by simp only [AV.ren, VR]
  | .p0, _ => by simp only [AV.ren, VR]
  | .p _ _ _, _ => by simp only [AV.ren, VR, Gh.comp]
  | .sl0, _ => by simp only [AV.ren, VR]
  | .sl _ _ _ _ _ _, _ => by simp only [AV.ren, VR, Gh.comp]
  | .m0, _ => by simp only [AV.ren, VR]
  | .m _, _ => by simp only [AV.ren, VR, Gh.comp]
  | .fn f x y, v => by
    simp only [AV.ren, VR]
    exact exists_congr fun a => exists_congr fun b => and_congr Iff.rfl (and_congr (VRL_ren x) (and_congr (VRL_ren y) Iff.rfl))
  | .f0, _ => by simp only [AV.ren, VR]
  | .ifc t x, v => by
    simp only [AV.ren, VR]
    exact exists_congr fun a => and_congr Iff.rfl (VR_ren x)
  | .i0, _ => by simp only [AV.ren, VR]
  | .ag l, v => by
    simp only [AV.ren, VR]
    refine exists_congr fun c => and_congr Iff.rfl (and_congr (VRL_ren l) ?_)
    rw [renL_eq]
    constructor
    · intro h x hx; have := h (x.ren τ) (List.mem_map.2 ⟨x, hx, rfl⟩); rwa [cellA_ren] at this
    · intro h x hx; obtain ⟨y, hy, rfl⟩ := List.mem_map.1 hx; rw [cellA_ren]; exact h y hy
  | .tu l, v => by
    simp only [AV.ren, VR]
    exact exists_congr fun c => and_congr Iff.rfl (VRL_ren l)
  | .gp _ _, _ => by simp only [AV.ren, VR]
  | .yl _, _ => by simp only [AV.ren, VR, Gh.comp]
theorem VRL_ren {γ : Gh} {τ : Nat → Nat} : ∀ (l : List AV) {m : List Value}, VRL γ (AV.renL τ l) m ↔ VRL (γ.comp τ) l m
  | [], _ => by simp only [AV.renL, VRL]
  | x :: l, m => by
    simp only [AV.renL, VRL]
    exact exists_congr fun v => exists_congr fun vs => and_congr Iff.rfl (and_congr (VR_ren x) (VRL_ren l))
end
theorem CellsR_ren {γ : Gh} {τ : Nat → Nat} {cs : BV4} {n : Nat} {c : Array Value} : CellsR γ (cs.ren τ) n c ↔ CellsR (γ.comp τ) cs n c := by
  unfold CellsR
  constructor
  · intro h i hi
    obtain ⟨x, v, h1, h2, h3, h4⟩ := h i hi
    rw [BV4.get_ren] at h1
    obtain ⟨y, hy, rfl⟩ := Option.map_eq_some_iff.1 h1
    exact ⟨y, v, hy, h2, by rwa [cellA_ren] at h3, (VR_ren y).1 h4⟩
  · intro h i hi
    obtain ⟨y, v, h1, h2, h3, h4⟩ := h i hi
    exact ⟨y.ren τ, v, by rw [BV4.get_ren, h1]; rfl, h2, by rw [cellA_ren]; exact h3, (VR_ren y).2 h4⟩
theorem EntR_ren {γ : Gh} {τ : Nat → Nat} : ∀ {l : List (AV × AV × Nat)} {m : List MapEntry}, EntR γ (renE τ l) m ↔ EntR (γ.comp τ) l m
  | [], m => Iff.rfl
  | x :: l, m => exists_congr fun e => exists_congr fun es => and_congr Iff.rfl (and_congr (VR_ren x.1) (and_congr (VR_ren x.2.1) (and_congr Iff.rfl EntR_ren)))
theorem ObR_ren {γ : Gh} {τ : Nat → Nat} {ver N : Nat} {o : Obj} : ∀ {ob : AO}, ob.plain = true → (ObR γ ver N o (ob.ren τ) ↔ ObR (γ.comp τ) ver N o ob)
  | .blk n cs, _ => by
    simp only [AO.ren, ObR]
    exact and_congr Iff.rfl (and_congr Iff.rfl (exists_congr fun c => exists_congr fun T => and_congr Iff.rfl (and_congr Iff.rfl CellsR_ren)))
  | .grow n cs lw, _ => by
    simp only [AO.ren, ObR]
    exact and_congr Iff.rfl (and_congr Iff.rfl (exists_congr fun c => exists_congr fun T => and_congr Iff.rfl (and_congr Iff.rfl (and_congr Iff.rfl (imp_congr Iff.rfl CellsR_ren)))))
  | .map es c, _ => by
    simp only [AO.ren, ObR]
    exact and_congr Iff.rfl (exists_congr fun es' => and_congr Iff.rfl EntR_ren)
  | .mit _ _ _ _, h => by cases h
  | .sit _ _ _, h => by cases h
  | .loop .., h => by cases h
  | .dfr _, h => by cases h
end Go.AB
/-
  MEMOS: what a theorem says of a call over a small memory is said of it inside any other.
-/
namespace Go.AB
variable {rv : AV} {rh : H}

/-! ### memories out of lists -/
noncomputable def fromL (l : List AO) : H → (H → Ans) → Ans :=
  List.rec (motive := fun _ => H → (H → Ans) → Ans) (fun h K => K h) (fun o _ ih h K => h.newK o fun _ h => ih h K) l
/-- The memory holds the list, and nothing else. -/
structure IsH (l : List AO) (h : H) : Prop where
  nx : h.nx = l.length
  get : ∀ a, h.get a = l[a]?
theorem fromL_ok : ∀ (l : List AO) (h : H) (K : H → Ans) (m : List AO), IsH m h → fromL l h K = .ok rv rh → ∃ h', K h' = .ok rv rh ∧ IsH (m ++ l) h'
  | [], h, K, m, hm, e => ⟨h, e, by simpa using hm⟩
  | o :: l, h, K, m, hm, e => by
    obtain ⟨h1, e1, hn, hg⟩ := H.newK_ok (show h.newK o (fun _ h => fromL l h K) = .ok rv rh from e)
    obtain ⟨h2, e2, hi⟩ := fromL_ok l h1 K (m ++ [o]) ⟨by rw [hn, hm.nx]; simp, fun a => by
      rw [hg, hm.get, hm.nx]
      by_cases ha : a = m.length
      · subst ha; simp
      · rw [if_neg ha]
        rcases Nat.lt_or_ge a m.length with h | h
        · rw [List.getElem?_append_left h]
        · rw [List.getElem?_eq_none h, List.getElem?_eq_none (by simp; omega)]⟩ e1
    exact ⟨h2, e2, by simpa using hi⟩
theorem isH_empty : IsH [] (⟨0, .e⟩ : H) := ⟨rfl, fun _ => rfl⟩

/-! ### a memo -/
/-- Where the number of an input's row is found: in a cell of an argument, or of a row that was found before. -/
inductive Bnd where
  | a (i c : Nat)
  | o (j c : Nat)
/-- The arguments and the rows that they lead to, ahead of the call; the result and these and the new rows behind it. -/
structure Memo where
  args : List AV
  obs0 : List AO
  v : AV
  obs1 : List AO
  bind : List Bnd
noncomputable def idA : AV → (Nat → Ans) → Ans := fun v K => match v with
  | .p a _ _ => K a
  | .sl a _ _ _ _ _ => K a
  | .m a => K a
  | _ => .err 282
noncomputable def cellAt (v : AV) (c : Nat) (K : AV → Ans) : Ans := match v with
  | .ag l => nthK l c K
  | v => K v
noncomputable def nthNK (l : List Nat) (n : Nat) (K : Nat → Ans) : Ans :=
  List.rec (motive := fun _ => Nat → (Nat → Ans) → Ans) (fun _ _ => .err 283) (fun x _ ih k K => Nat.rec (motive := fun _ => Ans) (K x) (fun m _ => ih m K) k) l n K
noncomputable def bindK (args : List AV) (h : H) (l : List Bnd) : List Nat → (List Nat → Ans) → Ans :=
  List.rec (motive := fun _ => List Nat → (List Nat → Ans) → Ans) (fun σ K => K σ)
    (fun b _ ih σ K => match b with
      | .a i c => nthK args i fun v => cellAt v c fun v => idA v fun a => ih (σ ++ [a]) K
      | .o j c => nthNK σ j fun a => h.getK a fun ob => ob.row (fun _ cs => BV4.getK cs c fun v => idA v fun a => ih (σ ++ [a]) K) (fun _ cs _ => BV4.getK cs c fun v => idA v fun a => ih (σ ++ [a]) K)) l
/-- The number of a row in the whole memory: those of the inputs as found, the others behind what lies there. -/
noncomputable def tauN (nx : Nat) (σ : List Nat) : Nat → Nat :=
  List.rec (motive := fun _ => Nat → Nat) (fun i => Nat.add nx i) (fun a _ ih i => Nat.rec (motive := fun _ => Nat) a (fun m _ => ih m) i) σ
noncomputable def distinctN (l : List Nat) : Bool := List.rec (motive := fun _ => Bool) true (fun x l ih => andB (notB (memN x l)) ih) l
/-- The same value, however it is built. -/
noncomputable def sameFn (f g : Fn) (K : Ans) : Ans := match f, g with
  | .func i, .func j => ifK (Nat.beq i j) K (.err 293)
  | _, _ => .err 293
noncomputable def eqVK (x : AV) : AV → Ans → Ans :=
  AV.rec (motive_1 := fun _ => AV → Ans → Ans) (motive_2 := fun _ => List AV → Ans → Ans)
    (fun b y K => sameC (.b b) y K (.err 292)) (fun k n y K => sameC (.i k n) y K (.err 292)) (fun n c y K => sameC (.s n c) y K (.err 292)) (fun y K => sameC .p0 y K (.err 292)) (fun a v o y K => sameC (.p a v o) y K (.err 292)) (fun y K => sameC .sl0 y K (.err 292))
    (fun a v o n es c y K => sameC (.sl a v o n es c) y K (.err 292)) (fun y K => sameC .m0 y K (.err 292)) (fun a y K => sameC (.m a) y K (.err 292))
    (fun f _ _ ih1 ih2 y K => match y with | .fn g a b => sameFn f g (ih1 a (ih2 b K)) | _ => .err 292) (fun y K => sameC .f0 y K (.err 292)) (fun t _ ih y K => match y with | .ifc u z => ifK (Nat.beq t u) (ih z K) (.err 292) | _ => .err 292) (fun y K => sameC .i0 y K (.err 292))
    (fun _ ih y K => match y with | .ag m => ih m K | _ => .err 292) (fun _ ih y K => match y with | .tu m => ih m K | _ => .err 292) (fun _ _ _ _ => .err 292) (fun _ _ _ => .err 292)
    (fun m K => match m with | [] => K | _ :: _ => .err 292) (fun _ _ ih1 ih2 m K => match m with | y :: m => ih1 y (ih2 m K) | [] => .err 292) x
noncomputable def eqLK (l : List AV) : List AV → Ans → Ans :=
  AV.rec_1 (motive_1 := fun _ => AV → Ans → Ans) (motive_2 := fun _ => List AV → Ans → Ans)
    (fun b y K => sameC (.b b) y K (.err 292)) (fun k n y K => sameC (.i k n) y K (.err 292)) (fun n c y K => sameC (.s n c) y K (.err 292)) (fun y K => sameC .p0 y K (.err 292)) (fun a v o y K => sameC (.p a v o) y K (.err 292)) (fun y K => sameC .sl0 y K (.err 292))
    (fun a v o n es c y K => sameC (.sl a v o n es c) y K (.err 292)) (fun y K => sameC .m0 y K (.err 292)) (fun a y K => sameC (.m a) y K (.err 292))
    (fun f _ _ ih1 ih2 y K => match y with | .fn g a b => sameFn f g (ih1 a (ih2 b K)) | _ => .err 292) (fun y K => sameC .f0 y K (.err 292)) (fun t _ ih y K => match y with | .ifc u z => ifK (Nat.beq t u) (ih z K) (.err 292) | _ => .err 292) (fun y K => sameC .i0 y K (.err 292))
    (fun _ ih y K => match y with | .ag m => ih m K | _ => .err 292) (fun _ ih y K => match y with | .tu m => ih m K | _ => .err 292) (fun _ _ _ _ => .err 292) (fun _ _ _ => .err 292)
    (fun m K => match m with | [] => K | _ :: _ => .err 292) (fun _ _ ih1 ih2 m K => match m with | y :: m => ih1 y (ih2 m K) | [] => .err 292) l
noncomputable def sameArgs : List AV → List AV → Ans → Ans
  | [], [], K => K
  | x :: l, y :: m, K => eqVK x y (sameArgs l m K)
  | _, _, _ => .err 284
noncomputable def sameBV (t : BV4) : BV4 → Ans → Ans :=
  BV4.rec (motive := fun _ => BV4 → Ans → Ans) (fun u K => match u with | .e => K | _ => .err 285)
    (fun x _ _ _ _ h0 h1 h2 h3 u K => match u with
      | .nd y c0 c1 c2 c3 => eqVK x y (h0 c0 (h1 c1 (h2 c2 (h3 c3 K))))
      | .e => .err 285) t
noncomputable def sameEs : List (AV × AV × Nat) → List (AV × AV × Nat) → Ans → Ans
  | [], [], K => K
  | x :: l, y :: m, K => eqVK x.1 y.1 (eqVK x.2.1 y.2.1 (ifK (Nat.beq x.2.2 y.2.2) (sameEs l m K) (.err 286)))
  | _, _, _ => .err 286
noncomputable def sameAO (x y : AO) (K : Ans) : Ans := match x, y with
  | .blk n cs, .blk m ds => ifK (Nat.beq n m) (sameBV cs ds K) (.err 287)
  | .grow n cs w, .grow m ds w' => ifK (andB (Nat.beq n m) (Nat.beq w w')) (sameBV cs ds K) (.err 287)
  | .map es c, .map es' c' => ifK (Nat.beq c c') (sameEs es es' K) (.err 287)
  | _, _ => .err 287
noncomputable def checkObs (h : H) (τ : Nat → Nat) : List Nat → List AO → Ans → Ans
  | [], [], K => K
  | a :: σ, o :: os, K => h.getK a fun ob => renOK τ o fun ob' => sameAO ob ob' (checkObs h τ σ os K)
  | _, _, _ => .err 288
noncomputable def newObs (τ : Nat → Nat) : List AO → H → (H → Ans) → Ans
  | [], h, K => K h
  | o :: os, h, K => renOK τ o fun ob => h.newK ob fun _ h => newObs τ os h K
noncomputable def applyObs (τ : Nat → Nat) : List Nat → List AO → H → (H → Ans) → Ans
  | [], os, h, K => newObs τ os h K
  | a :: σ, o :: os, h, K => renOK τ o fun ob => h.putK a ob fun h => applyObs τ σ os h K
  | _ :: _, [], _, _ => .err 289
noncomputable def nxK (h : H) (K : Nat → Ans) : Ans := H.rec (motive := fun _ => (Nat → Ans) → Ans) (fun nx _ K => K nx) h K
noncomputable def memoA (M : Memo) (args : List AV) (h : H) (K : KV) : Ans :=
  bindK args h M.bind [] fun σ => ifK (distinctN σ) (nxK h fun nx =>
    renLK (tauN nx σ) M.args fun as => sameArgs args as (checkObs h (tauN nx σ) σ M.obs0 (applyObs (tauN nx σ) σ M.obs1 h fun h' => renVK (tauN nx σ) M.v fun v => K v h'))) (.err 290)

/-! ### what these do -/
variable [Base]
theorem nthK_some : ∀ (l : List AV) (n : Nat) (K : AV → Ans), nthK l n K = .ok rv rh → ∃ x, K x = .ok rv rh
  | [], n, K, e => by cases e
  | x :: l, 0, K, e => ⟨x, e⟩
  | x :: l, n + 1, K, e => nthK_some l n K e
theorem nthNK_some : ∀ (l : List Nat) (n : Nat) (K : Nat → Ans), nthNK l n K = .ok rv rh → ∃ x, K x = .ok rv rh
  | [], n, K, e => by cases e
  | x :: l, 0, K, e => ⟨x, e⟩
  | x :: l, n + 1, K, e => nthNK_some l n K e
theorem cellAt_some {v : AV} {c : Nat} {K : AV → Ans} (e : cellAt v c K = .ok rv rh) : ∃ x, K x = .ok rv rh := by
  cases v <;> first | exact nthK_some _ _ _ e | exact ⟨_, e⟩
theorem idA_some {v : AV} {K : Nat → Ans} (e : idA v K = .ok rv rh) : ∃ x, K x = .ok rv rh := by
  cases v <;> first | exact ⟨_, e⟩ | cases e
theorem bindK_some (args : List AV) (h : H) : ∀ (l : List Bnd) (σ : List Nat) (K : List Nat → Ans), bindK args h l σ K = .ok rv rh → ∃ σ', K σ' = .ok rv rh
  | [], σ, K, e => ⟨σ, e⟩
  | .a i c :: l, σ, K, e => by
    obtain ⟨v, e1⟩ := nthK_some _ _ _ (show nthK args i (fun v => cellAt v c fun v => idA v fun a => bindK args h l (σ ++ [a]) K) = .ok rv rh from e)
    obtain ⟨v, e2⟩ := cellAt_some e1
    obtain ⟨a, e3⟩ := idA_some e2
    exact bindK_some args h l _ K e3
  | .o j c :: l, σ, K, e => by
    obtain ⟨a, e1⟩ := nthNK_some _ _ _ (show nthNK σ j (fun a => h.getK a fun ob => ob.row (fun _ cs => BV4.getK cs c fun v => idA v fun a => bindK args h l (σ ++ [a]) K) (fun _ cs _ => BV4.getK cs c fun v => idA v fun a => bindK args h l (σ ++ [a]) K)) = .ok rv rh from e)
    obtain ⟨ob, _, e2⟩ := H.getK_ok e1
    have key : ∀ cs : BV4, BV4.getK cs c (fun v => idA v fun a => bindK args h l (σ ++ [a]) K) = .ok rv rh → ∃ σ', K σ' = .ok rv rh := fun cs e => by
      rw [BV4.getK_eq] at e
      cases hg : cs.get c with
      | none => rw [hg] at e; cases e
      | some v =>
        rw [hg] at e
        obtain ⟨a, e3⟩ := idA_some (show idA v (fun a => bindK args h l (σ ++ [a]) K) = .ok rv rh from e)
        exact bindK_some args h l _ K e3
    rcases row_ok e2 with ⟨n, cs, _, e3⟩ | ⟨n, cs, lw, _, e3⟩
    · exact key cs e3
    · exact key cs e3
theorem tauN_eq (nx : Nat) : ∀ (σ : List Nat) (i : Nat), tauN nx σ i = (match σ[i]? with | some a => a | none => nx + (i - σ.length))
  | [], i => by simp; rfl
  | a :: σ, 0 => rfl
  | a :: σ, i + 1 => by
    show tauN nx σ i = _
    rw [tauN_eq nx σ i]
    simp only [List.getElem?_cons_succ, List.length_cons, Nat.add_sub_add_right]
theorem memN_mem {t : Nat} : ∀ {l : List Nat}, memN t l = true ↔ t ∈ l
  | [] => by constructor <;> intro h <;> cases h
  | x :: l => by
    show orB (Nat.beq x t) (memN t l) = true ↔ _
    rw [orB_eq, Bool.or_eq_true, memN_mem, List.mem_cons]
    exact or_congr ⟨fun h => (Nat.eq_of_beq_eq_true h).symm, fun h => by subst h; simp⟩ Iff.rfl
theorem distinctN_nodup : ∀ {l : List Nat}, distinctN l = true → l.Nodup
  | [], _ => List.nodup_nil
  | x :: l, h => by
    have h' : andB (notB (memN x l)) (distinctN l) = true := h
    rw [andB_eq, notB_eq, Bool.and_eq_true, Bool.not_eq_true'] at h'
    refine List.nodup_cons.2 ⟨fun hx => ?_, distinctN_nodup h'.2⟩
    rw [memN_mem.2 hx] at h'
    cases h'.1
theorem sameFn_ok {f g : Fn} {K : Ans} (e : sameFn f g K = .ok rv rh) : f = g ∧ K = .ok rv rh := by
  unfold sameFn at e
  split at e
  · rw [ifK_eq] at e
    split at e
    · rename_i h; exact ⟨by rw [Nat.eq_of_beq_eq_true h], e⟩
    · cases e
  · cases e
mutual
theorem eqVK_ok : ∀ (x : AV) {y : AV} {K : Ans}, eqVK x y K = .ok rv rh → x = y ∧ K = .ok rv rh
  | .b b, y, K, e => sameC_ok (by simp) (show sameC (.b b) y K (.err 292) = .ok rv rh from e)
  | .i k n, y, K, e => sameC_ok (by simp) (show sameC (.i k n) y K (.err 292) = .ok rv rh from e)
  | .s n c, y, K, e => sameC_ok (by simp) (show sameC (.s n c) y K (.err 292) = .ok rv rh from e)
  | .p0, y, K, e => sameC_ok (by simp) (show sameC .p0 y K (.err 292) = .ok rv rh from e)
  | .p a v o, y, K, e => sameC_ok (by simp) (show sameC (.p a v o) y K (.err 292) = .ok rv rh from e)
  | .sl0, y, K, e => sameC_ok (by simp) (show sameC .sl0 y K (.err 292) = .ok rv rh from e)
  | .sl a v o n es c, y, K, e => sameC_ok (by simp) (show sameC (.sl a v o n es c) y K (.err 292) = .ok rv rh from e)
  | .m0, y, K, e => sameC_ok (by simp) (show sameC .m0 y K (.err 292) = .ok rv rh from e)
  | .m a, y, K, e => sameC_ok (by simp) (show sameC (.m a) y K (.err 292) = .ok rv rh from e)
  | .fn f a b, y, K, e => by
    cases y with
    | fn g c d =>
      obtain ⟨h1, e⟩ := sameFn_ok (show sameFn f g (eqLK a c (eqLK b d K)) = .ok rv rh from e)
      obtain ⟨h2, e⟩ := eqLK_ok a e
      obtain ⟨h3, e⟩ := eqLK_ok b e
      exact ⟨by rw [h1, h2, h3], e⟩
    | _ => cases e
  | .f0, y, K, e => sameC_ok (by simp) (show sameC .f0 y K (.err 292) = .ok rv rh from e)
  | .ifc t x, y, K, e => by
    cases y with
    | ifc u z =>
      have e : ifK (Nat.beq t u) (eqVK x z K) (.err 292) = .ok rv rh := e
      rw [ifK_eq] at e
      split at e
      · rename_i h
        obtain ⟨h2, e⟩ := eqVK_ok x e
        exact ⟨by rw [Nat.eq_of_beq_eq_true h, h2], e⟩
      · cases e
    | _ => cases e
  | .i0, y, K, e => sameC_ok (by simp) (show sameC .i0 y K (.err 292) = .ok rv rh from e)
  | .ag l, y, K, e => by
    cases y with
    | ag m =>
      obtain ⟨h, e⟩ := eqLK_ok l (show eqLK l m K = .ok rv rh from e)
      exact ⟨by rw [h], e⟩
    | _ => cases e
  | .tu l, y, K, e => by
    cases y with
    | tu m =>
      obtain ⟨h, e⟩ := eqLK_ok l (show eqLK l m K = .ok rv rh from e)
      exact ⟨by rw [h], e⟩
    | _ => cases e
  | .gp _ _, y, K, e => by cases e
  | .yl _, y, K, e => by cases e
theorem eqLK_ok : ∀ (l : List AV) {m : List AV} {K : Ans}, eqLK l m K = .ok rv rh → l = m ∧ K = .ok rv rh
  | [], m, K, e => by
    cases m with
    | nil => exact ⟨rfl, e⟩
    | cons => cases e
  | x :: l, m, K, e => by
    cases m with
    | nil => cases e
    | cons y m =>
      obtain ⟨h1, e⟩ := eqVK_ok x (show eqVK x y (eqLK l m K) = .ok rv rh from e)
      obtain ⟨h2, e⟩ := eqLK_ok l e
      exact ⟨by rw [h1, h2], e⟩
end
theorem sameArgs_ok : ∀ {l m : List AV} {K : Ans}, sameArgs l m K = .ok rv rh → l = m ∧ K = .ok rv rh
  | [], [], K, e => ⟨rfl, e⟩
  | x :: l, y :: m, K, e => by
    obtain ⟨h1, e1⟩ := eqVK_ok _ (show eqVK x y (sameArgs l m K) = .ok rv rh from e)
    obtain ⟨h2, e2⟩ := sameArgs_ok e1
    exact ⟨by rw [h1, h2], e2⟩
  | [], _ :: _, K, e => by cases e
  | _ :: _, [], K, e => by cases e
theorem sameBV_ok (t : BV4) : ∀ {u : BV4} {K : Ans}, sameBV t u K = .ok rv rh → t = u ∧ K = .ok rv rh := by
  induction t with
  | e =>
    intro u K e
    cases u with
    | e => exact ⟨rfl, e⟩
    | nd => cases e
  | nd x a0 a1 a2 a3 h0 h1 h2 h3 =>
    intro u K e
    cases u with
    | e => cases e
    | nd y c0 c1 c2 c3 =>
      obtain ⟨g, e⟩ := eqVK_ok _ (show eqVK x y (sameBV a0 c0 (sameBV a1 c1 (sameBV a2 c2 (sameBV a3 c3 K)))) = .ok rv rh from e)
      obtain ⟨g0, e⟩ := h0 e
      obtain ⟨g1, e⟩ := h1 e
      obtain ⟨g2, e⟩ := h2 e
      obtain ⟨g3, e⟩ := h3 e
      exact ⟨by rw [g, g0, g1, g2, g3], e⟩
theorem sameEs_ok : ∀ {l m : List (AV × AV × Nat)} {K : Ans}, sameEs l m K = .ok rv rh → l = m ∧ K = .ok rv rh
  | [], [], K, e => ⟨rfl, e⟩
  | (a, b, c) :: l, (a', b', c') :: m, K, e => by
    obtain ⟨h1, e⟩ := eqVK_ok _ (show eqVK a a' (eqVK b b' (ifK (Nat.beq c c') (sameEs l m K) (.err 286))) = .ok rv rh from e)
    obtain ⟨h2, e⟩ := eqVK_ok _ e
    rw [ifK_eq] at e
    split at e
    · rename_i h3
      obtain ⟨h4, e⟩ := sameEs_ok e
      exact ⟨by rw [h1, h2, Nat.eq_of_beq_eq_true h3, h4], e⟩
    · cases e
  | [], _ :: _, K, e => by cases e
  | _ :: _, [], K, e => by cases e
theorem sameAO_ok {x y : AO} {K : Ans} (e : sameAO x y K = .ok rv rh) : x = y ∧ K = .ok rv rh := by
  unfold sameAO at e
  split at e
  · rw [ifK_eq] at e
    split at e
    · rename_i h; obtain ⟨g, e⟩ := sameBV_ok _ e; exact ⟨by rw [Nat.eq_of_beq_eq_true h, g], e⟩
    · cases e
  · rw [ifK_eq] at e
    split at e
    · rename_i h
      rw [andB_eq, Bool.and_eq_true] at h
      obtain ⟨g, e⟩ := sameBV_ok _ e
      exact ⟨by rw [Nat.eq_of_beq_eq_true h.1, Nat.eq_of_beq_eq_true h.2, g], e⟩
    · cases e
  · rw [ifK_eq] at e
    split at e
    · rename_i h; obtain ⟨g, e⟩ := sameEs_ok e; exact ⟨by rw [Nat.eq_of_beq_eq_true h, g], e⟩
    · cases e
  · cases e
theorem checkObs_ok {h : H} {τ : Nat → Nat} : ∀ {σ : List Nat} {os : List AO} {K : Ans}, checkObs h τ σ os K = .ok rv rh →
    K = .ok rv rh ∧ σ.length = os.length ∧ ∀ (i a : Nat) (o : AO), σ[i]? = some a → os[i]? = some o → h.get a = some (o.ren τ) ∧ o.plain = true
  | [], [], K, e => ⟨e, rfl, fun i a o h1 _ => by simp at h1⟩
  | a :: σ, o :: os, K, e => by
    obtain ⟨ob, hg, e⟩ := H.getK_ok (show h.getK a (fun ob => renOK τ o fun ob' => sameAO ob ob' (checkObs h τ σ os K)) = .ok rv rh from e)
    obtain ⟨hp, e⟩ := renOK_ok e
    obtain ⟨he, e⟩ := sameAO_ok e
    obtain ⟨e, hl, hs⟩ := checkObs_ok e
    refine ⟨e, by simp [hl], fun i b o' h1 h2 => ?_⟩
    cases i with
    | zero => simp at h1 h2; subst h1; subst h2; exact ⟨by rw [hg, he], hp⟩
    | succ i => exact hs i b o' (by simpa using h1) (by simpa using h2)
  | [], _ :: _, K, e => by cases e
  | _ :: _, [], K, e => by cases e
theorem newObs_ok {τ : Nat → Nat} : ∀ {os : List AO} {h : H} {K : H → Ans}, newObs τ os h K = .ok rv rh →
    ∃ h', K h' = .ok rv rh ∧ h'.nx = h.nx + os.length ∧ (∀ o ∈ os, o.plain = true) ∧ (∀ b, b < h.nx → h'.get b = h.get b) ∧ (∀ i o, os[i]? = some o → h'.get (h.nx + i) = some (o.ren τ)) ∧ ∀ b, h.nx + os.length ≤ b → h'.get b = h.get b
  | [], h, K, e => ⟨h, e, rfl, fun o ho => (by cases ho), fun b _ => rfl, fun i o ho => (by simp at ho), fun b _ => rfl⟩
  | o :: os, h, K, e => by
    obtain ⟨hp, e⟩ := renOK_ok (show renOK τ o (fun ob => h.newK ob fun _ h => newObs τ os h K) = .ok rv rh from e)
    obtain ⟨h1, e, hn, hg⟩ := H.newK_ok e
    obtain ⟨h2, e, hn2, hp2, ho2, hs2, hb2⟩ := newObs_ok e
    refine ⟨h2, e, by rw [hn2, hn]; simp; omega, fun x hx => ?_, fun b hb => ?_, fun i x hx => ?_, fun b hb => ?_⟩
    · rcases List.mem_cons.1 hx with rfl | hx
      · exact hp
      · exact hp2 x hx
    · rw [ho2 b (by omega), hg, if_neg (by omega)]
    · cases i with
      | zero => simp at hx; subst hx; rw [ho2 _ (by omega), hg]; simp
      | succ i => have := hs2 i x (by simpa using hx); rw [← this, hn]; congr 1; omega
    · rw [hb2 b (by rw [hn]; simp at hb; omega), hg, if_neg (by simp at hb; omega)]
theorem applyObs_ok {τ : Nat → Nat} : ∀ {σ : List Nat} {os : List AO} {h : H} {K : H → Ans}, σ.Nodup → (∀ a ∈ σ, a < h.nx) → applyObs τ σ os h K = .ok rv rh →
    ∃ h', K h' = .ok rv rh ∧ σ.length ≤ os.length ∧ h'.nx = h.nx + (os.length - σ.length) ∧ (∀ o ∈ os, o.plain = true) ∧
      (∀ (i a : Nat) (o : AO), σ[i]? = some a → os[i]? = some o → h'.get a = some (o.ren τ)) ∧ (∀ i o, σ.length ≤ i → os[i]? = some o → h'.get (h.nx + (i - σ.length)) = some (o.ren τ)) ∧
      (∀ b, b < h.nx → b ∉ σ → h'.get b = h.get b) ∧ ∀ b, h.nx + (os.length - σ.length) ≤ b → h'.get b = h.get b
  | [], os, h, K, _, _, e => by
    obtain ⟨h', e, hn, hp, ho, hs, hb⟩ := newObs_ok (show newObs τ os h K = .ok rv rh from e)
    exact ⟨h', e, Nat.zero_le _, by simpa using hn, hp, fun i a o h1 _ => by simp at h1, fun i o _ h1 => by simpa using hs i o h1, fun b hb _ => ho b hb, fun b h1 => hb b (by simpa using h1)⟩
  | a :: σ, [], h, K, _, _, e => by cases e
  | a :: σ, o :: os, h, K, hd, hlt, e => by
    obtain ⟨hp, e⟩ := renOK_ok (show renOK τ o (fun ob => h.putK a ob fun h => applyObs τ σ os h K) = .ok rv rh from e)
    obtain ⟨h1, e, hn, hg⟩ := H.putK_ok e
    have hd' := List.nodup_cons.1 hd
    have ha : a < h.nx := hlt a (List.mem_cons_self)
    obtain ⟨h2, e, hl2, hn2, hp2, hi2, hs2, ho2, hb2⟩ := applyObs_ok hd'.2 (fun b hb => by rw [hn]; exact hlt b (List.mem_cons_of_mem _ hb)) e
    refine ⟨h2, e, by simp; omega, by rw [hn2, hn]; simp, fun x hx => ?_, fun i b x h1' h2' => ?_, fun i x hle hx => ?_, fun b hb hnb => ?_, fun b hb => ?_⟩
    · rcases List.mem_cons.1 hx with rfl | hx
      · exact hp
      · exact hp2 x hx
    · cases i with
      | zero =>
        simp at h1' h2'; subst h1'; subst h2'
        rw [ho2 _ (by rw [hn]; exact ha) hd'.1, hg, if_pos rfl]
      | succ i => exact hi2 i b x (by simpa using h1') (by simpa using h2')
    · cases i with
      | zero => simp at hle
      | succ i =>
        have := hs2 i x (by simpa using hle) (by simpa using hx)
        rw [← this, hn]; congr 1; simp
    · rw [ho2 b (by rw [hn]; exact hb) (fun h => hnb (List.mem_cons_of_mem _ h)), hg, if_neg (fun h : b = a => hnb (by rw [h]; exact List.mem_cons_self))]
    · rw [hb2 b (by rw [hn]; simpa using hb), hg, if_neg (by omega)]
end Go.AB
/-
  MEMOS: the use of a memo is sound; a run of the evaluator makes one.
-/
namespace Go.AB
variable [Base]
variable {rv : AV} {rh : H}

theorem tauN_lt {nx : Nat} {σ : List Nat} {i a : Nat} (h : σ[i]? = some a) : tauN nx σ i = a := by rw [tauN_eq, h]
theorem tauN_ge {nx : Nat} {σ : List Nat} {i : Nat} (h : σ.length ≤ i) : tauN nx σ i = nx + (i - σ.length) := by rw [tauN_eq, List.getElem?_eq_none h]
theorem tauN_inj {nx : Nat} {σ : List Nat} (hd : σ.Nodup) (hlt : ∀ a ∈ σ, a < nx) : ∀ i j, tauN nx σ i = tauN nx σ j → i = j := by
  intro i j h
  rcases Nat.lt_or_ge i σ.length with hi | hi <;> rcases Nat.lt_or_ge j σ.length with hj | hj
  · rw [tauN_lt (List.getElem?_eq_getElem hi), tauN_lt (List.getElem?_eq_getElem hj)] at h
    exact (List.getElem_inj hd).1 h
  · rw [tauN_lt (List.getElem?_eq_getElem hi), tauN_ge hj] at h
    have := hlt _ (List.getElem_mem hi)
    omega
  · rw [tauN_ge hi, tauN_lt (List.getElem?_eq_getElem hj)] at h
    have := hlt _ (List.getElem_mem hj)
    omega
  · rw [tauN_ge hi, tauN_ge hj] at h
    omega
open Classical in
/-- The map behind a memo: where the memo's numbers lead, its own; elsewhere the one of before. -/
noncomputable def Gh.join (γ γ1 : Gh) (τ : Nat → Nat) : Gh := fun a v => if h : ∃ i, τ i = a then γ1 h.choose v else γ a v
theorem Gh.join_in {γ γ1 : Gh} {τ : Nat → Nat} (hi : ∀ i j, τ i = τ j → i = j) (i v : Nat) : γ.join γ1 τ (τ i) v = γ1 i v := by
  have h : ∃ j, τ j = τ i := ⟨i, rfl⟩
  unfold Gh.join
  rw [dif_pos h, hi _ _ h.choose_spec]
theorem Gh.join_out {γ γ1 : Gh} {τ : Nat → Nat} {a : Nat} (h : ∀ i, τ i ≠ a) (v : Nat) : γ.join γ1 τ a v = γ a v := by
  unfold Gh.join
  rw [dif_neg (fun ⟨i, e⟩ => h i e)]
theorem Gh.join_comp {γ γ1 : Gh} {τ : Nat → Nat} (hi : ∀ i j, τ i = τ j → i = j) : (γ.join γ1 τ).comp τ = γ1 := by
  funext i v
  exact Gh.join_in hi i v

/-- **A memo's use is sound.** -/
theorem memoA_ok {P : Program} {f : FuncId} {M : Memo} {h0 h1 : H} (i0 : IsH M.obs0 h0) (i1 : IsH M.obs1 h1) (hM : CallSpec P f M.args h0 M.v h1) {args : List AV} {h : H} {K : KV}
    (e : memoA M args h K = .ok rv rh) : ∃ v h', K v h' = .ok rv rh ∧ ((∃ γ w, HR γ h w) → CallSpec P f args h v h') := by
  unfold memoA at e
  obtain ⟨σ, e⟩ := bindK_some args h _ _ _ e
  rw [ifK_eq] at e
  split at e
  · rename_i hd
    have hd := distinctN_nodup hd
    have e : renLK (tauN h.nx σ) M.args (fun as => sameArgs args as (checkObs h (tauN h.nx σ) σ M.obs0 (applyObs (tauN h.nx σ) σ M.obs1 h fun h' => renVK (tauN h.nx σ) M.v fun v => K v h'))) = .ok rv rh := e
    rw [renLK_eq] at e
    obtain ⟨ha, e⟩ := sameArgs_ok e
    obtain ⟨e, hl, hc⟩ := checkObs_ok e
    have hfin : (∃ γ w, HR γ h w) → ∀ a ∈ σ, a < h.nx := fun ⟨γ, w, hr⟩ a hm => by
      obtain ⟨i, hi, rfl⟩ := List.mem_iff_getElem.1 hm
      have ho : M.obs0[i]? = some (M.obs0[i]'(hl ▸ hi)) := List.getElem?_eq_getElem _
      exact hr.wf _ _ (hc i _ _ (List.getElem?_eq_getElem hi) ho).1
    by_cases hex : ∃ γ w, HR γ h w
    · have hlt := hfin hex
      obtain ⟨h', e, hle, hn, hp, hin, hnew, hold, hback⟩ := applyObs_ok hd hlt e
      rw [renVK_eq] at e
      refine ⟨_, h', e, fun _ => ⟨hM.1, fun γ vs w hv hr => ?_⟩⟩
      have τi := tauN_inj hd hlt
      have hk : h0.nx = σ.length := by rw [i0.nx, hl]
      -- the memory that the memo speaks of, in this one
      have hv0 : VRL (γ.comp (tauN h.nx σ)) M.args vs.toList := (VRL_ren M.args).1 (ha ▸ hv)
      have hin0 : ∀ i v x, γ (tauN h.nx σ i) v = some x → i < σ.length := fun i v x hx => by
        rcases Nat.lt_or_ge i σ.length with h1 | h1
        · exact h1
        · have := hr.lt _ _ _ hx
          rw [tauN_ge h1] at this
          omega
      have hr0 : HR (γ.comp (tauN h.nx σ)) h0 w := by
        refine ⟨fun i v B N hx => ?_, fun i v B N j v' N' h1 h2 => τi _ _ (hr.inj _ _ _ _ _ _ _ h1 h2), fun i v x hx => by rw [hk]; exact hin0 i v x hx, fun i ob hx => ?_, fun B o hb => ⟨(hr.base B o hb).1, fun i v N hx => (hr.base B o hb).2 _ _ _ hx⟩⟩
        · have hi := hin0 i v _ hx
          obtain ⟨ob, o, h1, h2, h3⟩ := hr.ob _ _ _ _ hx
          have ho : M.obs0[i]? = some (M.obs0[i]'(hl ▸ hi)) := List.getElem?_eq_getElem _
          obtain ⟨hg, hpl⟩ := hc i _ _ (List.getElem?_eq_getElem hi) ho
          rw [tauN_lt (List.getElem?_eq_getElem hi), hg] at h1
          cases h1
          exact ⟨_, o, by rw [i0.get]; exact ho, h2, (ObR_ren hpl).1 h3⟩
        · rw [i0.get] at hx
          rw [i0.nx]
          exact (List.getElem?_eq_some_iff.1 hx).1
      refine CallsIn.mono (hM.2 _ vs w hv0 hr0) ?_
      rintro e' w' ⟨u, γ1, rfl, hu, hx, hr1⟩
      have hcomp := Gh.join_comp (γ := γ) (γ1 := γ1) τi
      have hmono : γ.le (γ.join γ1 (tauN h.nx σ)) := fun a v x hxx => by
        by_cases hrg : ∃ i, tauN h.nx σ i = a
        · obtain ⟨i, rfl⟩ := hrg
          rw [Gh.join_in τi]
          exact hx.mono _ _ _ hxx
        · rw [Gh.join_out (fun i hi => hrg ⟨i, hi⟩)]
          exact hxx
      have hold' : ∀ a v B N, γ a v = some (B, N) → B < w.heap.size := fun a v B N hxx => by
        obtain ⟨_, o', _, h2, _⟩ := hr.ob a v B N hxx
        exact (Array.getElem?_eq_some_iff.1 h2).1
      have hfresh : ∀ i v B N, γ1 i v = some (B, N) → (∃ v0 N0, γ (tauN h.nx σ i) v0 = some (B, N0)) ∨ w.heap.size ≤ B := hx.fresh
      have hob1 : ∀ i, i < M.obs1.length → ∀ o, M.obs1[i]? = some o → h'.get (tauN h.nx σ i) = some (o.ren (tauN h.nx σ)) := fun i hi o ho => by
        rcases Nat.lt_or_ge i σ.length with h1 | h1
        · rw [tauN_lt (List.getElem?_eq_getElem h1)]
          exact hin i _ o (List.getElem?_eq_getElem h1) ho
        · rw [tauN_ge h1]
          exact hnew i o h1 ho
      have hnotin : ∀ a, (∀ i, tauN h.nx σ i ≠ a) → a < h.nx ∧ a ∉ σ := fun a hno => by
        constructor
        · rcases Nat.lt_or_ge a h.nx with h1 | h1
          · exact h1
          · exact absurd (by rw [tauN_ge (by omega)]; omega) (hno (σ.length + (a - h.nx)))
        · intro hm
          obtain ⟨i, hi, rfl⟩ := List.mem_iff_getElem.1 hm
          exact hno i (tauN_lt (List.getElem?_eq_getElem hi))
      refine ⟨u, γ.join γ1 (tauN h.nx σ), rfl, (VR_ren M.v).2 (by rw [hcomp]; exact hu), ⟨hmono, fun a v B N hxx => ?_, by omega, fun a hax hno => ?_, fun B hB hno => ?_, hx.wle, hx.still⟩, ⟨fun a v B N hxx => ?_, fun a v B N a' v' N' e1 e2 => ?_, fun a v x hxx => ?_, fun a ob hxx => ?_, fun B o hb => ?_⟩⟩
      · by_cases hrg : ∃ i, tauN h.nx σ i = a
        · obtain ⟨i, rfl⟩ := hrg
          rw [Gh.join_in τi] at hxx
          exact hfresh i v B N hxx
        · rw [Gh.join_out (fun i hi => hrg ⟨i, hi⟩)] at hxx
          exact .inl ⟨_, _, hxx⟩
      · by_cases hrg : ∃ i, tauN h.nx σ i = a
        · obtain ⟨i, rfl⟩ := hrg
          rcases Nat.lt_or_ge i σ.length with h1 | h1
          · obtain ⟨g1, g2⟩ := hx.aold i (by omega) (fun v => hno v)
            refine ⟨?_, fun v => by rw [Gh.join_in τi]; exact g2 v⟩
            have ho : M.obs0[i]? = some (M.obs0[i]'(hl ▸ h1)) := List.getElem?_eq_getElem _
            have hc' := (hc i _ _ (List.getElem?_eq_getElem h1) ho).1
            have ho1 : M.obs1[i]? = some (M.obs0[i]'(hl ▸ h1)) := by rw [← i1.get, g1, i0.get]; exact ho
            rw [hob1 i (by omega) _ ho1, tauN_lt (List.getElem?_eq_getElem h1), hc']
          · rw [tauN_ge h1] at hax; omega
        · have hno' : ∀ i, tauN h.nx σ i ≠ a := fun i hi => hrg ⟨i, hi⟩
          obtain ⟨q1, q2⟩ := hnotin a hno'
          exact ⟨hold a q1 q2, fun v => by rw [Gh.join_out hno']; exact hno v⟩
      · exact hx.wold B hB fun i v N hxx => hno _ _ _ hxx
      · by_cases hrg : ∃ i, tauN h.nx σ i = a
        · obtain ⟨i, rfl⟩ := hrg
          rw [Gh.join_in τi] at hxx
          obtain ⟨ob, o, g1, g2, g3⟩ := hr1.ob i v B N hxx
          rw [i1.get] at g1
          have hi : i < M.obs1.length := (List.getElem?_eq_some_iff.1 g1).1
          have hpl : ob.plain = true := hp ob (List.mem_of_getElem? g1)
          exact ⟨_, o, hob1 i hi ob g1, g2, (ObR_ren hpl).2 (by rw [hcomp]; exact g3)⟩
        · have hno' : ∀ i, tauN h.nx σ i ≠ a := fun i hi => hrg ⟨i, hi⟩
          obtain ⟨q1, q2⟩ := hnotin a hno'
          rw [Gh.join_out hno'] at hxx
          obtain ⟨ob, o, g1, g2, g3⟩ := hr.ob a v B N hxx
          refine ⟨ob, o, by rw [hold a q1 q2, g1], ?_, g3.mono hmono⟩
          rw [← g2]
          exact hx.wold B (hold' _ _ _ _ hxx) fun i v' N' hyy => hno' i (hr.inj _ _ _ _ _ _ _ hyy hxx)
      · by_cases hrg : ∃ i, tauN h.nx σ i = a <;> by_cases hrg' : ∃ i, tauN h.nx σ i = a'
        · obtain ⟨i, rfl⟩ := hrg
          obtain ⟨j, rfl⟩ := hrg'
          rw [Gh.join_in τi] at e1 e2
          rw [hr1.inj _ _ _ _ _ _ _ e1 e2]
        · obtain ⟨i, rfl⟩ := hrg
          have hno' : ∀ i, tauN h.nx σ i ≠ a' := fun i hi => hrg' ⟨i, hi⟩
          rw [Gh.join_in τi] at e1
          rw [Gh.join_out hno'] at e2
          rcases hfresh i v B N e1 with ⟨v0, N0, e0⟩ | hB
          · exact hr.inj _ _ _ _ _ _ _ e0 e2
          · have := hold' _ _ _ _ e2; omega
        · obtain ⟨j, rfl⟩ := hrg'
          have hno' : ∀ i, tauN h.nx σ i ≠ a := fun i hi => hrg ⟨i, hi⟩
          rw [Gh.join_in τi] at e2
          rw [Gh.join_out hno'] at e1
          rcases hfresh j v' B N' e2 with ⟨v0, N0, e0⟩ | hB
          · exact hr.inj _ _ _ _ _ _ _ e1 e0
          · have := hold' _ _ _ _ e1; omega
        · rw [Gh.join_out (fun i hi => hrg ⟨i, hi⟩)] at e1
          rw [Gh.join_out (fun i hi => hrg' ⟨i, hi⟩)] at e2
          exact hr.inj _ _ _ _ _ _ _ e1 e2
      · by_cases hrg : ∃ i, tauN h.nx σ i = a
        · obtain ⟨i, rfl⟩ := hrg
          rw [Gh.join_in τi] at hxx
          have hi := hr1.lt _ _ _ hxx
          rw [i1.nx] at hi
          rcases Nat.lt_or_ge i σ.length with h1 | h1
          · rw [tauN_lt (List.getElem?_eq_getElem h1)]
            have := hlt _ (List.getElem_mem h1)
            omega
          · rw [tauN_ge h1]; omega
        · rw [Gh.join_out (fun i hi => hrg ⟨i, hi⟩)] at hxx
          have := hr.lt _ _ _ hxx
          omega
      · rcases Nat.lt_or_ge a (h.nx + (M.obs1.length - σ.length)) with h1 | h1
        · omega
        · rw [hback a h1] at hxx
          have := hr.wf _ _ hxx
          omega
      · obtain ⟨b1, b2⟩ := hr1.base B o hb
        refine ⟨b1, fun a v N hxx => ?_⟩
        by_cases hrg : ∃ i, tauN h.nx σ i = a
        · obtain ⟨i, rfl⟩ := hrg
          rw [Gh.join_in τi] at hxx
          exact b2 _ _ _ hxx
        · rw [Gh.join_out (fun i hi => hrg ⟨i, hi⟩)] at hxx
          exact (hr.base B o hb).2 _ _ _ hxx
    · -- no memory is like this one: nothing is asked
      have some1 : ∀ {τ : Nat → Nat} {os : List AO} {h : H} {K : H → Ans}, newObs τ os h K = .ok rv rh → ∃ h', K h' = .ok rv rh := fun e => by
        obtain ⟨h', e, _⟩ := newObs_ok e
        exact ⟨h', e⟩
      have some2 : ∀ {τ : Nat → Nat} (σ : List Nat) (os : List AO) (h : H) (K : H → Ans), applyObs τ σ os h K = .ok rv rh → ∃ h', K h' = .ok rv rh := by
        intro τ σ
        induction σ with
        | nil => intro os h K e; exact some1 (show newObs τ os h K = .ok rv rh from e)
        | cons a σ ih =>
          intro os h K e
          cases os with
          | nil => cases e
          | cons o os =>
            obtain ⟨_, e⟩ := renOK_ok (show renOK τ o (fun ob => h.putK a ob fun h => applyObs τ σ os h K) = .ok rv rh from e)
            obtain ⟨h1, e, _, _⟩ := H.putK_ok e
            exact ih os h1 K e
      obtain ⟨h', e⟩ := some2 _ _ _ _ e
      rw [renVK_eq] at e
      exact ⟨_, h', e, fun hh => absurd hh hex⟩
  · cases e
end Go.AB
/-
  MEMOS: a run of the evaluator over a small memory makes a memo.
-/
namespace Go.AB
variable {rv : AV} {rh : H}

/-! ### turning is one to one -/
mutual
theorem AV.ren_inj {τ : Nat → Nat} (hi : ∀ i j, τ i = τ j → i = j) : ∀ (x y : AV), x.ren τ = y.ren τ → x = y
  | .b _, y, h => by cases y <;> simp_all [AV.ren]
  | .i _ _, y, h => by cases y <;> simp_all [AV.ren]
  | .s _ _, y, h => by cases y <;> simp_all [AV.ren]
  | .p0, y, h => by cases y <;> simp_all [AV.ren]
  | .p a v o, y, h => by
    cases y with
    | p a' v' o' =>
      simp only [AV.ren, AV.p.injEq] at h
      rw [hi _ _ h.1, h.2.1, h.2.2]
    | _ => simp [AV.ren] at h
  | .sl0, y, h => by cases y <;> simp_all [AV.ren]
  | .sl a v o n es c, y, h => by
    cases y with
    | sl a' v' o' n' es' c' =>
      simp only [AV.ren, AV.sl.injEq] at h
      rw [hi _ _ h.1, h.2.1, h.2.2.1, h.2.2.2.1, h.2.2.2.2.1, h.2.2.2.2.2]
    | _ => simp [AV.ren] at h
  | .m0, y, h => by cases y <;> simp_all [AV.ren]
  | .m a, y, h => by
    cases y with
    | m a' => simp only [AV.ren, AV.m.injEq] at h; rw [hi _ _ h]
    | _ => simp [AV.ren] at h
  | .fn f x z, y, h => by
    cases y with
    | fn f' x' z' =>
      simp only [AV.ren, AV.fn.injEq] at h
      rw [h.1, AV.renL_inj hi x x' h.2.1, AV.renL_inj hi z z' h.2.2]
    | _ => simp [AV.ren] at h
  | .f0, y, h => by cases y <;> simp_all [AV.ren]
  | .ifc t x, y, h => by
    cases y with
    | ifc t' x' => simp only [AV.ren, AV.ifc.injEq] at h; rw [h.1, AV.ren_inj hi x x' h.2]
    | _ => simp [AV.ren] at h
  | .i0, y, h => by cases y <;> simp_all [AV.ren]
  | .ag l, y, h => by
    cases y with
    | ag l' => simp only [AV.ren, AV.ag.injEq] at h; rw [AV.renL_inj hi l l' h]
    | _ => simp [AV.ren] at h
  | .tu l, y, h => by
    cases y with
    | tu l' => simp only [AV.ren, AV.tu.injEq] at h; rw [AV.renL_inj hi l l' h]
    | _ => simp [AV.ren] at h
  | .gp _ _, y, h => by cases y <;> simp_all [AV.ren]
  | .yl l, y, h => by
    cases y with
    | yl l' => simp only [AV.ren, AV.yl.injEq] at h; rw [hi _ _ h]
    | _ => simp [AV.ren] at h
theorem AV.renL_inj {τ : Nat → Nat} (hi : ∀ i j, τ i = τ j → i = j) : ∀ (x y : List AV), AV.renL τ x = AV.renL τ y → x = y
  | [], y, h => by cases y <;> simp_all [AV.renL]
  | x :: l, y, h => by
    cases y with
    | nil => simp [AV.renL] at h
    | cons y m =>
      simp only [AV.renL, List.cons.injEq] at h
      rw [AV.ren_inj hi x y h.1, AV.renL_inj hi l m h.2]
end
theorem BV4.ren_inj {τ : Nat → Nat} (hi : ∀ i j, τ i = τ j → i = j) (x : BV4) : ∀ y : BV4, x.ren τ = y.ren τ → x = y := by
  induction x with
  | e => intro y h; cases y <;> simp_all [BV4.ren]
  | nd x c0 c1 c2 c3 h0 h1 h2 h3 =>
    intro y h
    cases y with
    | e => simp [BV4.ren] at h
    | nd y d0 d1 d2 d3 =>
      simp only [BV4.ren, BV4.nd.injEq] at h
      rw [AV.ren_inj hi _ _ h.1, h0 _ h.2.1, h1 _ h.2.2.1, h2 _ h.2.2.2.1, h3 _ h.2.2.2.2]
theorem renE_inj {τ : Nat → Nat} (hi : ∀ i j, τ i = τ j → i = j) : ∀ (x y : List (AV × AV × Nat)), renE τ x = renE τ y → x = y
  | [], [], _ => rfl
  | [], _ :: _, h => by simp [renE] at h
  | _ :: _, [], h => by simp [renE] at h
  | (a, b, c) :: l, (a', b', c') :: m, h => by
    simp only [renE, List.map_cons, List.cons.injEq, Prod.mk.injEq] at h
    rw [AV.ren_inj hi _ _ h.1.1, AV.ren_inj hi _ _ h.1.2.1, h.1.2.2, renE_inj hi l m h.2]
theorem AO.ren_inj {τ : Nat → Nat} (hi : ∀ i j, τ i = τ j → i = j) : ∀ {x y : AO}, x.plain = true → y.plain = true → x.ren τ = y.ren τ → x = y
  | .blk n cs, .blk m ds, _, _, h => by
    simp only [AO.ren, AO.blk.injEq] at h
    rw [h.1, BV4.ren_inj hi _ _ h.2]
  | .grow n cs w, .grow m ds w', _, _, h => by
    simp only [AO.ren, AO.grow.injEq] at h
    rw [h.1, BV4.ren_inj hi _ _ h.2.1, h.2.2]
  | .map es c, .map es' c', _, _, h => by
    simp only [AO.ren, AO.map.injEq] at h
    rw [renE_inj hi _ _ h.1, h.2]
  | .blk _ _, .grow _ _ _, _, _, h => by simp [AO.ren] at h
  | .blk _ _, .map _ _, _, _, h => by simp [AO.ren] at h
  | .grow _ _ _, .blk _ _, _, _, h => by simp [AO.ren] at h
  | .grow _ _ _, .map _ _, _, _, h => by simp [AO.ren] at h
  | .map _ _, .blk _ _, _, _, h => by simp [AO.ren] at h
  | .map _ _, .grow _ _ _, _, _, h => by simp [AO.ren] at h
  | .mit _ _ _ _, _, h, _, _ => by cases h
  | .sit _ _ _, _, h, _, _ => by cases h
  | .loop .., _, h, _, _ => by cases h
  | .dfr _, _, h, _, _ => by cases h
  | _, .mit _ _ _ _, _, h, _ => by cases h
  | _, .sit _ _ _, _, h, _ => by cases h
  | _, .loop .., _, h, _ => by cases h
  | _, .dfr _, _, h, _ => by cases h

/-! ### lists of numbers -/
noncomputable def incN (l : List Nat) : Nat → Bool :=
  List.rec (motive := fun _ => Nat → Bool) (fun _ => true) (fun x _ ih n => andB (Nat.ble n x) (ih (Nat.succ x))) l
theorem incN_ok : ∀ {l : List Nat} {n : Nat}, incN l n = true → (∀ a ∈ l, n ≤ a) ∧ l.Nodup
  | [], n, _ => ⟨fun a h => (by cases h), List.nodup_nil⟩
  | x :: l, n, h => by
    have h' : andB (Nat.ble n x) (incN l (Nat.succ x)) = true := h
    rw [andB_eq, Bool.and_eq_true] at h'
    obtain ⟨h1, h2⟩ := incN_ok h'.2
    have hn := Nat.le_of_ble_eq_true h'.1
    refine ⟨fun a ha => ?_, List.nodup_cons.2 ⟨fun hx => ?_, h2⟩⟩
    · rcases List.mem_cons.1 ha with rfl | ha
      · exact hn
      · have := h1 a ha; omega
    · have := h1 x hx; omega
noncomputable def preN (l : List Nat) : Nat → Nat → Bool :=
  List.rec (motive := fun _ => Nat → Nat → Bool) (fun n _ => Nat.beq n Nat.zero) (fun x _ ih n i => Nat.rec (motive := fun _ => Bool) true (fun m _ => andB (Nat.beq x i) (ih m (Nat.succ i))) n) l
theorem preN_ok : ∀ {l : List Nat} {n i : Nat}, preN l n i = true → n ≤ l.length ∧ ∀ j, j < n → l[j]? = some (i + j)
  | [], n, i, h => by
    have : n = 0 := Nat.eq_of_beq_eq_true h
    subst this
    exact ⟨Nat.le_refl _, fun j hj => by omega⟩
  | x :: l, 0, i, _ => ⟨Nat.zero_le _, fun j hj => by omega⟩
  | x :: l, n + 1, i, h => by
    have h' : andB (Nat.beq x i) (preN l n (Nat.succ i)) = true := h
    rw [andB_eq, Bool.and_eq_true] at h'
    obtain ⟨h1, h2⟩ := preN_ok h'.2
    refine ⟨by simp; omega, fun j hj => ?_⟩
    cases j with
    | zero => simp [Nat.eq_of_beq_eq_true h'.1]
    | succ j => have := h2 j (by omega); simp only [List.getElem?_cons_succ, this]; congr 1; omega

/-! ### a memo is made -/
noncomputable def bigN : Nat := nat_lit 1000000000
/-- The run that makes a memo: over the rows handed in; behind it, the result and the rows to be kept are held against the memo's. -/
noncomputable def runM (E : Env) (n : Nat) (f : FuncId) (M : Memo) (ids : List Nat) : Ans :=
  fromL M.obs0 ⟨0, .e⟩ fun h0 => (recA E n).callK f M.args h0 fun v h => nxK h fun nx => ifK (Nat.ble nx bigN)
    (renVK (tauN bigN ids) M.v fun v' => eqVK v v' (checkObs h (tauN bigN ids) ids M.obs1 (.ok (.b true) ⟨0, .e⟩))) (.err 291)
noncomputable def okB (a : Ans) : Bool := Ans.rec (motive := fun _ => Bool) (fun _ _ => true) (fun _ => false) a
noncomputable def plainL (l : List AO) : Bool := List.rec (motive := fun _ => Bool) true (fun o _ ih => andB o.plain ih) l
theorem plainL_ok : ∀ {l : List AO}, plainL l = true → ∀ o ∈ l, o.plain = true
  | [], _, o, ho => by cases ho
  | x :: l, h, o, ho => by
    have h' : andB x.plain (plainL l) = true := h
    rw [andB_eq, Bool.and_eq_true] at h'
    rcases List.mem_cons.1 ho with rfl | ho
    · exact h'.1
    · exact plainL_ok h'.2 o ho
noncomputable def belowN (l : List Nat) : Bool := List.rec (motive := fun _ => Bool) true (fun x _ ih => andB (Nat.ble (Nat.succ x) bigN) ih) l
theorem belowN_ok : ∀ {l : List Nat}, belowN l = true → ∀ a ∈ l, a < bigN
  | [], _, a, ha => by cases ha
  | x :: l, h, a, ha => by
    have h' : andB (Nat.ble (Nat.succ x) bigN) (belowN l) = true := h
    rw [andB_eq, Bool.and_eq_true] at h'
    rcases List.mem_cons.1 ha with rfl | ha
    · exact Nat.le_of_ble_eq_true h'.1
    · exact belowN_ok h'.2 a ha
/-- The small facts that a memo wants: the numbers kept grow, the inputs first; the inputs lead to inputs alone. -/
structure MemoFits (M : Memo) (ids : List Nat) : Prop where
  inc : incN ids Nat.zero = true
  below : belowN ids = true
  pre : preN ids M.obs0.length Nat.zero = true
  plain : plainL M.obs0 = true
  shut : M.obs0.map (AO.ren (tauN bigN ids)) = M.obs0
  some1 : okB (fromL M.obs1 ⟨0, .e⟩ fun h => .ok .p0 h) = true
variable [Base]
def MemoSpec (P : Program) (f : FuncId) (M : Memo) : Prop := ∃ h0 h1, IsH M.obs0 h0 ∧ IsH M.obs1 h1 ∧ CallSpec P f M.args h0 M.v h1
theorem memo_of_run {E : Env} (hE : EnvOK E) (hmix : E.P.follows .mixedOrders = true) {n : Nat} {f : FuncId} {M : Memo} {ids : List Nat} (hf : MemoFits M ids) (hw : okB (runM E n f M ids) = true) : MemoSpec E.P f M := by
  cases hq : runM E n f M ids with
  | err k => rw [hq] at hw; cases hw
  | ok rv rh =>
    obtain ⟨h0, e, i0⟩ := fromL_ok _ _ _ [] isH_empty (show fromL M.obs0 ⟨0, .e⟩ (fun h0 => (recA E n).callK f M.args h0 fun v h => nxK h fun nx => ifK (Nat.ble nx bigN)
      (renVK (tauN bigN ids) M.v fun v' => eqVK v v' (checkObs h (tauN bigN ids) ids M.obs1 (.ok (.b true) ⟨0, .e⟩))) (.err 291)) = .ok rv rh from hq)
    rw [List.nil_append] at i0
    obtain ⟨v1, h1, e, hS⟩ := (recA_ok hE hmix n).call _ _ _ _ _ _ e
    have e : ifK (Nat.ble h1.nx bigN) (renVK (tauN bigN ids) M.v fun v' => eqVK v1 v' (checkObs h1 (tauN bigN ids) ids M.obs1 (.ok (.b true) ⟨0, .e⟩))) (.err 291) = .ok rv rh := e
    rw [ifK_eq] at e
    split at e
    · rename_i hbig
      have hbig : h1.nx ≤ bigN := Nat.le_of_ble_eq_true hbig
      rw [renVK_eq] at e
      obtain ⟨hv1, e⟩ := eqVK_ok _ e
      have hv1 := hv1.symm
      obtain ⟨_, hlen, hch⟩ := checkObs_ok e
      have hpl : ∀ o ∈ M.obs1, o.plain = true := fun o ho => by
        obtain ⟨i, hi, rfl⟩ := List.mem_iff_getElem.1 ho
        exact (hch i _ _ (List.getElem?_eq_getElem (hlen ▸ hi)) (List.getElem?_eq_getElem hi)).2
      have hs1 := hf.some1
      obtain ⟨h1', i1⟩ : ∃ h1', IsH M.obs1 h1' := by
        cases hq1 : fromL M.obs1 ⟨0, .e⟩ (fun h => .ok .p0 h) with
        | err k => rw [hq1] at hs1; cases hs1
        | ok rv' rh' =>
          obtain ⟨h1', _, i1⟩ := fromL_ok _ _ _ [] isH_empty hq1
          exact ⟨h1', by simpa using i1⟩
      have hnd := (incN_ok hf.inc).2
      have hlt := belowN_ok hf.below
      obtain ⟨hpk, hpre⟩ := preN_ok hf.pre
      have τi := tauN_inj hnd hlt
      -- what lies at a number kept
      have hat : ∀ (i : Nat) (o : AO), M.obs1[i]? = some o → ∃ a, ids[i]? = some a ∧ tauN bigN ids i = a ∧ h1.get a = some (o.ren (tauN bigN ids)) := fun i o ho => by
        have hi : i < ids.length := by rw [hlen]; exact (List.getElem?_eq_some_iff.1 ho).1
        exact ⟨ids[i], List.getElem?_eq_getElem hi, tauN_lt (List.getElem?_eq_getElem hi), (hch i _ o (List.getElem?_eq_getElem hi) ho).1⟩
      have hk0 : h0.nx = M.obs0.length := i0.nx
      have hfix : ∀ a, a < M.obs0.length → tauN bigN ids a = a := fun a ha => by
        have := hpre a ha
        rw [Nat.zero_add] at this
        exact tauN_lt this
      refine ⟨h0, h1', i0, i1, hS.1, fun γ vs w hv hr => CallsIn.mono (hS.2 γ vs w hv hr) ?_⟩
      rintro e5 w' ⟨u, γ1, rfl, hu, hx, hr1⟩
      have hin1 : ∀ i v x, γ1 (tauN bigN ids i) v = some x → i < ids.length := fun i v x hxx => by
        rcases Nat.lt_or_ge i ids.length with h | h
        · exact h
        · have := hr1.lt _ _ _ hxx
          rw [tauN_ge h] at this
          omega
      refine ⟨u, γ1.comp (tauN bigN ids), rfl, (VR_ren M.v).1 (by rw [hv1]; exact hu), ⟨fun a v x hxx => ?_, fun a v B N hxx => ?_, by rw [hk0, i1.nx]; omega, fun a ha hno => ?_, hx.wold, hx.wle, hx.still⟩, ⟨fun i v B N hxx => ?_, fun i v B N j v' N' q1 q2 => τi _ _ (hr1.inj _ _ _ _ _ _ _ q1 q2), fun i v x hxx => by rw [i1.nx, ← hlen]; exact hin1 i v x hxx, fun i ob hxx => ?_, fun B o hb => ⟨(hr1.base B o hb).1, fun i v N hxx => (hr1.base B o hb).2 _ _ _ hxx⟩⟩⟩
      · have ha := hr.lt _ _ _ hxx
        show γ1 (tauN bigN ids a) v = some x
        rw [hfix a (by omega)]
        exact hx.mono _ _ _ hxx
      · rcases hx.fresh _ _ _ _ hxx with ⟨v0, N0, e0⟩ | hB
        · have hlt0 := hr.lt _ _ _ e0
          have : tauN bigN ids a = a := τi _ _ (hfix _ (by omega))
          rw [this] at e0
          exact .inl ⟨_, _, e0⟩
        · exact .inr hB
      · have ha' : a < M.obs0.length := by omega
        obtain ⟨g1, g2⟩ := hx.aold a ha hno
        have hal : a < M.obs1.length := by omega
        obtain ⟨b, hb1, hb2, hb3⟩ := hat a _ (List.getElem?_eq_getElem hal)
        rw [hfix a ha'] at hb2
        subst hb2
        have ho0 : M.obs0[a]? = some (M.obs0[a]'ha') := List.getElem?_eq_getElem _
        have hshut : (M.obs0[a]'ha').ren (tauN bigN ids) = M.obs0[a]'ha' := by
          have h3 : (M.obs0.map (AO.ren (tauN bigN ids)))[a]? = M.obs0[a]? := by rw [hf.shut]
          rw [List.getElem?_map, ho0] at h3
          simpa using h3
        rw [g1, i0.get, ho0, ← hshut] at hb3
        have heq : M.obs0[a]'ha' = M.obs1[a]'hal := AO.ren_inj τi (plainL_ok hf.plain _ (List.getElem_mem _)) (hpl _ (List.getElem_mem _)) (by simpa using hb3)
        refine ⟨by rw [i1.get, i0.get, ho0, heq]; exact List.getElem?_eq_getElem _, fun v => ?_⟩
        show γ1 (tauN bigN ids a) v = none
        rw [hfix a ha']
        exact g2 v
      · have hi := hin1 i v _ hxx
        rw [hlen] at hi
        have ho : M.obs1[i]? = some (M.obs1[i]'hi) := List.getElem?_eq_getElem _
        obtain ⟨a, ha1, ha2, ha3⟩ := hat i _ ho
        obtain ⟨ob, o, g1, g2, g3⟩ := hr1.ob _ _ _ _ hxx
        rw [ha2, ha3] at g1
        cases g1
        exact ⟨_, o, by rw [i1.get]; exact ho, g2, (ObR_ren (hpl _ (List.getElem_mem _))).1 g3⟩
      · rw [i1.get] at hxx
        rw [i1.nx]
        exact (List.getElem?_eq_some_iff.1 hxx).1
    · cases e
theorem memo_use {P : Program} {f : FuncId} {M : Memo} (hn : NoCount P) (hM : MemoSpec P f M) {args : List AV} {h : H} {K : KV} (e : memoA M args h K = .ok rv rh) : ∃ v h', K v h' = .ok rv rh ∧ FnSpec P f args h v h' := by
  obtain ⟨h0, h1, i0, i1, hS⟩ := hM
  obtain ⟨v, h', e1, hS'⟩ := memoA_ok i0 i1 hS e
  exact ⟨v, h', e1, fun γ vs w hv hr => (hS' ⟨γ, w, hr⟩).fn hn γ vs w hv hr⟩
end Go.AB
