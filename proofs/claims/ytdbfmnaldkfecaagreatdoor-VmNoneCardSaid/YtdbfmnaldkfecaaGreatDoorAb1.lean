/-
  The evaluator (abstract runs of a loaded program's code) and its soundness: part Ab1.
-/
import GoSem.Dispatch
import GoSem.Machine.Frame
import Derived.Laws.Sem
import Derived.OrdersIn
import Derived.RangeFuncIn
import Derived.RangeFuncLeaves
import Derived.LoopNIn
import Derived.RecoverIn
set_option linter.all false
namespace Go.AB

/-- Abstract values. -/
inductive AV where
  | b (x : Bool)
  | i (k : IntKind) (n : Int)
  | s (n code : Nat)
  | p0
  | p (a v o : Nat)
  | sl0
  | sl (a v o n es c : Nat)
  | m0
  | m (a : Nat)
  | fn (f : Fn) (first captured : List AV)
  | f0
  | ifc (t : TypeId) (x : AV)
  | i0
  | ag (cs : List AV)
  | tu (vs : List AV)
  | gp (g o : Nat)
  | yl (l : Nat)
  deriving Inhabited

def und : AV := .tu []

inductive Dfr where
  | call (f : AV) (args : List AV)
  | coll (a : Nat)

/-- Sixteen values; sixteen of these, and the deferred calls: the temporaries of a frame. -/
structure T1 where
  a0 : AV
  a1 : AV
  a2 : AV
  a3 : AV
  a4 : AV
  a5 : AV
  a6 : AV
  a7 : AV
  a8 : AV
  a9 : AV
  a10 : AV
  a11 : AV
  a12 : AV
  a13 : AV
  a14 : AV
  a15 : AV
structure Tm where
  a0 : T1
  a1 : T1
  a2 : T1
  a3 : T1
  a4 : T1
  a5 : T1
  a6 : T1
  a7 : T1
  a8 : T1
  a9 : T1
  a10 : T1
  a11 : T1
  a12 : T1
  a13 : T1
  a14 : T1
  a15 : T1
  df : List Dfr

/-- Rows: the keys 0 .. n - 1. -/
inductive BV4 where
  | e
  | nd (x : AV) (c0 c1 c2 c3 : BV4)
inductive AO where
  | blk (n : Nat) (cs : BV4)
  | grow (n : Nat) (cs : BV4) (lw : Nat)
  | map (es : List (AV × AV × Nat)) (clock : Nat)
  | mit (m : Option Nat) (since : Nat) (seen : List Nat) (last : Nat)
  | sit (n code pos : Nat)
  | loop (state : LoopState) (pending : Option Code) (fn : FuncId) (tm : Tm) (params : List Tmp) (assign body : Code) (dfr : Nat)
  | dfr (l : Option (List Dfr))
/-- The heap. -/
inductive BO4 where
  | e
  | nd (x : AO) (c0 c1 c2 c3 : BO4)
structure H where
  nx : Nat
  t : BO4

inductive Ans where
  | ok (v : AV) (h : H)
  | err (why : Nat)

abbrev KV := AV → H → Ans
abbrev KT := Tm → H → Ans

noncomputable def T1.s0 (K : T1 → Ans) (v : AV) (t : T1) : Ans := T1.rec (motive := fun _ => (T1 → Ans) → AV → Ans) (fun _ a1 a2 a3 a4 a5 a6 a7 a8 a9 a10 a11 a12 a13 a14 a15 K v => K (.mk v a1 a2 a3 a4 a5 a6 a7 a8 a9 a10 a11 a12 a13 a14 a15)) t K v
noncomputable def T1.s1 (K : T1 → Ans) (v : AV) (t : T1) : Ans := T1.rec (motive := fun _ => (T1 → Ans) → AV → Ans) (fun a0 _ a2 a3 a4 a5 a6 a7 a8 a9 a10 a11 a12 a13 a14 a15 K v => K (.mk a0 v a2 a3 a4 a5 a6 a7 a8 a9 a10 a11 a12 a13 a14 a15)) t K v
noncomputable def T1.s2 (K : T1 → Ans) (v : AV) (t : T1) : Ans := T1.rec (motive := fun _ => (T1 → Ans) → AV → Ans) (fun a0 a1 _ a3 a4 a5 a6 a7 a8 a9 a10 a11 a12 a13 a14 a15 K v => K (.mk a0 a1 v a3 a4 a5 a6 a7 a8 a9 a10 a11 a12 a13 a14 a15)) t K v
noncomputable def T1.s3 (K : T1 → Ans) (v : AV) (t : T1) : Ans := T1.rec (motive := fun _ => (T1 → Ans) → AV → Ans) (fun a0 a1 a2 _ a4 a5 a6 a7 a8 a9 a10 a11 a12 a13 a14 a15 K v => K (.mk a0 a1 a2 v a4 a5 a6 a7 a8 a9 a10 a11 a12 a13 a14 a15)) t K v
noncomputable def T1.s4 (K : T1 → Ans) (v : AV) (t : T1) : Ans := T1.rec (motive := fun _ => (T1 → Ans) → AV → Ans) (fun a0 a1 a2 a3 _ a5 a6 a7 a8 a9 a10 a11 a12 a13 a14 a15 K v => K (.mk a0 a1 a2 a3 v a5 a6 a7 a8 a9 a10 a11 a12 a13 a14 a15)) t K v
noncomputable def T1.s5 (K : T1 → Ans) (v : AV) (t : T1) : Ans := T1.rec (motive := fun _ => (T1 → Ans) → AV → Ans) (fun a0 a1 a2 a3 a4 _ a6 a7 a8 a9 a10 a11 a12 a13 a14 a15 K v => K (.mk a0 a1 a2 a3 a4 v a6 a7 a8 a9 a10 a11 a12 a13 a14 a15)) t K v
noncomputable def T1.s6 (K : T1 → Ans) (v : AV) (t : T1) : Ans := T1.rec (motive := fun _ => (T1 → Ans) → AV → Ans) (fun a0 a1 a2 a3 a4 a5 _ a7 a8 a9 a10 a11 a12 a13 a14 a15 K v => K (.mk a0 a1 a2 a3 a4 a5 v a7 a8 a9 a10 a11 a12 a13 a14 a15)) t K v
noncomputable def T1.s7 (K : T1 → Ans) (v : AV) (t : T1) : Ans := T1.rec (motive := fun _ => (T1 → Ans) → AV → Ans) (fun a0 a1 a2 a3 a4 a5 a6 _ a8 a9 a10 a11 a12 a13 a14 a15 K v => K (.mk a0 a1 a2 a3 a4 a5 a6 v a8 a9 a10 a11 a12 a13 a14 a15)) t K v
noncomputable def T1.s8 (K : T1 → Ans) (v : AV) (t : T1) : Ans := T1.rec (motive := fun _ => (T1 → Ans) → AV → Ans) (fun a0 a1 a2 a3 a4 a5 a6 a7 _ a9 a10 a11 a12 a13 a14 a15 K v => K (.mk a0 a1 a2 a3 a4 a5 a6 a7 v a9 a10 a11 a12 a13 a14 a15)) t K v
noncomputable def T1.s9 (K : T1 → Ans) (v : AV) (t : T1) : Ans := T1.rec (motive := fun _ => (T1 → Ans) → AV → Ans) (fun a0 a1 a2 a3 a4 a5 a6 a7 a8 _ a10 a11 a12 a13 a14 a15 K v => K (.mk a0 a1 a2 a3 a4 a5 a6 a7 a8 v a10 a11 a12 a13 a14 a15)) t K v
noncomputable def T1.s10 (K : T1 → Ans) (v : AV) (t : T1) : Ans := T1.rec (motive := fun _ => (T1 → Ans) → AV → Ans) (fun a0 a1 a2 a3 a4 a5 a6 a7 a8 a9 _ a11 a12 a13 a14 a15 K v => K (.mk a0 a1 a2 a3 a4 a5 a6 a7 a8 a9 v a11 a12 a13 a14 a15)) t K v
noncomputable def T1.s11 (K : T1 → Ans) (v : AV) (t : T1) : Ans := T1.rec (motive := fun _ => (T1 → Ans) → AV → Ans) (fun a0 a1 a2 a3 a4 a5 a6 a7 a8 a9 a10 _ a12 a13 a14 a15 K v => K (.mk a0 a1 a2 a3 a4 a5 a6 a7 a8 a9 a10 v a12 a13 a14 a15)) t K v
noncomputable def T1.s12 (K : T1 → Ans) (v : AV) (t : T1) : Ans := T1.rec (motive := fun _ => (T1 → Ans) → AV → Ans) (fun a0 a1 a2 a3 a4 a5 a6 a7 a8 a9 a10 a11 _ a13 a14 a15 K v => K (.mk a0 a1 a2 a3 a4 a5 a6 a7 a8 a9 a10 a11 v a13 a14 a15)) t K v
noncomputable def T1.s13 (K : T1 → Ans) (v : AV) (t : T1) : Ans := T1.rec (motive := fun _ => (T1 → Ans) → AV → Ans) (fun a0 a1 a2 a3 a4 a5 a6 a7 a8 a9 a10 a11 a12 _ a14 a15 K v => K (.mk a0 a1 a2 a3 a4 a5 a6 a7 a8 a9 a10 a11 a12 v a14 a15)) t K v
noncomputable def T1.s14 (K : T1 → Ans) (v : AV) (t : T1) : Ans := T1.rec (motive := fun _ => (T1 → Ans) → AV → Ans) (fun a0 a1 a2 a3 a4 a5 a6 a7 a8 a9 a10 a11 a12 a13 _ a15 K v => K (.mk a0 a1 a2 a3 a4 a5 a6 a7 a8 a9 a10 a11 a12 a13 v a15)) t K v
noncomputable def T1.s15 (K : T1 → Ans) (v : AV) (t : T1) : Ans := T1.rec (motive := fun _ => (T1 → Ans) → AV → Ans) (fun a0 a1 a2 a3 a4 a5 a6 a7 a8 a9 a10 a11 a12 a13 a14 _ K v => K (.mk a0 a1 a2 a3 a4 a5 a6 a7 a8 a9 a10 a11 a12 a13 a14 v)) t K v
noncomputable def Tm.s0 (s : (T1 → Ans) → AV → T1 → Ans) (K : Tm → Ans) (v : AV) (t : Tm) : Ans := Tm.rec (motive := fun _ => ((T1 → Ans) → AV → T1 → Ans) → (Tm → Ans) → AV → Ans) (fun a0 a1 a2 a3 a4 a5 a6 a7 a8 a9 a10 a11 a12 a13 a14 a15 df s K v => s (fun x => K (.mk x a1 a2 a3 a4 a5 a6 a7 a8 a9 a10 a11 a12 a13 a14 a15 df)) v a0) t s K v
noncomputable def Tm.s1 (s : (T1 → Ans) → AV → T1 → Ans) (K : Tm → Ans) (v : AV) (t : Tm) : Ans := Tm.rec (motive := fun _ => ((T1 → Ans) → AV → T1 → Ans) → (Tm → Ans) → AV → Ans) (fun a0 a1 a2 a3 a4 a5 a6 a7 a8 a9 a10 a11 a12 a13 a14 a15 df s K v => s (fun x => K (.mk a0 x a2 a3 a4 a5 a6 a7 a8 a9 a10 a11 a12 a13 a14 a15 df)) v a1) t s K v
noncomputable def Tm.s2 (s : (T1 → Ans) → AV → T1 → Ans) (K : Tm → Ans) (v : AV) (t : Tm) : Ans := Tm.rec (motive := fun _ => ((T1 → Ans) → AV → T1 → Ans) → (Tm → Ans) → AV → Ans) (fun a0 a1 a2 a3 a4 a5 a6 a7 a8 a9 a10 a11 a12 a13 a14 a15 df s K v => s (fun x => K (.mk a0 a1 x a3 a4 a5 a6 a7 a8 a9 a10 a11 a12 a13 a14 a15 df)) v a2) t s K v
noncomputable def Tm.s3 (s : (T1 → Ans) → AV → T1 → Ans) (K : Tm → Ans) (v : AV) (t : Tm) : Ans := Tm.rec (motive := fun _ => ((T1 → Ans) → AV → T1 → Ans) → (Tm → Ans) → AV → Ans) (fun a0 a1 a2 a3 a4 a5 a6 a7 a8 a9 a10 a11 a12 a13 a14 a15 df s K v => s (fun x => K (.mk a0 a1 a2 x a4 a5 a6 a7 a8 a9 a10 a11 a12 a13 a14 a15 df)) v a3) t s K v
noncomputable def Tm.s4 (s : (T1 → Ans) → AV → T1 → Ans) (K : Tm → Ans) (v : AV) (t : Tm) : Ans := Tm.rec (motive := fun _ => ((T1 → Ans) → AV → T1 → Ans) → (Tm → Ans) → AV → Ans) (fun a0 a1 a2 a3 a4 a5 a6 a7 a8 a9 a10 a11 a12 a13 a14 a15 df s K v => s (fun x => K (.mk a0 a1 a2 a3 x a5 a6 a7 a8 a9 a10 a11 a12 a13 a14 a15 df)) v a4) t s K v
noncomputable def Tm.s5 (s : (T1 → Ans) → AV → T1 → Ans) (K : Tm → Ans) (v : AV) (t : Tm) : Ans := Tm.rec (motive := fun _ => ((T1 → Ans) → AV → T1 → Ans) → (Tm → Ans) → AV → Ans) (fun a0 a1 a2 a3 a4 a5 a6 a7 a8 a9 a10 a11 a12 a13 a14 a15 df s K v => s (fun x => K (.mk a0 a1 a2 a3 a4 x a6 a7 a8 a9 a10 a11 a12 a13 a14 a15 df)) v a5) t s K v
noncomputable def Tm.s6 (s : (T1 → Ans) → AV → T1 → Ans) (K : Tm → Ans) (v : AV) (t : Tm) : Ans := Tm.rec (motive := fun _ => ((T1 → Ans) → AV → T1 → Ans) → (Tm → Ans) → AV → Ans) (fun a0 a1 a2 a3 a4 a5 a6 a7 a8 a9 a10 a11 a12 a13 a14 a15 df s K v => s (fun x => K (.mk a0 a1 a2 a3 a4 a5 x a7 a8 a9 a10 a11 a12 a13 a14 a15 df)) v a6) t s K v
noncomputable def Tm.s7 (s : (T1 → Ans) → AV → T1 → Ans) (K : Tm → Ans) (v : AV) (t : Tm) : Ans := Tm.rec (motive := fun _ => ((T1 → Ans) → AV → T1 → Ans) → (Tm → Ans) → AV → Ans) (fun a0 a1 a2 a3 a4 a5 a6 a7 a8 a9 a10 a11 a12 a13 a14 a15 df s K v => s (fun x => K (.mk a0 a1 a2 a3 a4 a5 a6 x a8 a9 a10 a11 a12 a13 a14 a15 df)) v a7) t s K v
noncomputable def Tm.s8 (s : (T1 → Ans) → AV → T1 → Ans) (K : Tm → Ans) (v : AV) (t : Tm) : Ans := Tm.rec (motive := fun _ => ((T1 → Ans) → AV → T1 → Ans) → (Tm → Ans) → AV → Ans) (fun a0 a1 a2 a3 a4 a5 a6 a7 a8 a9 a10 a11 a12 a13 a14 a15 df s K v => s (fun x => K (.mk a0 a1 a2 a3 a4 a5 a6 a7 x a9 a10 a11 a12 a13 a14 a15 df)) v a8) t s K v
noncomputable def Tm.s9 (s : (T1 → Ans) → AV → T1 → Ans) (K : Tm → Ans) (v : AV) (t : Tm) : Ans := Tm.rec (motive := fun _ => ((T1 → Ans) → AV → T1 → Ans) → (Tm → Ans) → AV → Ans) (fun a0 a1 a2 a3 a4 a5 a6 a7 a8 a9 a10 a11 a12 a13 a14 a15 df s K v => s (fun x => K (.mk a0 a1 a2 a3 a4 a5 a6 a7 a8 x a10 a11 a12 a13 a14 a15 df)) v a9) t s K v
noncomputable def Tm.s10 (s : (T1 → Ans) → AV → T1 → Ans) (K : Tm → Ans) (v : AV) (t : Tm) : Ans := Tm.rec (motive := fun _ => ((T1 → Ans) → AV → T1 → Ans) → (Tm → Ans) → AV → Ans) (fun a0 a1 a2 a3 a4 a5 a6 a7 a8 a9 a10 a11 a12 a13 a14 a15 df s K v => s (fun x => K (.mk a0 a1 a2 a3 a4 a5 a6 a7 a8 a9 x a11 a12 a13 a14 a15 df)) v a10) t s K v
noncomputable def Tm.s11 (s : (T1 → Ans) → AV → T1 → Ans) (K : Tm → Ans) (v : AV) (t : Tm) : Ans := Tm.rec (motive := fun _ => ((T1 → Ans) → AV → T1 → Ans) → (Tm → Ans) → AV → Ans) (fun a0 a1 a2 a3 a4 a5 a6 a7 a8 a9 a10 a11 a12 a13 a14 a15 df s K v => s (fun x => K (.mk a0 a1 a2 a3 a4 a5 a6 a7 a8 a9 a10 x a12 a13 a14 a15 df)) v a11) t s K v
noncomputable def Tm.s12 (s : (T1 → Ans) → AV → T1 → Ans) (K : Tm → Ans) (v : AV) (t : Tm) : Ans := Tm.rec (motive := fun _ => ((T1 → Ans) → AV → T1 → Ans) → (Tm → Ans) → AV → Ans) (fun a0 a1 a2 a3 a4 a5 a6 a7 a8 a9 a10 a11 a12 a13 a14 a15 df s K v => s (fun x => K (.mk a0 a1 a2 a3 a4 a5 a6 a7 a8 a9 a10 a11 x a13 a14 a15 df)) v a12) t s K v
noncomputable def Tm.s13 (s : (T1 → Ans) → AV → T1 → Ans) (K : Tm → Ans) (v : AV) (t : Tm) : Ans := Tm.rec (motive := fun _ => ((T1 → Ans) → AV → T1 → Ans) → (Tm → Ans) → AV → Ans) (fun a0 a1 a2 a3 a4 a5 a6 a7 a8 a9 a10 a11 a12 a13 a14 a15 df s K v => s (fun x => K (.mk a0 a1 a2 a3 a4 a5 a6 a7 a8 a9 a10 a11 a12 x a14 a15 df)) v a13) t s K v
noncomputable def Tm.s14 (s : (T1 → Ans) → AV → T1 → Ans) (K : Tm → Ans) (v : AV) (t : Tm) : Ans := Tm.rec (motive := fun _ => ((T1 → Ans) → AV → T1 → Ans) → (Tm → Ans) → AV → Ans) (fun a0 a1 a2 a3 a4 a5 a6 a7 a8 a9 a10 a11 a12 a13 a14 a15 df s K v => s (fun x => K (.mk a0 a1 a2 a3 a4 a5 a6 a7 a8 a9 a10 a11 a12 a13 x a15 df)) v a14) t s K v
noncomputable def Tm.s15 (s : (T1 → Ans) → AV → T1 → Ans) (K : Tm → Ans) (v : AV) (t : Tm) : Ans := Tm.rec (motive := fun _ => ((T1 → Ans) → AV → T1 → Ans) → (Tm → Ans) → AV → Ans) (fun a0 a1 a2 a3 a4 a5 a6 a7 a8 a9 a10 a11 a12 a13 a14 a15 df s K v => s (fun x => K (.mk a0 a1 a2 a3 a4 a5 a6 a7 a8 a9 a10 a11 a12 a13 a14 x df)) v a15) t s K v
inductive G1 where
  | mk (g : T1 → AV) (s : (T1 → Ans) → AV → T1 → Ans)
inductive G2 where
  | mk (g : Tm → T1) (s : ((T1 → Ans) → AV → T1 → Ans) → (Tm → Ans) → AV → Tm → Ans)
noncomputable def selG1 (n : Nat) : G1 := match n with
  | 0 => .mk T1.a0 T1.s0
  | 1 => .mk T1.a1 T1.s1
  | 2 => .mk T1.a2 T1.s2
  | 3 => .mk T1.a3 T1.s3
  | 4 => .mk T1.a4 T1.s4
  | 5 => .mk T1.a5 T1.s5
  | 6 => .mk T1.a6 T1.s6
  | 7 => .mk T1.a7 T1.s7
  | 8 => .mk T1.a8 T1.s8
  | 9 => .mk T1.a9 T1.s9
  | 10 => .mk T1.a10 T1.s10
  | 11 => .mk T1.a11 T1.s11
  | 12 => .mk T1.a12 T1.s12
  | 13 => .mk T1.a13 T1.s13
  | 14 => .mk T1.a14 T1.s14
  | _ => .mk T1.a15 T1.s15
noncomputable def selG2 (n : Nat) : G2 := match n with
  | 0 => .mk Tm.a0 Tm.s0
  | 1 => .mk Tm.a1 Tm.s1
  | 2 => .mk Tm.a2 Tm.s2
  | 3 => .mk Tm.a3 Tm.s3
  | 4 => .mk Tm.a4 Tm.s4
  | 5 => .mk Tm.a5 Tm.s5
  | 6 => .mk Tm.a6 Tm.s6
  | 7 => .mk Tm.a7 Tm.s7
  | 8 => .mk Tm.a8 Tm.s8
  | 9 => .mk Tm.a9 Tm.s9
  | 10 => .mk Tm.a10 Tm.s10
  | 11 => .mk Tm.a11 Tm.s11
  | 12 => .mk Tm.a12 Tm.s12
  | 13 => .mk Tm.a13 Tm.s13
  | 14 => .mk Tm.a14 Tm.s14
  | _ => .mk Tm.a15 Tm.s15
def T1.all (x : AV) : T1 := .mk x x x x x x x x x x x x x x x x
def Tm.all (x : T1) (df : List Dfr) : Tm := .mk x x x x x x x x x x x x x x x x df

/-! ### forcing -/
noncomputable def forceN (n : Nat) (K : Nat → Ans) : Ans :=
  Nat.rec (motive := fun _ => (Nat → Ans) → Ans) (fun K => K Nat.zero) (fun m _ K => K (Nat.succ m)) n K
noncomputable def ifK (b : Bool) (x y : Ans) : Ans := Bool.rec (motive := fun _ => Ans) y x b
noncomputable def forceB (b : Bool) (K : Bool → Ans) : Ans := Bool.rec (motive := fun _ => (Bool → Ans) → Ans) (fun K => K false) (fun K => K true) b K
noncomputable def forceI (n : Int) (K : Int → Ans) : Ans :=
  Int.rec (motive := fun _ => (Int → Ans) → Ans) (fun m K => forceN m fun m => K (.ofNat m)) (fun m K => forceN m fun m => K (.negSucc m)) n K
noncomputable def andB (x y : Bool) : Bool := Bool.rec (motive := fun _ => Bool) false y x
noncomputable def orB (x y : Bool) : Bool := Bool.rec (motive := fun _ => Bool) y true x
noncomputable def notB (x : Bool) : Bool := Bool.rec (motive := fun _ => Bool) true false x

/-! ### rows and the heap -/
noncomputable def sel4 (n : Nat) (x y z u : Ans) : Ans :=
  Nat.rec (motive := fun _ => Ans) x (fun m _ => Nat.rec (motive := fun _ => Ans) y (fun m _ => Nat.rec (motive := fun _ => Ans) z (fun _ _ => u) m) m) n
noncomputable def BV4.getK (t : BV4) (k : Nat) (K : AV → Ans) : Ans :=
  BV4.rec (motive := fun _ => Nat → (AV → Ans) → Ans) (fun _ _ => .err (nat_lit 2))
    (fun x _ _ _ _ g0 g1 g2 g3 k K => Nat.rec (motive := fun _ => Ans) (K x)
      (fun m _ => sel4 (Nat.mod m (nat_lit 4)) (g0 (Nat.div m (nat_lit 4)) K) (g1 (Nat.div m (nat_lit 4)) K) (g2 (Nat.div m (nat_lit 4)) K) (g3 (Nat.div m (nat_lit 4)) K)) k) t k K
noncomputable def BO4.getK (t : BO4) (k : Nat) (K : AO → Ans) : Ans :=
  BO4.rec (motive := fun _ => Nat → (AO → Ans) → Ans) (fun _ _ => .err (nat_lit 2))
    (fun x _ _ _ _ g0 g1 g2 g3 k K => Nat.rec (motive := fun _ => Ans) (K x)
      (fun m _ => sel4 (Nat.mod m (nat_lit 4)) (g0 (Nat.div m (nat_lit 4)) K) (g1 (Nat.div m (nat_lit 4)) K) (g2 (Nat.div m (nat_lit 4)) K) (g3 (Nat.div m (nat_lit 4)) K)) k) t k K
noncomputable def BV4.setK (t : BV4) (k : Nat) (v : AV) (K : BV4 → Ans) : Ans :=
  BV4.rec (motive := fun _ => Nat → (BV4 → Ans) → Ans) (fun k K => Nat.rec (motive := fun _ => Ans) (K (.nd v .e .e .e .e)) (fun _ _ => .err (nat_lit 3)) k)
    (fun x c0 c1 c2 c3 s0 s1 s2 s3 k K => Nat.rec (motive := fun _ => Ans) (K (.nd v c0 c1 c2 c3))
      (fun m _ => sel4 (Nat.mod m (nat_lit 4)) (s0 (Nat.div m (nat_lit 4)) fun c => K (.nd x c c1 c2 c3)) (s1 (Nat.div m (nat_lit 4)) fun c => K (.nd x c0 c c2 c3))
        (s2 (Nat.div m (nat_lit 4)) fun c => K (.nd x c0 c1 c c3)) (s3 (Nat.div m (nat_lit 4)) fun c => K (.nd x c0 c1 c2 c))) k) t k K
noncomputable def BO4.setK (t : BO4) (k : Nat) (v : AO) (K : BO4 → Ans) : Ans :=
  BO4.rec (motive := fun _ => Nat → (BO4 → Ans) → Ans) (fun k K => Nat.rec (motive := fun _ => Ans) (K (.nd v .e .e .e .e)) (fun _ _ => .err (nat_lit 3)) k)
    (fun x c0 c1 c2 c3 s0 s1 s2 s3 k K => Nat.rec (motive := fun _ => Ans) (K (.nd v c0 c1 c2 c3))
      (fun m _ => sel4 (Nat.mod m (nat_lit 4)) (s0 (Nat.div m (nat_lit 4)) fun c => K (.nd x c c1 c2 c3)) (s1 (Nat.div m (nat_lit 4)) fun c => K (.nd x c0 c c2 c3))
        (s2 (Nat.div m (nat_lit 4)) fun c => K (.nd x c0 c1 c c3)) (s3 (Nat.div m (nat_lit 4)) fun c => K (.nd x c0 c1 c2 c))) k) t k K
noncomputable def H.newK (h : H) (o : AO) (K : Nat → H → Ans) : Ans :=
  H.rec (motive := fun _ => AO → (Nat → H → Ans) → Ans) (fun nx t o K => BO4.setK t nx o fun t' => K nx ⟨Nat.succ nx, t'⟩) h o K
noncomputable def H.putK (h : H) (a : Nat) (o : AO) (K : H → Ans) : Ans :=
  H.rec (motive := fun _ => Nat → AO → (H → Ans) → Ans) (fun nx t a o K => BO4.setK t a o fun t' => K ⟨nx, t'⟩) h a o K
noncomputable def H.getK (h : H) (a : Nat) (K : AO → Ans) : Ans :=
  H.rec (motive := fun _ => Nat → (AO → Ans) → Ans) (fun _ t a K => BO4.getK t a K) h a K
noncomputable def AO.row : AO → (Nat → BV4 → Ans) → (Nat → BV4 → Nat → Ans) → Ans :=
  AO.rec (motive := fun _ => (Nat → BV4 → Ans) → (Nat → BV4 → Nat → Ans) → Ans)
    (fun n cs K _ => K n cs) (fun n cs lw _ K => K n cs lw) (fun _ _ _ _ => .err (nat_lit 4)) (fun _ _ _ _ _ _ => .err (nat_lit 4)) (fun _ _ _ _ _ => .err (nat_lit 4)) (fun _ _ _ _ _ _ _ _ _ _ => .err (nat_lit 4)) (fun _ _ _ => .err (nat_lit 4))
noncomputable def AO.onMap : AO → (List (AV × AV × Nat) → Nat → Ans) → Ans :=
  AO.rec (motive := fun _ => (List (AV × AV × Nat) → Nat → Ans) → Ans)
    (fun _ _ _ => .err (nat_lit 4)) (fun _ _ _ _ => .err (nat_lit 4)) (fun es c K => K es c) (fun _ _ _ _ _ => .err (nat_lit 4)) (fun _ _ _ _ => .err (nat_lit 4)) (fun _ _ _ _ _ _ _ _ _ => .err (nat_lit 4)) (fun _ _ => .err (nat_lit 4))
noncomputable def AV.onB : AV → (Bool → Ans) → Ans :=
  AV.rec (motive_1 := fun _ => (Bool → Ans) → Ans) (motive_2 := fun _ => PUnit)
    (fun x0 K => K x0)
    (fun _ _ _ => .err (nat_lit 1))
    (fun _ _ _ => .err (nat_lit 1))
    (fun _ => .err (nat_lit 1))
    (fun _ _ _ _ => .err (nat_lit 1))
    (fun _ => .err (nat_lit 1))
    (fun _ _ _ _ _ _ _ => .err (nat_lit 1))
    (fun _ => .err (nat_lit 1))
    (fun _ _ => .err (nat_lit 1))
    (fun _ _ _ _ _ _ => .err (nat_lit 1))
    (fun _ => .err (nat_lit 1))
    (fun _ _ _ _ => .err (nat_lit 1))
    (fun _ => .err (nat_lit 1))
    (fun _ _ _ => .err (nat_lit 1))
    (fun _ _ _ => .err (nat_lit 1))
    (fun _ _ _ => .err (nat_lit 1))
    (fun _ _ => .err (nat_lit 1))
    ⟨⟩ (fun _ _ _ _ => ⟨⟩)

noncomputable def AV.onI : AV → (IntKind → Int → Ans) → Ans :=
  AV.rec (motive_1 := fun _ => (IntKind → Int → Ans) → Ans) (motive_2 := fun _ => PUnit)
    (fun _ _ => .err (nat_lit 1))
    (fun x0 x1 K => K x0 x1)
    (fun _ _ _ => .err (nat_lit 1))
    (fun _ => .err (nat_lit 1))
    (fun _ _ _ _ => .err (nat_lit 1))
    (fun _ => .err (nat_lit 1))
    (fun _ _ _ _ _ _ _ => .err (nat_lit 1))
    (fun _ => .err (nat_lit 1))
    (fun _ _ => .err (nat_lit 1))
    (fun _ _ _ _ _ _ => .err (nat_lit 1))
    (fun _ => .err (nat_lit 1))
    (fun _ _ _ _ => .err (nat_lit 1))
    (fun _ => .err (nat_lit 1))
    (fun _ _ _ => .err (nat_lit 1))
    (fun _ _ _ => .err (nat_lit 1))
    (fun _ _ _ => .err (nat_lit 1))
    (fun _ _ => .err (nat_lit 1))
    ⟨⟩ (fun _ _ _ _ => ⟨⟩)

/-- As 'onI'; at a value of which nothing but its sign is known: the sign's number. -/
noncomputable def AV.onIG : AV → (IntKind → Int → Ans) → (Nat → Ans) → Ans :=
  AV.rec (motive_1 := fun _ => (IntKind → Int → Ans) → (Nat → Ans) → Ans) (motive_2 := fun _ => PUnit)
    (fun _ _ _ => .err (nat_lit 1))
    (fun x0 x1 K _ => K x0 x1)
    (fun _ _ _ _ => .err (nat_lit 1))
    (fun _ _ => .err (nat_lit 1))
    (fun _ _ _ _ _ => .err (nat_lit 1))
    (fun _ _ => .err (nat_lit 1))
    (fun _ _ _ _ _ _ _ _ => .err (nat_lit 1))
    (fun _ _ => .err (nat_lit 1))
    (fun _ _ _ => .err (nat_lit 1))
    (fun _ _ _ _ _ _ _ => .err (nat_lit 1))
    (fun _ _ => .err (nat_lit 1))
    (fun _ _ _ _ _ => .err (nat_lit 1))
    (fun _ _ => .err (nat_lit 1))
    (fun _ _ _ _ => .err (nat_lit 1))
    (fun _ _ _ _ => .err (nat_lit 1))
    (fun _ o _ G => G o)
    (fun _ _ _ => .err (nat_lit 1))
    ⟨⟩ (fun _ _ _ _ => ⟨⟩)

noncomputable def AV.onS : AV → (Nat → Nat → Ans) → Ans :=
  AV.rec (motive_1 := fun _ => (Nat → Nat → Ans) → Ans) (motive_2 := fun _ => PUnit)
    (fun _ _ => .err (nat_lit 1))
    (fun _ _ _ => .err (nat_lit 1))
    (fun x0 x1 K => K x0 x1)
    (fun _ => .err (nat_lit 1))
    (fun _ _ _ _ => .err (nat_lit 1))
    (fun _ => .err (nat_lit 1))
    (fun _ _ _ _ _ _ _ => .err (nat_lit 1))
    (fun _ => .err (nat_lit 1))
    (fun _ _ => .err (nat_lit 1))
    (fun _ _ _ _ _ _ => .err (nat_lit 1))
    (fun _ => .err (nat_lit 1))
    (fun _ _ _ _ => .err (nat_lit 1))
    (fun _ => .err (nat_lit 1))
    (fun _ _ _ => .err (nat_lit 1))
    (fun _ _ _ => .err (nat_lit 1))
    (fun _ _ _ => .err (nat_lit 1))
    (fun _ _ => .err (nat_lit 1))
    ⟨⟩ (fun _ _ _ _ => ⟨⟩)

noncomputable def AV.onP : AV → (Nat → Nat → Nat → Ans) → Ans :=
  AV.rec (motive_1 := fun _ => (Nat → Nat → Nat → Ans) → Ans) (motive_2 := fun _ => PUnit)
    (fun _ _ => .err (nat_lit 1))
    (fun _ _ _ => .err (nat_lit 1))
    (fun _ _ _ => .err (nat_lit 1))
    (fun _ => .err (nat_lit 1))
    (fun x0 x1 x2 K => K x0 x1 x2)
    (fun _ => .err (nat_lit 1))
    (fun _ _ _ _ _ _ _ => .err (nat_lit 1))
    (fun _ => .err (nat_lit 1))
    (fun _ _ => .err (nat_lit 1))
    (fun _ _ _ _ _ _ => .err (nat_lit 1))
    (fun _ => .err (nat_lit 1))
    (fun _ _ _ _ => .err (nat_lit 1))
    (fun _ => .err (nat_lit 1))
    (fun _ _ _ => .err (nat_lit 1))
    (fun _ _ _ => .err (nat_lit 1))
    (fun _ _ _ => .err (nat_lit 1))
    (fun _ _ => .err (nat_lit 1))
    ⟨⟩ (fun _ _ _ _ => ⟨⟩)

noncomputable def AV.onSl : AV → (Nat → Nat → Nat → Nat → Nat → Nat → Ans) → Ans :=
  AV.rec (motive_1 := fun _ => (Nat → Nat → Nat → Nat → Nat → Nat → Ans) → Ans) (motive_2 := fun _ => PUnit)
    (fun _ _ => .err (nat_lit 1))
    (fun _ _ _ => .err (nat_lit 1))
    (fun _ _ _ => .err (nat_lit 1))
    (fun _ => .err (nat_lit 1))
    (fun _ _ _ _ => .err (nat_lit 1))
    (fun _ => .err (nat_lit 1))
    (fun x0 x1 x2 x3 x4 x5 K => K x0 x1 x2 x3 x4 x5)
    (fun _ => .err (nat_lit 1))
    (fun _ _ => .err (nat_lit 1))
    (fun _ _ _ _ _ _ => .err (nat_lit 1))
    (fun _ => .err (nat_lit 1))
    (fun _ _ _ _ => .err (nat_lit 1))
    (fun _ => .err (nat_lit 1))
    (fun _ _ _ => .err (nat_lit 1))
    (fun _ _ _ => .err (nat_lit 1))
    (fun _ _ _ => .err (nat_lit 1))
    (fun _ _ => .err (nat_lit 1))
    ⟨⟩ (fun _ _ _ _ => ⟨⟩)

noncomputable def AV.onM : AV → (Nat → Ans) → Ans :=
  AV.rec (motive_1 := fun _ => (Nat → Ans) → Ans) (motive_2 := fun _ => PUnit)
    (fun _ _ => .err (nat_lit 1))
    (fun _ _ _ => .err (nat_lit 1))
    (fun _ _ _ => .err (nat_lit 1))
    (fun _ => .err (nat_lit 1))
    (fun _ _ _ _ => .err (nat_lit 1))
    (fun _ => .err (nat_lit 1))
    (fun _ _ _ _ _ _ _ => .err (nat_lit 1))
    (fun _ => .err (nat_lit 1))
    (fun x0 K => K x0)
    (fun _ _ _ _ _ _ => .err (nat_lit 1))
    (fun _ => .err (nat_lit 1))
    (fun _ _ _ _ => .err (nat_lit 1))
    (fun _ => .err (nat_lit 1))
    (fun _ _ _ => .err (nat_lit 1))
    (fun _ _ _ => .err (nat_lit 1))
    (fun _ _ _ => .err (nat_lit 1))
    (fun _ _ => .err (nat_lit 1))
    ⟨⟩ (fun _ _ _ _ => ⟨⟩)

noncomputable def AV.onIfc : AV → (TypeId → AV → Ans) → Ans :=
  AV.rec (motive_1 := fun _ => (TypeId → AV → Ans) → Ans) (motive_2 := fun _ => PUnit)
    (fun _ _ => .err (nat_lit 1))
    (fun _ _ _ => .err (nat_lit 1))
    (fun _ _ _ => .err (nat_lit 1))
    (fun _ => .err (nat_lit 1))
    (fun _ _ _ _ => .err (nat_lit 1))
    (fun _ => .err (nat_lit 1))
    (fun _ _ _ _ _ _ _ => .err (nat_lit 1))
    (fun _ => .err (nat_lit 1))
    (fun _ _ => .err (nat_lit 1))
    (fun _ _ _ _ _ _ => .err (nat_lit 1))
    (fun _ => .err (nat_lit 1))
    (fun x0 x1 _ K => K x0 x1)
    (fun _ => .err (nat_lit 1))
    (fun _ _ _ => .err (nat_lit 1))
    (fun _ _ _ => .err (nat_lit 1))
    (fun _ _ _ => .err (nat_lit 1))
    (fun _ _ => .err (nat_lit 1))
    ⟨⟩ (fun _ _ _ _ => ⟨⟩)

noncomputable def AV.onAg : AV → (List AV → Ans) → Ans :=
  AV.rec (motive_1 := fun _ => (List AV → Ans) → Ans) (motive_2 := fun _ => PUnit)
    (fun _ _ => .err (nat_lit 1))
    (fun _ _ _ => .err (nat_lit 1))
    (fun _ _ _ => .err (nat_lit 1))
    (fun _ => .err (nat_lit 1))
    (fun _ _ _ _ => .err (nat_lit 1))
    (fun _ => .err (nat_lit 1))
    (fun _ _ _ _ _ _ _ => .err (nat_lit 1))
    (fun _ => .err (nat_lit 1))
    (fun _ _ => .err (nat_lit 1))
    (fun _ _ _ _ _ _ => .err (nat_lit 1))
    (fun _ => .err (nat_lit 1))
    (fun _ _ _ _ => .err (nat_lit 1))
    (fun _ => .err (nat_lit 1))
    (fun x0 _ K => K x0)
    (fun _ _ _ => .err (nat_lit 1))
    (fun _ _ _ => .err (nat_lit 1))
    (fun _ _ => .err (nat_lit 1))
    ⟨⟩ (fun _ _ _ _ => ⟨⟩)

noncomputable def AV.onTu : AV → (List AV → Ans) → Ans :=
  AV.rec (motive_1 := fun _ => (List AV → Ans) → Ans) (motive_2 := fun _ => PUnit)
    (fun _ _ => .err (nat_lit 1))
    (fun _ _ _ => .err (nat_lit 1))
    (fun _ _ _ => .err (nat_lit 1))
    (fun _ => .err (nat_lit 1))
    (fun _ _ _ _ => .err (nat_lit 1))
    (fun _ => .err (nat_lit 1))
    (fun _ _ _ _ _ _ _ => .err (nat_lit 1))
    (fun _ => .err (nat_lit 1))
    (fun _ _ => .err (nat_lit 1))
    (fun _ _ _ _ _ _ => .err (nat_lit 1))
    (fun _ => .err (nat_lit 1))
    (fun _ _ _ _ => .err (nat_lit 1))
    (fun _ => .err (nat_lit 1))
    (fun _ _ _ => .err (nat_lit 1))
    (fun x0 _ K => K x0)
    (fun _ _ _ => .err (nat_lit 1))
    (fun _ _ => .err (nat_lit 1))
    ⟨⟩ (fun _ _ _ _ => ⟨⟩)


/-! ### lists -/
noncomputable def revK (l : List AV) : List AV → (List AV → Ans) → Ans :=
  List.rec (motive := fun _ => List AV → (List AV → Ans) → Ans) (fun acc K => K acc) (fun x _ ih acc K => ih (x :: acc) K) l
noncomputable def lenN (l : List AV) : Nat := List.rec (motive := fun _ => Nat) Nat.zero (fun _ _ ih => Nat.succ ih) l
noncomputable def nthK (l : List AV) : Nat → (AV → Ans) → Ans :=
  List.rec (motive := fun _ => Nat → (AV → Ans) → Ans) (fun _ _ => .err (nat_lit 5))
    (fun x _ ih k K => Nat.rec (motive := fun _ => Ans) (K x) (fun m _ => ih m K) k) l
noncomputable def putCells (l : List AV) : Nat → BV4 → (BV4 → Ans) → Ans :=
  List.rec (motive := fun _ => Nat → BV4 → (BV4 → Ans) → Ans) (fun _ t K => K t) (fun v _ ih o t K => BV4.setK t o v fun t' => ih (Nat.succ o) t' K) l
/-- The cells 'o' .. 'o + n - 1', read (the last one first). -/
noncomputable def getCells (n : Nat) : BV4 → Nat → List AV → (List AV → Ans) → Ans :=
  Nat.rec (motive := fun _ => BV4 → Nat → List AV → (List AV → Ans) → Ans) (fun _ _ acc K => K acc)
    (fun m ih t o acc K => BV4.getK t (Nat.add o m) fun v => ih t o (v :: acc) K) n
noncomputable def cellsK : AV → (List AV → Ans) → Ans :=
  AV.rec (motive_1 := fun _ => (List AV → Ans) → Ans) (motive_2 := fun _ => PUnit)
    (fun x K => K [.b x]) (fun k n K => K [.i k n]) (fun n c K => K [.s n c]) (fun K => K [.p0]) (fun a v o K => K [.p a v o]) (fun K => K [.sl0])
    (fun a v o n es c K => K [.sl a v o n es c]) (fun K => K [.m0]) (fun a K => K [.m a]) (fun f x y _ _ K => K [.fn f x y]) (fun K => K [.f0])
    (fun t x _ K => K [.ifc t x]) (fun K => K [.i0]) (fun cs _ K => K cs) (fun _ _ _ => .err (nat_lit 6)) (fun g o K => K [.gp g o]) (fun l K => K [.yl l])
    ⟨⟩ (fun _ _ _ _ => ⟨⟩)

/-! ### constants -/
def encB (l : List UInt8) : Nat := l.foldl (fun a b => a * 256 + b.toNat) 0
def encS (s : ByteArray) : Nat := encB s.data.toList
/-- A value of one cell. -/
def cellA : AV → Bool
  | .ag _ => false
  | .tu _ => false
  | _ => true
def absV : Nat → Value → Option AV
  | 0, _ => none
  | n + 1, v => match v with
    | .bool x => some (.b x)
    | .int k x => some (.i k x)
    | .string s => some (.s s.size (encS s))
    | .pointer a => match a with
      | none => some .p0
      | some _ => none
    | .slice a l c => match a with
      | none => if l = 0 ∧ c = 0 then some .sl0 else none
      | some _ => none
    | .map r => match r with
      | none => some .m0
      | some _ => none
    | .nilFunc => some .f0
    | .nilIface => some .i0
    | .iface t v => match absV n v with
      | some x => some (.ifc t x)
      | none => none
    | .agg cs => match cs.toList.mapM (absV n) with
      | some l => if l.all cellA then some (.ag l) else none
      | none => none
    | .func f a b => match f with
      | .func g => if a.size = 0 ∧ b.size = 0 then some (.fn (.func g) [] []) else none
      | _ => none
    | .tuple vs => if vs.size = 0 then some (.tu []) else none
    | _ => none

end Go.AB
namespace Go.AB

/-! ### closed questions to the program -/
noncomputable def drop16F (l : List Func) : List Func := Nat.rec (motive := fun _ => List Func → List Func) (fun l => l) (fun _ ih l => List.rec (motive := fun _ => List Func) [] (fun _ t _ => ih t) l) (nat_lit 16) l
noncomputable def nthF (l : List Func) : Nat → Option Func :=
  List.rec (motive := fun _ => Nat → Option Func) (fun _ => none) (fun x _ ih k => Nat.rec (motive := fun _ => Option Func) (some x) (fun m _ => ih m) k) l
noncomputable def blkF (P : Program) (k : Nat) : List Func := Nat.rec (motive := fun _ => List Func) P.funcs.toList (fun _ ih => drop16F ih) k
noncomputable def funcP (P : Program) (f : Nat) : Option Func := nthF (blkF P (Nat.div f (nat_lit 16))) (Nat.mod f (nat_lit 16))
noncomputable def drop16T (l : List TypeInfo) : List TypeInfo := Nat.rec (motive := fun _ => List TypeInfo → List TypeInfo) (fun l => l) (fun _ ih l => List.rec (motive := fun _ => List TypeInfo) [] (fun _ t _ => ih t) l) (nat_lit 16) l
noncomputable def nthT (l : List TypeInfo) : Nat → Option TypeInfo :=
  List.rec (motive := fun _ => Nat → Option TypeInfo) (fun _ => none) (fun x _ ih k => Nat.rec (motive := fun _ => Option TypeInfo) (some x) (fun m _ => ih m) k) l
noncomputable def blkT (P : Program) (k : Nat) : List TypeInfo := Nat.rec (motive := fun _ => List TypeInfo) P.types.toList (fun _ ih => drop16T ih) k
noncomputable def typeP (P : Program) (t : Nat) : Option TypeInfo := nthT (blkT P (Nat.div t (nat_lit 16))) (Nat.mod t (nat_lit 16))
noncomputable def underP (P : Program) (t : Nat) : Option TypeDesc := match typeP P t with
  | some i => match i.desc with
    | .named _ u => match typeP P u with
      | some j => some j.desc
      | none => none
    | d => some d
  | none => none

noncomputable def sizeP (P : Program) (t : TypeId) : Nat := match typeP P t with | some i => i.size | none => 0
noncomputable def aggP (P : Program) (t : TypeId) : Bool := match underP P t with
  | some (.struct _) | some (.array _ _) => true
  | _ => false
noncomputable def zeroP (P : Program) (t : TypeId) : Option (List AV) := match typeP P t with
  | some i => match i.zero with
    | some z => match z.cells.toList.mapM (absV 10) with
      | some l => if l.all cellA then some l else none
      | none => none
    | none => none
  | none => none
/-- (offset, size, is it a struct or an array) of field f of a struct type -/
noncomputable def fieldP (P : Program) (t : TypeId) (f : Nat) : Option (Nat × Nat × Bool) := match underP P t with
  | some (.struct fs) => match fs.toList[f]? with
    | some x => match underP P x.type with
      | some _ => some (x.offset, sizeP P x.type, aggP P x.type)
      | none => none
    | none => none
  | _ => none
noncomputable def elemP (P : Program) (t : TypeId) : Option TypeId := match underP P t with
  | some (.slice e) => match underP P e with
    | some _ => some e
    | none => none
  | _ => none
noncomputable def arrP (P : Program) (t : TypeId) : Option (Nat × TypeId) := match underP P t with
  | some (.array n e) => match underP P e with
    | some _ => some (n, e)
    | none => none
  | _ => none

/-! ### whole numbers -/
noncomputable def ltI (x y : Int) : Bool :=
  Int.rec (motive := fun _ => Int → Bool) (fun a y => Int.rec (motive := fun _ => Bool) (fun b => Nat.ble (Nat.succ a) b) (fun _ => false) y)
    (fun a y => Int.rec (motive := fun _ => Bool) (fun _ => true) (fun b => Nat.ble (Nat.succ b) a) y) x y
noncomputable def eqI (x y : Int) : Bool :=
  Int.rec (motive := fun _ => Int → Bool) (fun a y => Int.rec (motive := fun _ => Bool) (fun b => Nat.beq a b) (fun _ => false) y)
    (fun a y => Int.rec (motive := fun _ => Bool) (fun _ => false) (fun b => Nat.beq a b) y) x y
noncomputable def natOf (x : Int) (K : Nat → Ans) : Ans := Int.rec (motive := fun _ => (Nat → Ans) → Ans) (fun a K => K a) (fun _ _ => .err 6) x K
noncomputable def kindNo (k : IntKind) : Nat := IntKind.rec (motive := fun _ => Nat) 0 1 2 3 4 5 6 7 k
noncomputable def kindEq (k j : IntKind) : Bool := Nat.beq (kindNo k) (kindNo j)
/-- What fits 64 bits stays; other numbers, and other kinds, are wrapped as the model wraps. -/
noncomputable def fitPos (K : AV → Ans) (a : Nat) : Ans := ifK (Nat.ble a (nat_lit 9223372036854775807)) (forceN a fun a => K (.i .i64 (.ofNat a))) (forceI (IntKind.wrap .i64 (.ofNat a)) fun m => K (.i .i64 m))
noncomputable def fitNeg (K : AV → Ans) (a : Nat) : Ans := ifK (Nat.ble a (nat_lit 9223372036854775807)) (forceN a fun a => K (.i .i64 (.negSucc a))) (forceI (IntKind.wrap .i64 (.negSucc a)) fun m => K (.i .i64 m))
noncomputable def wrap64K (n : Int) (K : AV → Ans) : Ans := Int.rec (motive := fun _ => (AV → Ans) → Ans) (fun a K => fitPos K a) (fun a K => fitNeg K a) n K
noncomputable def wrapSlow (k : IntKind) (n : Int) (K : AV → Ans) : Ans := forceI (IntKind.wrap k n) fun m => K (.i k m)
noncomputable def wrapK (k : IntKind) : Int → (AV → Ans) → Ans :=
  IntKind.rec (motive := fun _ => Int → (AV → Ans) → Ans) (wrapSlow .i8) (wrapSlow .i16) (wrapSlow .i32) wrap64K (wrapSlow .u8) (wrapSlow .u16) (wrapSlow .u32) (wrapSlow .u64) k
noncomputable def iAdd (x y : Int) : Int := Int.rec (motive := fun _ => Int → Int) (fun a y => Int.rec (motive := fun _ => Int) (fun b => .ofNat (Nat.add a b)) (fun b => Int.add (.ofNat a) (.negSucc b)) y) (fun a y => Int.add (.negSucc a) y) x y
noncomputable def iSub (x y : Int) : Int := Int.rec (motive := fun _ => Int → Int) (fun a y => Int.rec (motive := fun _ => Int)
    (fun b => Bool.rec (motive := fun _ => Int) (.negSucc (Nat.sub b (Nat.succ a))) (.ofNat (Nat.sub a b)) (Nat.ble b a)) (fun b => Int.sub (.ofNat a) (.negSucc b)) y) (fun a y => Int.sub (.negSucc a) y) x y
noncomputable def iMul (x y : Int) : Int := Int.rec (motive := fun _ => Int → Int) (fun a y => Int.rec (motive := fun _ => Int) (fun b => .ofNat (Nat.mul a b)) (fun b => Int.mul (.ofNat a) (.negSucc b)) y) (fun a y => Int.mul (.negSucc a) y) x y
noncomputable def boolK (b : Bool) (K : AV → Ans) : Ans := forceB b fun b => K (.b b)

inductive BI where
  | mk (f : IntKind → Int → Int → (AV → Ans) → Ans)
noncomputable def BI.run (b : BI) : IntKind → Int → Int → (AV → Ans) → Ans := BI.rec (motive := fun _ => IntKind → Int → Int → (AV → Ans) → Ans) (fun f => f) b
noncomputable def bitsK (f : (n : Nat) → BitVec n → BitVec n → BitVec n) (k : IntKind) (x y : Int) (K : AV → Ans) : Ans :=
  forceI (k.wrap (f k.bits (BitVec.ofInt k.bits x) (BitVec.ofInt k.bits y)).toNat) fun m => K (.i k m)
noncomputable def intBI (op : BinOp) : BI := match op with
  | .add => .mk fun k x y K => wrapK k (iAdd x y) K
  | .sub => .mk fun k x y K => wrapK k (iSub x y) K
  | .mul => .mk fun k x y K => wrapK k (iMul x y) K
  | .quo => .mk fun k x y K => ifK (eqI y 0) (.err 10) (wrapK k (x.tdiv y) K)
  | .rem => .mk fun k x y K => ifK (eqI y 0) (.err 10) (forceI (x.tmod y) fun m => K (.i k m))
  | .and => .mk (bitsK fun _ a b => a &&& b)
  | .or => .mk (bitsK fun _ a b => a ||| b)
  | .xor => .mk (bitsK fun _ a b => a ^^^ b)
  | .andNot => .mk (bitsK fun _ a b => a &&& ~~~ b)
  | .eql => .mk fun _ x y K => boolK (eqI x y) K
  | .neq => .mk fun _ x y K => boolK (notB (eqI x y)) K
  | .lss => .mk fun _ x y K => boolK (ltI x y) K
  | .leq => .mk fun _ x y K => boolK (notB (ltI y x)) K
  | .gtr => .mk fun _ x y K => boolK (ltI y x) K
  | .geq => .mk fun _ x y K => boolK (notB (ltI x y)) K
  | .shl => .mk fun k x y K => ifK (ltI y 0) (.err 11) (wrapK k (x * 2 ^ (min y.toNat k.bits)) K)
  | .shr => .mk fun k x y K => ifK (ltI y 0) (.err 11) (forceI (x.fdiv (2 ^ (min y.toNat k.bits))) fun m => K (.i k m))
noncomputable def isShift (op : BinOp) : Bool := match op with | .shl | .shr => true | _ => false

/-! ### strings: the number of bytes, and the bytes as one number -/
noncomputable def strLt2 (p q n m : Nat) : Bool := orB (Nat.ble (Nat.succ p) q) (andB (Nat.beq p q) (Nat.ble (Nat.succ n) m))
noncomputable def strLt (n a m b : Nat) : Bool := Bool.rec (motive := fun _ => Bool)
  (strLt2 (Nat.shiftRight a (Nat.mul (nat_lit 8) (Nat.sub n m))) b n m) (strLt2 a (Nat.shiftRight b (Nat.mul (nat_lit 8) (Nat.sub m n))) n m) (Nat.ble n m)
noncomputable def strEq (n a m b : Nat) : Bool := andB (Nat.beq n m) (Nat.beq a b)
noncomputable def strK (op : BinOp) (n a m b : Nat) (K : AV → Ans) : Ans := match op with
  | .add => ifK (Nat.ble (Nat.add n m) (nat_lit 9223372036854775807)) (forceN (Nat.add n m) fun l => forceN (Nat.add (Nat.shiftLeft a (Nat.mul (nat_lit 8) m)) b) fun c => K (.s l c)) (.err 12)
  | .eql => boolK (strEq n a m b) K
  | .neq => boolK (notB (strEq n a m b)) K
  | .lss => boolK (strLt n a m b) K
  | .leq => boolK (notB (strLt m b n a)) K
  | .gtr => boolK (strLt m b n a) K
  | .geq => boolK (notB (strLt n a m b)) K
  | _ => .err 13
noncomputable def byteN (code j : Nat) : Nat := Nat.mod (Nat.shiftRight code (Nat.mul (nat_lit 8) j)) (nat_lit 256)
noncomputable def strAt (n code i : Nat) : Nat := byteN code (Nat.sub n (Nat.succ i))
noncomputable def strCutK (n code l h : Nat) (K : AV → Ans) : Ans :=
  forceN (Nat.sub h l) fun k => forceN (Nat.mod (Nat.shiftRight code (Nat.mul (nat_lit 8) (Nat.sub n h))) (Nat.pow (nat_lit 256) k)) fun c => K (.s k c)

/-! ### '==' on values: one step each -/
noncomputable def AV.nilP : AV → (Bool → Ans) → Bool → Ans :=
  AV.rec (motive_1 := fun _ => (Bool → Ans) → Bool → Ans) (motive_2 := fun _ => PUnit)
    (fun _ _ _ => .err 14)
    (fun _ _ _ _ => .err 14)
    (fun _ _ _ _ => .err 14)
    (fun K n => K n)
    (fun _ _ _ K n => K (notB n))
    (fun _ _ => .err 14)
    (fun _ _ _ _ _ _ _ _ => .err 14)
    (fun _ _ => .err 14)
    (fun _ _ _ => .err 14)
    (fun _ _ _ _ _ _ _ => .err 14)
    (fun _ _ => .err 14)
    (fun _ _ _ _ _ => .err 14)
    (fun _ _ => .err 14)
    (fun _ _ _ _ => .err 14)
    (fun _ _ _ _ => .err 14)
    (fun _ _ _ _ => .err 14)
    (fun _ _ _ => .err 14)
    ⟨⟩ (fun _ _ _ _ => ⟨⟩)
noncomputable def AV.nilSl : AV → (Bool → Ans) → Bool → Ans :=
  AV.rec (motive_1 := fun _ => (Bool → Ans) → Bool → Ans) (motive_2 := fun _ => PUnit)
    (fun _ _ _ => .err 14)
    (fun _ _ _ _ => .err 14)
    (fun _ _ _ _ => .err 14)
    (fun _ _ => .err 14)
    (fun _ _ _ _ _ => .err 14)
    (fun K n => K n)
    (fun _ _ _ _ _ _ K n => ifK n (K false) (.err 14))
    (fun _ _ => .err 14)
    (fun _ _ _ => .err 14)
    (fun _ _ _ _ _ _ _ => .err 14)
    (fun _ _ => .err 14)
    (fun _ _ _ _ _ => .err 14)
    (fun _ _ => .err 14)
    (fun _ _ _ _ => .err 14)
    (fun _ _ _ _ => .err 14)
    (fun _ _ _ _ => .err 14)
    (fun _ _ _ => .err 14)
    ⟨⟩ (fun _ _ _ _ => ⟨⟩)
noncomputable def AV.nilM : AV → (Bool → Ans) → Bool → Ans :=
  AV.rec (motive_1 := fun _ => (Bool → Ans) → Bool → Ans) (motive_2 := fun _ => PUnit)
    (fun _ _ _ => .err 14)
    (fun _ _ _ _ => .err 14)
    (fun _ _ _ _ => .err 14)
    (fun _ _ => .err 14)
    (fun _ _ _ _ _ => .err 14)
    (fun _ _ => .err 14)
    (fun _ _ _ _ _ _ _ _ => .err 14)
    (fun K n => K n)
    (fun _ K n => ifK n (K false) (.err 14))
    (fun _ _ _ _ _ _ _ => .err 14)
    (fun _ _ => .err 14)
    (fun _ _ _ _ _ => .err 14)
    (fun _ _ => .err 14)
    (fun _ _ _ _ => .err 14)
    (fun _ _ _ _ => .err 14)
    (fun _ _ _ _ => .err 14)
    (fun _ _ _ => .err 14)
    ⟨⟩ (fun _ _ _ _ => ⟨⟩)
noncomputable def AV.nilF : AV → (Bool → Ans) → Bool → Ans :=
  AV.rec (motive_1 := fun _ => (Bool → Ans) → Bool → Ans) (motive_2 := fun _ => PUnit)
    (fun _ _ _ => .err 14)
    (fun _ _ _ _ => .err 14)
    (fun _ _ _ _ => .err 14)
    (fun _ _ => .err 14)
    (fun _ _ _ _ _ => .err 14)
    (fun _ _ => .err 14)
    (fun _ _ _ _ _ _ _ _ => .err 14)
    (fun _ _ => .err 14)
    (fun _ _ _ => .err 14)
    (fun _ _ _ _ _ K n => ifK n (K false) (.err 14))
    (fun K n => K n)
    (fun _ _ _ _ _ => .err 14)
    (fun _ _ => .err 14)
    (fun _ _ _ _ => .err 14)
    (fun _ _ _ _ => .err 14)
    (fun _ _ _ _ => .err 14)
    (fun _ _ _ => .err 14)
    ⟨⟩ (fun _ _ _ _ => ⟨⟩)
noncomputable def eqB (x y : Bool) : Bool := Bool.rec (motive := fun _ => Bool) (notB y) y x
noncomputable def samePK (a v o a' v' o' : Nat) (K : Bool → Ans) : Ans := ifK (Nat.beq a a') (ifK (Nat.beq v v') (K (Nat.beq o o')) (.err 14)) (K false)
noncomputable def AV.eqP : AV → Nat → Nat → Nat → (Bool → Ans) → Ans :=
  AV.rec (motive_1 := fun _ => Nat → Nat → Nat → (Bool → Ans) → Ans) (motive_2 := fun _ => PUnit)
    (fun _ _ _ _ _ => .err 14)
    (fun _ _ _ _ _ _ => .err 14)
    (fun _ _ _ _ _ _ => .err 14)
    (fun _ _ _ K => K false)
    (fun a' v' o' a v o K => samePK a v o a' v' o' K)
    (fun _ _ _ _ => .err 14)
    (fun _ _ _ _ _ _ _ _ _ _ => .err 14)
    (fun _ _ _ _ => .err 14)
    (fun _ _ _ _ _ => .err 14)
    (fun _ _ _ _ _ _ _ _ _ => .err 14)
    (fun _ _ _ _ => .err 14)
    (fun _ _ _ _ _ _ _ => .err 14)
    (fun _ _ _ _ => .err 14)
    (fun _ _ _ _ _ _ => .err 14)
    (fun _ _ _ _ _ _ => .err 14)
    (fun _ _ _ _ _ _ => .err 14)
    (fun _ _ _ _ _ => .err 14)
    ⟨⟩ (fun _ _ _ _ => ⟨⟩)
noncomputable def litEqK : AV → AV → (Bool → Ans) → Ans :=
  AV.rec (motive_1 := fun _ => AV → (Bool → Ans) → Ans) (motive_2 := fun _ => PUnit)
    (fun x y K => y.onB fun z => K (eqB x z))
    (fun k n y K => y.onI fun j m => ifK (kindEq k j) (K (eqI n m)) (.err 14))
    (fun n c y K => y.onS fun m d => K (strEq n c m d))
    (fun y K => y.nilP K true)
    (fun a v o y K => y.eqP a v o K)
    (fun y K => y.nilSl K true)
    (fun _ _ _ _ _ _ y K => y.nilSl K false)
    (fun y K => y.nilM K true)
    (fun _ y K => y.nilM K false)
    (fun _ _ _ _ _ y K => y.nilF K false)
    (fun y K => y.nilF K true)
    (fun _ _ _ _ _ => .err 14)
    (fun _ _ => .err 14)
    (fun _ _ _ _ => .err 14)
    (fun _ _ _ _ => .err 14)
    (fun _ _ _ _ => .err 14)
    (fun _ _ _ => .err 14)
    ⟨⟩ (fun _ _ _ _ => ⟨⟩)
noncomputable def AV.kd : AV → Nat :=
  AV.rec (motive_1 := fun _ => Nat) (motive_2 := fun _ => PUnit)
    (fun _ => nat_lit 0)
    (fun _ _ => nat_lit 1)
    (fun _ _ => nat_lit 2)
    (nat_lit 3)
    (fun _ _ _ => nat_lit 3)
    (nat_lit 4)
    (fun _ _ _ _ _ _ => nat_lit 4)
    (nat_lit 5)
    (fun _ => nat_lit 5)
    (fun _ _ _ _ _ => nat_lit 6)
    (nat_lit 6)
    (fun _ _ _ => nat_lit 7)
    (nat_lit 7)
    (fun _ _ => nat_lit 8)
    (fun _ _ => nat_lit 9)
    (fun _ _ => nat_lit 9)
    (fun _ => nat_lit 9)
    ⟨⟩ (fun _ _ _ _ => ⟨⟩)
/-- The kind of a type whose values are compared as they lie. -/
noncomputable def kdP (P : Program) (t : TypeId) : Option Nat := match underP P t with
  | some .bool => some (nat_lit 0)
  | some (.int _) => some (nat_lit 1)
  | some .string => some (nat_lit 2)
  | some (.pointer e) => match Nat.ble (nat_lit 1) (sizeP P e) with | true => some (nat_lit 3) | false => none
  | some (.slice _) => some (nat_lit 4)
  | some (.map _ _) => some (nat_lit 5)
  | some (.func _ _ _) => some (nat_lit 6)
  | _ => none
noncomputable def AV.nilI : AV → (Bool → Ans) → Bool → Ans :=
  AV.rec (motive_1 := fun _ => (Bool → Ans) → Bool → Ans) (motive_2 := fun _ => PUnit)
    (fun _ _ _ => .err 14)
    (fun _ _ _ _ => .err 14)
    (fun _ _ _ _ => .err 14)
    (fun _ _ => .err 14)
    (fun _ _ _ _ _ => .err 14)
    (fun _ _ => .err 14)
    (fun _ _ _ _ _ _ _ _ => .err 14)
    (fun _ _ => .err 14)
    (fun _ _ _ => .err 14)
    (fun _ _ _ _ _ _ _ => .err 14)
    (fun _ _ => .err 14)
    (fun _ _ _ K n => ifK n (K false) (.err 14))
    (fun K n => K n)
    (fun _ _ _ _ => .err 14)
    (fun _ _ _ _ => .err 14)
    (fun _ _ _ _ => .err 14)
    (fun _ _ _ => .err 14)
    ⟨⟩ (fun _ _ _ _ => ⟨⟩)
/-! ### loads and stores -/
noncomputable def readK (agg : Bool) : Nat → BV4 → Nat → (AV → Ans) → Ans :=
  Bool.rec (motive := fun _ => Nat → BV4 → Nat → (AV → Ans) → Ans) (fun _ cs o K => BV4.getK cs o K) (fun size cs o K => getCells size cs o [] fun l => K (.ag l)) agg
noncomputable def verOk (lw v cur : Nat) : Bool := andB (Nat.ble lw v) (Nat.ble v cur)
noncomputable def loadK (agg : Bool) (size : Nat) (h : H) (p : AV) (K : AV → Ans) : Ans :=
  p.onP fun a v o => h.getK a fun ob => ob.row (fun n cs => ifK (Nat.ble (Nat.add o size) n) (readK agg size cs o K) (.err 19)) (fun n cs lw => ifK (andB (verOk lw v n) (Nat.ble (Nat.add o size) v)) (readK agg size cs o K) (.err 20))
noncomputable def storeCs (size : Nat) (h : H) (p : AV) (K : H → Ans) (l : List AV) : Ans :=
  ifK (Nat.beq (lenN l) size)
    (p.onP fun a v o => h.getK a fun ob => ob.row
      (fun n cs => ifK (Nat.ble (Nat.add o size) n) (putCells l o cs fun cs' => h.putK a (.blk n cs') K) (.err 21))
      (fun n cs _ => ifK (andB (Nat.beq v n) (Nat.ble (Nat.add o size) n)) (putCells l o cs fun cs' => h.putK a (.grow n cs' n) K) (.err 22)))
    (.err 23)
noncomputable def storeK (size : Nat) (h : H) (p x : AV) (K : H → Ans) : Ans := cellsK x (storeCs size h p K)

/-- Parts laid into cells. -/
noncomputable def fillA (place : Nat → Option (Nat × Nat)) (n : Nat) (l : List (Nat × AV)) : BV4 → (BV4 → Ans) → Ans :=
  List.rec (motive := fun _ => BV4 → (BV4 → Ans) → Ans) (fun t K => K t)
    (fun x _ ih t K => Option.rec (motive := fun _ => Ans) (.err 24) (fun p => cellsK x.2 fun c => ifK (andB (Nat.beq (lenN c) p.2) (Nat.ble (Nat.add p.1 p.2) n)) (putCells c p.1 t fun t' => ih t' K) (.err 25)) (place x.1)) l
noncomputable def repA (z : List AV) (n : Nat) : Nat → BV4 → (BV4 → Ans) → Ans :=
  Nat.rec (motive := fun _ => Nat → BV4 → (BV4 → Ans) → Ans) (fun _ t K => K t)
    (fun _ ih o t K => putCells z o t fun t' => forceN (Nat.add o (lenN z)) fun o' => ih o' t' K) n

noncomputable def placesP (P : Program) (t : TypeId) (i : Nat) : Option (Nat × Nat) := (fieldP P t i).map fun x => (x.1, x.2.1)

inductive BZ where
  | mk (n : Nat) (t : BV4) (l : List AV)
  | no
/-- The zero value of a type, as a tree and as a list. -/
noncomputable def zeroBZ (P : Program) (t : TypeId) : BZ := match zeroP P t with
  | some z => putCellsZ z
  | none => .no
where putCellsZ (z : List AV) : BZ := match putCells z 0 .e fun t => Ans.ok .p0 ⟨0, .nd (.blk 0 t) .e .e .e .e⟩ with
  | .ok _ ⟨_, .nd (.blk _ t) _ _ _ _⟩ => .mk z.length t z
  | _ => .no
noncomputable def BZ.run (b : BZ) : (Nat → BV4 → List AV → Ans) → Ans := BZ.rec (motive := fun _ => (Nat → BV4 → List AV → Ans) → Ans) (fun n t l K => K n t l) (fun _ => .err 26) b

noncomputable def allocK (P : Program) (elem : TypeId) (h : H) (K : KV) : Ans :=
  (zeroBZ P elem).run fun n t _ => h.newK (.blk n t) fun a h' => K (.p a 0 0) h'
noncomputable def boxK (elem : TypeId) (x : AV) (h : H) (K : KV) : Ans :=
  cellsK x fun l => putCells l 0 .e fun t => forceN (lenN l) fun n => h.newK (.blk n t) fun a h' => K (.p a 0 0) h'
/-- All fields have a type. -/
noncomputable def allTy (P : Program) (l : List Field) : Bool := List.rec (motive := fun _ => Bool) true (fun f _ ih => match typeP P f.type with | some _ => ih | none => false) l
noncomputable def buildK (P : Program) (t : TypeId) (parts : List (Nat × AV)) (K : AV → Ans) : Ans :=
  match underP P t with
  | some (.struct fs) => match allTy P fs.toList with
    | true => (zeroBZ P t).run fun n z _ => fillA (placesP P t) n parts z fun c => getCells n c 0 [] fun l => K (.ag l)
    | false => .err 27
  | some (.array _ e) => match typeP P e with
    | some _ => (zeroBZ P t).run fun n z _ => fillA (fun i => some (i * sizeP P e, sizeP P e)) n parts z fun c => getCells n c 0 [] fun l => K (.ag l)
    | none => .err 27
  | _ => .err 27
noncomputable def buildSliceK (P : Program) (t : TypeId) (len : Nat) (parts : List (Nat × AV)) (h : H) (K : KV) : Ans :=
  match elemP P t with
  | some e => (zeroBZ P e).run fun es _ z => match es with
    | 0 => .err 28
    | es' + 1 => ifK (andB (Nat.beq (Nat.succ es') (sizeP P e)) (Nat.ble (Nat.mul len (Nat.succ es')) (nat_lit 16777216))) (repA z len 0 .e fun c => fillA (fun i => some (i * (es' + 1), es' + 1)) (Nat.mul len (Nat.succ es')) parts c fun c =>
        h.newK (.blk (Nat.mul len (Nat.succ es')) c) fun a h' => K (.sl a 0 0 len (es' + 1) 0) h') (.err 28)
  | none => .err 29

/-! ### fields and elements -/
inductive BN where     -- a field: offset, size, aggregate
  | mk (off size : Nat) (agg : Bool)
  | no
noncomputable def fieldBN (P : Program) (s : TypeId) (f : Nat) : BN := match fieldP P s f with
  | some (off, size, agg) => .mk off size agg
  | none => .no
noncomputable def BN.run (b : BN) : (Nat → Nat → Bool → Ans) → Ans := BN.rec (motive := fun _ => (Nat → Nat → Bool → Ans) → Ans) (fun o s a K => K o s a) (fun _ => .err 30) b
noncomputable def dropK (l : List AV) : Nat → (List AV → Ans) → Ans :=
  List.rec (motive := fun _ => Nat → (List AV → Ans) → Ans) (fun _ K => K []) (fun x l ih k K => Nat.rec (motive := fun _ => Ans) (K (x :: l)) (fun m _ => ih m K) k) l
noncomputable def takeK (n : Nat) : List AV → List AV → (List AV → Ans) → Ans :=
  Nat.rec (motive := fun _ => List AV → List AV → (List AV → Ans) → Ans) (fun _ acc K => revK acc [] K)
    (fun _ ih l acc K => List.rec (motive := fun _ => Ans) (revK acc [] K) (fun x l' _ => ih l' (x :: acc) K) l) n
noncomputable def partK (agg : Bool) (size off : Nat) (cs : List AV) (K : AV → Ans) : Ans :=
  ifK agg (dropK cs off fun l => takeK size l [] fun l => K (.ag l)) (nthK cs off K)
/-! ### '==' at a type, compiled -/
inductive BQ where
  | mk (f : AV → AV → (Bool → Ans) → Ans)
  | no
inductive BFq where
  | mk (f : List AV → List AV → (Bool → Ans) → Ans)
  | no
noncomputable def eqFs (P : Program) (go : TypeId → BQ) : List Field → BFq
  | [] => .mk fun _ _ K => K true
  | f :: l => match f.name == "_", underP P f.type, go f.type, eqFs P go l with
    | false, some _, .mk g, .mk r => .mk fun xs ys K => partK (aggP P f.type) (sizeP P f.type) f.offset xs fun a => partK (aggP P f.type) (sizeP P f.type) f.offset ys fun b =>
      g a b fun e => ifK e (r xs ys K) (K false)
    | _, _, _, _ => .no
/-- Values of a type without interfaces, compared. -/
noncomputable def eqBQ (P : Program) : Nat → TypeId → BQ
  | 0, _ => .no
  | d + 1, t => match underP P t with
    | some (.struct fs) => match P.stoodInHeld t, eqFs P (eqBQ P d) fs.toList with
      | false, .mk f => .mk fun x y K => x.onAg fun xs => y.onAg fun ys => f xs ys K
      | _, _ => .no
    | _ => match kdP P t with
      | some k => .mk fun x y K => ifK (Nat.beq x.kd k) (litEqK x y K) (.err 15)
      | none => .no
/-- Two values of type `any`, one of them nil at least. -/
noncomputable def anyEqK (x y : AV) (K : Bool → Ans) : Ans :=
  AV.rec (motive_1 := fun _ => AV → Ans) (motive_2 := fun _ => PUnit)
    (fun _ _ => .err 16) (fun _ _ _ => .err 16) (fun _ _ _ => .err 16) (fun _ => .err 16) (fun _ _ _ _ => .err 16) (fun _ => .err 16) (fun _ _ _ _ _ _ _ => .err 16)
    (fun _ => .err 16) (fun _ _ => .err 16) (fun _ _ _ _ _ _ => .err 16) (fun _ => .err 16) (fun _ _ _ y => y.nilI K false) (fun y => y.nilI K true) (fun _ _ _ => .err 16) (fun _ _ _ => .err 16) (fun _ _ _ => .err 16) (fun _ _ => .err 16)
    ⟨⟩ (fun _ _ _ _ => ⟨⟩) x y

noncomputable def fieldAddrK (b : BN) (x : AV) (K : AV → Ans) : Ans :=
  b.run fun off size _ => ifK (Nat.ble (nat_lit 1) size) (x.onP fun a v o => forceN (Nat.add o off) fun o' => K (.p a v o')) (.err 31)
noncomputable def fieldK (b : BN) (x : AV) (K : AV → Ans) : Ans :=
  b.run fun off size agg => x.onAg fun cs => partK agg size off cs K
inductive BA where     -- what is indexed: a slice of elements of so many cells; an array of n such; a string
  | sl (es : Nat)
  | ar (n es : Nat) (agg : Bool)
  | str
  | no
noncomputable def indexBA (P : Program) (t : TypeId) : BA := match elemP P t with
  | some e => .sl (sizeP P e)
  | none => match arrP P t with
    | some (n, e) => .ar n (sizeP P e) (aggP P e)
    | none => match underP P t with
      | some .string => .str
      | _ => .no
noncomputable def BA.addr (b : BA) : AV → Nat → (AV → Ans) → Ans :=
  BA.rec (motive := fun _ => AV → Nat → (AV → Ans) → Ans)
    (fun es' x i K => x.onSl fun a v o n es _ => ifK (andB (Nat.ble (Nat.succ i) n) (Nat.beq es es')) (forceN (Nat.add o (Nat.mul i es)) fun o' => K (.p a v o')) (.err 32))
    (fun n es _ x i K => x.onP fun a v o => ifK (andB (Nat.ble (Nat.succ i) n) (Nat.ble (nat_lit 1) es)) (forceN (Nat.add o (Nat.mul i es)) fun o' => K (.p a v o')) (.err 33))
    (fun _ _ _ => .err 34) (fun _ _ _ => .err 34) b
noncomputable def BA.at (b : BA) : AV → Nat → (AV → Ans) → Ans :=
  BA.rec (motive := fun _ => AV → Nat → (AV → Ans) → Ans)
    (fun _ _ _ _ => .err 35)
    (fun n es agg x i K => x.onAg fun cs => ifK (Nat.ble (Nat.succ i) n) (partK agg es (Nat.mul i es) cs K) (.err 36))
    (fun x i K => x.onS fun n code => ifK (Nat.ble (Nat.succ i) n) (forceN (strAt n code i) fun c => K (.i .u8 (.ofNat c))) (.err 37))
    (fun _ _ _ => .err 38) b

/-! ### conversions -/
inductive BK where
  | int (k : IntKind)
  | no
noncomputable def convBK (P : Program) (src dst : TypeId) : BK := match underP P src, underP P dst with
  | some (.int _), some (.int k) => .int k
  | _, _ => .no
noncomputable def unbytes (n code k : Nat) : List AV → (List AV → Ans) → Ans :=
  Nat.rec (motive := fun _ => List AV → (List AV → Ans) → Ans) (fun acc K => K acc) (fun j ih acc K => forceN (strAt n code j) fun c => ih (.i .u8 (.ofNat c) :: acc) K) k
noncomputable def BK.run (b : BK) : AV → (AV → Ans) → Ans :=
  BK.rec (motive := fun _ => AV → (AV → Ans) → Ans) (fun k x K => x.onI fun _ n => wrapK k n K) (fun _ _ => .err 43) b

/-! ### slices -/
noncomputable def sliceIx (x : Option AV) (dflt : Nat) (K : Nat → Ans) : Ans := match x with
  | none => K dflt
  | some v => v.onI fun _ n => natOf n K
noncomputable def sliceA (x : AV) (lo hi : Option AV) (K : AV → Ans) : Ans := match x with
  | .s n code => sliceIx hi n fun hi => sliceIx lo 0 fun lo => ifK (andB (Nat.ble lo hi) (Nat.ble hi n)) (strCutK n code lo hi K) (.err 51)
  | .sl0 => sliceIx hi 0 fun hi => sliceIx lo 0 fun lo => ifK (andB (Nat.beq hi 0) (Nat.beq lo 0)) (K .sl0) (.err 52)
  | .sl a v o n es c => sliceIx hi n fun hi => sliceIx lo 0 fun lo => ifK (andB (Nat.ble lo hi) (Nat.ble hi n))
      (match c with
        | 0 => forceN (Nat.add o (Nat.mul lo es)) fun o' => forceN (Nat.sub hi lo) fun k => K (.sl a v o' k es 0)
        | c + 1 => ifK (Nat.ble lo c) (forceN (Nat.add o (Nat.mul lo es)) fun o' => forceN (Nat.sub hi lo) fun k => forceN (Nat.succ (Nat.sub c lo)) fun c' => K (.sl a v o' k es c')) (.err 55))
      (.err 56)
  | _ => .err 61

/-- The known cells of what is appended or copied. -/
noncomputable def sourceA (size : Nat) (h : H) (x : AV) (K : Nat → List AV → Ans) : Ans := match x with
  | .sl0 => K 0 []
  | .sl a v o n es _ => ifK (Nat.beq es size) (loadK true (n * es) h (.p a v o) fun l => l.onAg fun l => K n l) (.err 62)
  | .s n c => ifK (Nat.beq size 1) (unbytes n c n [] fun l => K n l) (.err 63)
  | _ => .err 64
noncomputable def appNew (es n : Nat) (l : List AV) (h : H) (K : KV) : Ans :=
  putCells l Nat.zero .e fun t => forceN (Nat.mul n es) fun N => h.newK (.grow N t Nat.zero) fun a h' => K (.sl a N Nat.zero n es Nat.zero) h'
noncomputable def app2 (a b : List AV) (K : List AV → Ans) : Ans := revK a [] fun r => revK r b K
noncomputable def roomOf (N o es c : Nat) : Nat := Nat.rec (motive := fun _ => Nat) N (fun c _ => Nat.add o (Nat.mul c es)) c
noncomputable def appBlk (a v o n es c nm : Nat) (new : List AV) (h : H) (K : KV) (N : Nat) (cs : BV4) : Ans :=
  ifK (Nat.ble (Nat.add o (Nat.mul nm es)) (roomOf N o es c))
    (putCells new (Nat.add o (Nat.mul n es)) cs fun cs' => h.putK a (.blk N cs') fun h' => K (.sl a v o nm es c) h')
    (getCells (Nat.mul n es) cs o [] fun old => app2 old new fun l => appNew es nm l h K)
noncomputable def appGrow (a v o n es c nm : Nat) (new : List AV) (h : H) (K : KV) (N : Nat) (cs : BV4) (lw : Nat) : Ans :=
  Nat.rec (motive := fun _ => Ans)
    (ifK (Nat.beq v N)
      (ifK (Nat.ble (Nat.add o (Nat.mul nm es)) N)
        (putCells new (Nat.add o (Nat.mul n es)) cs fun cs' => h.putK a (.grow N cs' N) fun h' => K (.sl a v o nm es Nat.zero) h')
        (ifK (andB (Nat.beq o Nat.zero) (Nat.beq (Nat.mul n es) N))
          (putCells new N cs fun cs' => forceN (Nat.mul nm es) fun N' => h.putK a (.grow N' cs' lw) fun h' => K (.sl a N' Nat.zero nm es Nat.zero) h')
          (.err 67)))
      (.err 68))
    (fun c _ => ifK (Nat.ble nm c) (.err 69) (ifK (andB (verOk lw v N) (Nat.ble (Nat.add o (Nat.mul n es)) v))
      (getCells (Nat.mul n es) cs o [] fun old => app2 old new fun l => appNew es nm l h K) (.err 70))) c
/-- What is appended to: the size of an element. -/
inductive BAp where
  | mk (es : Nat)
  | no
noncomputable def appBA (P : Program) (t : TypeId) : BAp := match elemP P t with
  | some e => match typeP P e with
    | some i => match zeroBZ P e with
      | .mk zs _ _ => match Nat.beq zs i.size, Nat.ble i.bytes 1000000, Nat.ble 1 i.size with
        | true, true, true => .mk zs
        | _, _, _ => .no
      | .no => .no
    | none => .no
  | none => .no
noncomputable def BAp.run (b : BAp) : (Nat → Ans) → Ans := BAp.rec (motive := fun _ => (Nat → Ans) → Ans) (fun n K => K n) (fun _ => .err 65) b
noncomputable def appendA (P : Program) (t : TypeId) (s x : AV) (h : H) (K : KV) : Ans :=
  (appBA P t).run fun es => sourceA es h x fun m new => match s with
    | .sl0 => ifK (Nat.beq m Nat.zero) (K .sl0 h) (ifK (Nat.ble m (nat_lit 1000000)) (appNew es m new h K) (.err 66))
    | .sl a v o n es2 c => ifK (Nat.beq es2 es) (ifK (Nat.beq m Nat.zero) (K (.sl a v o n es2 c) h) (forceN (Nat.add n m) fun nm => ifK (Nat.ble nm (nat_lit 1000000)) (h.getK a fun ob => ob.row (appBlk a v o n es c nm new h K) (appGrow a v o n es c nm new h K)) (.err 66))) (.err 71)
    | _ => .err 72

noncomputable def makeSliceA (P : Program) (t : TypeId) (l c : AV) (h : H) (K : KV) : Ans :=
  l.onI fun _ l => natOf l fun l => c.onI fun _ c => natOf c fun c => match elemP P t with
    | some e => match typeP P e with
      | some i => (zeroBZ P e).run fun es _ z => ifK (andB (andB (Nat.ble l c) (Nat.ble c 1000000)) (andB (Nat.ble 1 es) (andB (Nat.beq es i.size) (Nat.ble i.bytes 1000000))))
        (repA z c 0 .e fun t => forceN (c * es) fun N => h.newK (.blk N t) fun a h' => K (.sl a 0 0 l es 0) h') (.err 73)
      | none => .err 74
    | none => .err 74

/-! ### the same value -/
noncomputable def sameC (x y : AV) (K e : Ans) : Ans := match x, y with
  | .b a, .b b => ifK (eqB a b) K e
  | .i k a, .i j b => ifK (andB (kindEq k j) (eqI a b)) K e
  | .s n a, .s m b => ifK (strEq n a m b) K e
  | .p0, .p0 => K
  | .p a v o, .p a' v' o' => ifK (andB (Nat.beq a a') (andB (Nat.beq v v') (Nat.beq o o'))) K e
  | .sl0, .sl0 => K
  | .sl a v o n es c, .sl a' v' o' n' es' c' => ifK (andB (andB (Nat.beq a a') (andB (Nat.beq v v') (Nat.beq o o'))) (andB (Nat.beq n n') (andB (Nat.beq es es') (Nat.beq c c')))) K e
  | .m0, .m0 => K
  | .m a, .m b => ifK (Nat.beq a b) K e
  | .f0, .f0 => K
  | .i0, .i0 => K
  | _, _ => e
noncomputable def sameCs : List AV → List AV → Ans → Ans → Ans
  | [], [], K, _ => K
  | x :: l, y :: m, K, e => sameC x y (sameCs l m K e) e
  | _, _, _, e => e
noncomputable def sameV (x y : AV) (K : Ans) : Ans := match x, y with
  | .ag l, .ag m => sameCs l m K (.err 260)
  | .tu l, .tu m => sameCs l m K (.err 261)
  | x, y => sameC x y K (.err 262)

/-! ### maps -/
inductive BKy where
  | mk (f : AV → Ans → Ans)
  | no
inductive BKs where
  | mk (f : List AV → Ans → Ans)
  | no
noncomputable def keyFs (P : Program) (go : TypeId → BKy) : List Field → BKs
  | [] => .mk fun _ K => K
  | f :: l => match f.name == "_", underP P f.type, go f.type, keyFs P go l with
    | false, some _, .mk g, .mk r => .mk fun xs K => partK (aggP P f.type) (sizeP P f.type) f.offset xs fun a => g a (r xs K)
    | _, _, _, _ => .no
/-- A key may be asked for: of a type without interfaces. -/
noncomputable def keyBK (P : Program) : Nat → TypeId → BKy
  | 0, _ => .no
  | d + 1, t => match underP P t with
    | some (.struct fs) => match keyFs P (keyBK P d) fs.toList with
      | .mk f => .mk fun x K => x.onAg fun xs => f xs K
      | .no => .no
    | some .bool => .mk fun _ K => K
    | some (.int _) => .mk fun _ K => K
    | some .string => .mk fun _ K => K
    | some (.pointer _) => .mk fun _ K => K
    | _ => .no
noncomputable def revE (l : List (AV × AV × Nat)) : List (AV × AV × Nat) → (List (AV × AV × Nat) → Ans) → Ans :=
  List.rec (motive := fun _ => List (AV × AV × Nat) → (List (AV × AV × Nat) → Ans) → Ans) (fun acc K => K acc) (fun x _ ih acc K => ih (x :: acc) K) l
noncomputable def lenE (l : List (AV × AV × Nat)) : Nat := List.rec (motive := fun _ => Nat) Nat.zero (fun _ _ ih => Nat.succ ih) l
noncomputable def findA (eq : AV → AV → (Bool → Ans) → Ans) (k : AV) (l : List (AV × AV × Nat)) : Nat → Ans → (Nat → AV → Ans) → Ans :=
  List.rec (motive := fun _ => Nat → Ans → (Nat → AV → Ans) → Ans) (fun _ no _ => no)
    (fun x _ ih i no K => eq k x.1 fun b => ifK b (K i x.2.1) (ih (Nat.succ i) no K)) l
inductive BM where
  | mk (eq : AV → AV → (Bool → Ans) → Ans) (key : AV → Ans → Ans) (e : TypeId)
  | no
noncomputable def mapBM (P : Program) (t : TypeId) : BM := match underP P t with
  | some (.map k e) => match keyBK P 20 k, eqBQ P 20 k with
    | .mk g, .mk f => .mk f g e
    | _, _ => .no
  | _ => .no
noncomputable def BM.run (b : BM) : ((AV → AV → (Bool → Ans) → Ans) → (AV → Ans → Ans) → TypeId → Ans) → Ans := BM.rec (motive := fun _ => ((AV → AV → (Bool → Ans) → Ans) → (AV → Ans → Ans) → TypeId → Ans) → Ans) (fun f g e K => K f g e) (fun _ => .err 81) b
noncomputable def zeroV (P : Program) (t : TypeId) : Option AV := match typeP P t with
  | some i => match i.zero with
    | some z => absV 10 z
    | none => none
  | none => none
noncomputable def zeroK (P : Program) (t : TypeId) (K : AV → Ans) : Ans := match zeroV P t with | some x => K x | none => .err 82
noncomputable def entriesA (h : H) (x : AV) (K : List (AV × AV × Nat) → Ans) : Ans := match x with
  | .m0 => K []
  | .m a => h.getK a fun ob => ob.onMap fun es _ => K es
  | _ => .err 83
noncomputable def lookupA (P : Program) (t : TypeId) (x k : AV) (ok : Bool) (h : H) (K : AV → Ans) : Ans :=
  (mapBM P t).run fun eq key et => key k (entriesA h x fun es => findA eq k es 0
    (zeroK P et fun z => match ok with | true => K (.tu [z, .b false]) | false => K z)
    (fun _ v => match ok with | true => K (.tu [v, .b true]) | false => K v))
noncomputable def setAt : List (AV × AV × Nat) → Nat → AV → AV → List (AV × AV × Nat) → (List (AV × AV × Nat) → Ans) → Ans
  | [], _, _, _, _, _ => .err 84
  | (k', _, b) :: l, 0, k, v, acc, K => sameV k k' (revE acc ((k, v, b) :: l) K)
  | e :: l, i + 1, k, v, acc, K => setAt l i k v (e :: acc) K
noncomputable def mapUpdateA (P : Program) (t : TypeId) (m k v : AV) (h : H) (K : H → Ans) : Ans :=
  (mapBM P t).run fun eq key _ => key k (m.onM fun a => h.getK a fun ob => ob.onMap fun es clock => findA eq k es 0
    (revE es [] fun r => revE r [(k, v, clock)] fun l => forceN (Nat.succ clock) fun c => h.putK a (.map l c) K)
    (fun i _ => setAt es i k v [] fun l => h.putK a (.map l clock) K))
noncomputable def dropAt : List (AV × AV × Nat) → Nat → List (AV × AV × Nat) → (List (AV × AV × Nat) → Ans) → Ans
  | [], _, _, _ => .err 85
  | _ :: l, 0, acc, K => revE acc l K
  | e :: l, i + 1, acc, K => dropAt l i (e :: acc) K
noncomputable def deleteA (P : Program) (t : TypeId) (m k : AV) (h : H) (K : H → Ans) : Ans :=
  (mapBM P t).run fun eq key _ => key k (match m with
    | .m0 => K h
    | .m a => h.getK a fun ob => ob.onMap fun es clock => findA eq k es 0 (h.putK a (.map es clock) K) fun i _ => dropAt es i [] fun l => h.putK a (.map l clock) K
    | _ => .err 86)
noncomputable def rangeA (x : AV) (h : H) (K : KV) : Ans := match x with
  | .m0 => h.newK (.mit none 0 [] 0) fun a h' => K (.p a 0 0) h'
  | .m r => h.getK r fun ob => ob.onMap fun _ clock => h.newK (.mit (some r) clock [] clock) fun a h' => K (.p a 0 0) h'
  | _ => .err 87
/-- At most one entry has not come up yet, and it is an old one. -/
noncomputable def nextE (a r since : Nat) (seen : List Nat) (last : Nat) (h : H) (K : KV) (es : List (AV × AV × Nat)) (clock : Nat) : Ans :=
  match !seen.isEmpty && !es.isEmpty && es.all (fun e => Nat.ble last e.2.2) with
  | true => .err 89
  | false => match es.filter (fun e => !seen.contains e.2.2) with
    | [] => K (.tu [.b false]) h
    | [(k, v, b)] => ifK (Nat.ble (Nat.succ b) since) (h.putK a (.mit (some r) since (seen ++ [b]) clock) fun h' => K (.tu [.b true, k, v]) h') (.err 90)
    | _ => .err 91
noncomputable def nextA (it : AV) (isString : Bool) (h : H) (K : KV) : Ans := it.onP fun a _ o => ifK (Nat.beq o Nat.zero) (h.getK a fun ob => match ob, isString with
  | .mit none _ _ _, false => K (.tu [.b false]) h
  | .mit (some r) since seen last, false => h.getK r fun ob => ob.onMap (nextE a r since seen last h K)
  | _, _ => .err 92) (.err 92)

/-! ### builtins -/
noncomputable def lenSl : AV → (AV → Ans) → Ans :=
  AV.rec (motive_1 := fun _ => (AV → Ans) → Ans) (motive_2 := fun _ => PUnit)
    (fun _ _ => .err 93) (fun _ _ _ => .err 93) (fun _ _ _ => .err 93) (fun _ => .err 93) (fun _ _ _ _ => .err 93) (fun K => K (.i .i64 (.ofNat Nat.zero)))
    (fun _ _ _ n _ _ K => K (.i .i64 (.ofNat n)))
    (fun _ => .err 93) (fun _ _ => .err 93) (fun _ _ _ _ _ _ => .err 93) (fun _ => .err 93) (fun _ _ _ _ => .err 93) (fun _ => .err 93) (fun _ _ _ => .err 93) (fun _ _ _ => .err 93) (fun _ _ _ => .err 93) (fun _ _ => .err 93)
    ⟨⟩ (fun _ _ _ _ => ⟨⟩)
noncomputable def lenM (h : H) (x : AV) (K : AV → Ans) : Ans := entriesA h x fun es => forceN (lenE es) fun n => K (.i .i64 (.ofNat n))
noncomputable def maxA : AV → List AV → (AV → Ans) → Ans
  | x, [], K => K x
  | x, y :: l, K => x.onI fun k a => y.onI fun j b => ifK (kindEq k j) (ifK (ltI a b) (maxA (.i k b) l K) (maxA (.i k a) l K)) (.err 94)
noncomputable def minA : AV → List AV → (AV → Ans) → Ans
  | x, [], K => K x
  | x, y :: l, K => x.onI fun k a => y.onI fun j b => ifK (kindEq k j) (ifK (ltI b a) (minA (.i k b) l K) (minA (.i k a) l K)) (.err 95)
noncomputable def copyA (P : Program) (t : TypeId) (d s : AV) (h : H) (K : KV) : Ans := match elemP P t with
  | some e => match typeP P e with
    | some i => sourceA i.size h s fun m new => (match d with
      | .sl0 => K (.i .i64 0) h
      | .sl a v o n es _ => ifK (Nat.beq es i.size) (forceN (Nat.min m n) fun k => forceN (k * es) fun c => ifK (Nat.beq k 0) (K (.i .i64 0) h)
          (takeK c new [] fun l => storeCs c h (.p a v o) (fun h' => K (.i .i64 (.ofNat k)) h') l)) (.err 96)
      | _ => .err 97)
    | none => .err 98
  | none => .err 98
noncomputable def clearA (P : Program) (t : TypeId) (x : AV) (h : H) (K : H → Ans) : Ans := match underP P t with
  | some _ => (match x with
    | .m0 => K h
    | .sl0 => K h
    | .m a => h.getK a fun ob => ob.onMap fun _ clock => h.putK a (.map [] clock) K
    | _ => .err 100)
  | none => .err 100
noncomputable def capA (h : H) (x : AV) (K : AV → Ans) : Ans := match x with
  | .sl0 => K (.i .i64 0)
  | .sl a _ o _ es c => match c with
    | c + 1 => K (.i .i64 (.ofNat c))
    | 0 => h.getK a fun ob => ob.row (fun N _ => forceN ((N - o) / es) fun n => K (.i .i64 (.ofNat n))) (fun _ _ _ => .err 101)
  | _ => .err 102

noncomputable def typeAssertA (P : Program) (x : AV) (asserted : TypeId) (ok : Bool) (K : AV → Ans) : Ans :=
  let no : Ans := match ok with
    | true => zeroK P asserted fun z => K (.tu [z, .b false])
    | false => .err 103
  let yes (v : AV) : Ans := match ok with
    | true => K (.tu [v, .b true])
    | false => K v
  match underP P asserted with
  | some (.interface want) => match x with
    | .i0 => no
    | .ifc t v => match ((typeP P t).map fun i => (Instr.missingMethod want i.methods).isNone) with
      | some true => yes (.ifc t v)
      | some false => no
      | none => .err 104
    | _ => .err 105
  | some _ => match x with
    | .i0 => no
    | .ifc t v => match Nat.beq t asserted with
      | true => yes v
      | false => no
    | _ => .err 106
  | none => .err 107
noncomputable def nilCheckK : AV → (AV → Ans) → Ans :=
  AV.rec (motive_1 := fun _ => (AV → Ans) → Ans) (motive_2 := fun _ => PUnit)
    (fun _ _ => .err 110) (fun _ _ _ => .err 110) (fun _ _ _ => .err 110) (fun _ => .err 110) (fun a v o K => K (.p a v o)) (fun _ => .err 110) (fun _ _ _ _ _ _ _ => .err 110)
    (fun _ => .err 110) (fun _ _ => .err 110) (fun f x y _ _ K => match f with | .func _ => K (.fn f x y) | _ => .err 110) (fun _ => .err 110)
    (fun t x _ K => K (.ifc t x)) (fun _ => .err 110) (fun _ _ _ => .err 110) (fun _ _ _ => .err 110) (fun _ _ _ => .err 110) (fun l K => K (.yl l))
    ⟨⟩ (fun _ _ _ _ => ⟨⟩)

end Go.AB
namespace Go.AB

inductive AX where
  | nrm
  | exit (id : Nat)
  | ret
abbrev KX := AX → Tm → H → Ans

structure Rec where
  code : Nat → Option Nat → Code → Tm → H → KX → Ans
  call : FuncId → List AV → H → KV → Ans
  dcall : FuncId → List AV → H → KV → Ans
noncomputable def Rec.callK (r : Rec) : FuncId → List AV → H → KV → Ans := Rec.rec (motive := fun _ => FuncId → List AV → H → KV → Ans) (fun _ c _ => c) r
noncomputable def Rec.dcallK (r : Rec) : FuncId → List AV → H → KV → Ans := Rec.rec (motive := fun _ => FuncId → List AV → H → KV → Ans) (fun _ _ d => d) r
noncomputable def Rec.codeK (r : Rec) : Nat → Option Nat → Code → Tm → H → KX → Ans := Rec.rec (motive := fun _ => Nat → Option Nat → Code → Tm → H → KX → Ans) (fun c _ _ => c) r

/-! ### operands, compiled -/
inductive BV where
  | mk (f : Tm → (AV → Ans) → Ans)
noncomputable def BV.run (b : BV) : Tm → (AV → Ans) → Ans := BV.rec (motive := fun _ => Tm → (AV → Ans) → Ans) (fun f => f) b
noncomputable def getBV (t : Nat) : BV := match selG2 (t / 16), selG1 (t % 16) with
  | .mk g2 _, .mk g1 _ => .mk fun tm K => K (g1 (g2 tm))
noncomputable def cOpd (x : Operand) : BV := match x with
  | .tmp t => match Nat.ble (Nat.succ t) 256 with
    | true => getBV t
    | false => .mk fun _ _ => .err 199
  | .const v => match absV 10 v with
    | some x => .mk fun _ K => K x
    | none => .mk fun _ _ => .err 200
  | .global _ => .mk fun _ _ => .err 198
  | .func f => .mk fun _ K => K (.fn (.func f) [] [])
inductive BVs where
  | mk (f : Tm → List AV → (List AV → Ans) → Ans)    -- reversed onto the accumulator
noncomputable def BVs.run (b : BVs) : Tm → List AV → (List AV → Ans) → Ans := BVs.rec (motive := fun _ => Tm → List AV → (List AV → Ans) → Ans) (fun f => f) b
noncomputable def cOpds : List Operand → BVs
  | [] => .mk fun _ acc K => K acc
  | x :: l => match cOpds l, cOpd x with
    | .mk f, .mk g => .mk fun tm acc K => f tm acc fun acc => g tm fun v => K (v :: acc)
inductive BPs where
  | mk (f : Tm → List (Nat × AV) → (List (Nat × AV) → Ans) → Ans)
noncomputable def BPs.run (b : BPs) : Tm → List (Nat × AV) → (List (Nat × AV) → Ans) → Ans := BPs.rec (motive := fun _ => Tm → List (Nat × AV) → (List (Nat × AV) → Ans) → Ans) (fun f => f) b
noncomputable def cParts : List (Nat × Operand) → BPs
  | [] => .mk fun _ acc K => K acc
  | x :: l => match cParts l, cOpd x.2 with
    | .mk f, .mk g => .mk fun tm acc K => f tm acc fun acc => g tm fun v => K ((x.1, v) :: acc)
noncomputable def optK (x : Option Operand) (tm : Tm) (K : Option AV → Ans) : Ans := match x with
  | none => K none
  | some x => (cOpd x).run tm fun v => K (some v)

/-! ### operations that call nothing, compiled -/
inductive BO where
  | mk (f : Tm → H → KV → Ans)
noncomputable def BO.run (b : BO) : Tm → H → KV → Ans := BO.rec (motive := fun _ => Tm → H → KV → Ans) (fun f => f) b
noncomputable def one (x : Operand) (f : AV → H → KV → Ans) : BO := match cOpd x with
  | .mk g => .mk fun tm h K => g tm fun v => f v h K
noncomputable def one' (x : Operand) (f : AV → (AV → Ans) → Ans) : BO := match cOpd x with
  | .mk g => .mk fun tm h K => g tm fun v => f v fun r => K r h
noncomputable def two (x y : Operand) (f : AV → AV → H → KV → Ans) : BO := match cOpd x, cOpd y with
  | .mk g, .mk g' => .mk fun tm h K => g tm fun v => g' tm fun u => f v u h K
noncomputable def two' (x y : Operand) (f : AV → AV → (AV → Ans) → Ans) : BO := match cOpd x, cOpd y with
  | .mk g, .mk g' => .mk fun tm h K => g tm fun v => g' tm fun u => f v u fun r => K r h

inductive BB where
  | mk (f : AV → AV → (AV → Ans) → Ans)
noncomputable def BB.run (b : BB) : AV → AV → (AV → Ans) → Ans := BB.rec (motive := fun _ => AV → AV → (AV → Ans) → Ans) (fun f => f) b
noncomputable def strBB (op : BinOp) : BB := match op with
  | .add => .mk fun x y K => x.onS fun n a => y.onS fun m b => ifK (Nat.ble (Nat.add n m) (nat_lit 9223372036854775807))
      (forceN (Nat.add n m) fun l => forceN (Nat.add (Nat.shiftLeft a (Nat.mul (nat_lit 8) m)) b) fun c => K (.s l c)) (.err 12)
  | .eql => .mk fun x y K => x.onS fun n a => y.onS fun m b => boolK (strEq n a m b) K
  | .neq => .mk fun x y K => x.onS fun n a => y.onS fun m b => boolK (notB (strEq n a m b)) K
  | .lss => .mk fun x y K => x.onS fun n a => y.onS fun m b => boolK (strLt n a m b) K
  | .leq => .mk fun x y K => x.onS fun n a => y.onS fun m b => boolK (notB (strLt m b n a)) K
  | .gtr => .mk fun x y K => x.onS fun n a => y.onS fun m b => boolK (strLt m b n a) K
  | .geq => .mk fun x y K => x.onS fun n a => y.onS fun m b => boolK (notB (strLt n a m b)) K
  | _ => .mk fun _ _ _ => .err 13
/-- A number of which only the sign is known (1: below 0; 2: not below), held against 0. -/
noncomputable def sgnK (op : BinOp) (o : Nat) (K : AV → Ans) : Ans := match op with
  | .lss => ifK (Nat.beq o (nat_lit 1)) (boolK true K) (ifK (Nat.beq o (nat_lit 2)) (boolK false K) (.err 271))
  | .geq => ifK (Nat.beq o (nat_lit 1)) (boolK false K) (ifK (Nat.beq o (nat_lit 2)) (boolK true K) (.err 271))
  | _ => .err 271
noncomputable def cBin (P : Program) (op : BinOp) (t : TypeId) : BB := match underP P t with
  | some (.int _) => match intBI op with
    | .mk f => match isShift op with
      | true => .mk fun x y K => x.onI fun k a => y.onI fun _ b => f k a b K
      | false => .mk fun x y K => x.onIG (fun k a => y.onI fun j b => ifK (kindEq k j) (f k a b K) (.err 201)) fun o => y.onI fun j b => ifK (andB (kindEq j .i64) (eqI b 0)) (sgnK op o K) (.err 201)
  | some .string => strBB op
  | some (.interface ms) => match ms.isEmpty, op with
    | true, .eql => .mk fun x y K => anyEqK x y fun b => boolK b K
    | true, .neq => .mk fun x y K => anyEqK x y fun b => boolK (notB b) K
    | _, _ => .mk fun _ _ _ => .err 202
  | _ => match op, P.eqGuardType P.depth t, eqBQ P 20 t with
    | .eql, false, .mk f => .mk fun x y K => f x y fun b => boolK b K
    | .neq, false, .mk f => .mk fun x y K => f x y fun b => boolK (notB b) K
    | _, _, _ => .mk fun _ _ _ => .err 202
noncomputable def unK (op : UnOp) (x : AV) (K : AV → Ans) : Ans := match op with
  | .neg => x.onI fun k n => wrapK k (iSub 0 n) K
  | .xor => x.onI fun k n => forceI (k.wrap (BitVec.ofInt k.bits (if k.signed then -1 else k.max) ^^^ BitVec.ofInt k.bits n).toNat) fun m => K (.i k m)
  | .not => x.onB fun b => boolK (notB b) K
  | .plus => .err 203

noncomputable def cSimple (P : Program) (op : Op) : BO := match op with
  | .move x => one' x fun v K => K v
  | .assign x => one' x fun v K => K v
  | .pick c a b => match cOpd c, cOpd a, cOpd b with
    | .mk c, .mk a, .mk b => .mk fun tm h K => c tm fun v => v.onB fun c => ifK c (a tm fun v => K v h) (b tm fun v => K v h)
  | .alloc e => .mk fun _ h K => allocK P e h K
  | .box e x => one x fun v h K => boxK e v h K
  | .build t parts => .mk fun tm h K => (cParts parts.toList).run tm [] fun l => buildK P t l fun v => K v h
  | .buildSlice t len parts => .mk fun tm h K => (cParts parts.toList).run tm [] fun l => buildSliceK P t len l h K
  | .load t a => match underP P t, orB (aggP P t) (Nat.beq (sizeP P t) (nat_lit 1)) with
    | some _, true => one a fun v h K => loadK (aggP P t) (sizeP P t) h v fun x => K x h
    | _, _ => .mk fun _ _ _ => .err 270
  | .store t a x => match underP P t with
    | some _ => two a x fun v u h K => storeK (sizeP P t) h v u fun h' => K und h'
    | none => .mk fun _ _ _ => .err 270
  | .nilCheck x => one' x nilCheckK
  | .binOp op t x y _ => match cBin P op t with
    | .mk f => two' x y f
  | .unOp op _ x => one' x (unK op)
  | .convert src dst x => one' x (convBK P src dst).run
  | .makeInterface t x => match underP P t with
    | some (.interface _) => .mk fun _ _ _ => .err 204
    | some _ => one' x fun v K => K (.ifc t v)
    | none => .mk fun _ _ _ => .err 204
  | .makeFunc fn first captured => match fn with
    | .func f => .mk fun tm h K => (cOpds first.toList).run tm [] fun x => (cOpds captured.toList).run tm [] fun y => K (.fn (.func f) x y) h
    | _ => .mk fun _ _ _ => .err 206
  | .makeMap t r => match underP P t with
    | some (.map _ _) => match r with
      | none => .mk fun _ h K => h.newK (.map [] 0) fun a h' => K (.m a) h'
      | some x => one x fun v h K => v.onI fun _ _ => h.newK (.map [] 0) fun a h' => K (.m a) h'
    | _ => .mk fun _ _ _ => .err 205
  | .makeSlice t l c => two l c (makeSliceA P t)
  | .slice t x lo hi mx => match mx, underP P t with
    | none, some .string => .mk fun tm h K => (cOpd x).run tm fun v => optK lo tm fun lo => optK hi tm fun hi => match v with
      | .s _ _ => sliceA v lo hi fun r => K r h
      | _ => .err 62
    | none, some (.slice e) => match Nat.ble 1 (sizeP P e) with
      | true => .mk fun tm h K => (cOpd x).run tm fun v => optK lo tm fun lo => optK hi tm fun hi => match v with
        | .s _ _ => .err 62
        | .sl _ _ _ _ es _ => ifK (Nat.beq es (sizeP P e)) (sliceA v lo hi fun r => K r h) (.err 62)
        | _ => sliceA v lo hi fun r => K r h
      | false => .mk fun _ _ _ => .err 62
    | _, _ => .mk fun _ _ _ => .err 62
  | .fieldAddr s x f => one' x (fieldAddrK (fieldBN P s f))
  | .field s x f => one' x (fieldK (fieldBN P s f))
  | .indexAddr t x i => two' x i fun v u K => u.onI fun _ n => natOf n fun n => (indexBA P t).addr v n K
  | .index t x i => two' x i fun v u K => u.onI fun _ n => natOf n fun n => (indexBA P t).at v n K
  | .lookup t x i ok => two x i fun v u h K => lookupA P t v u ok h fun r => K r h
  | .mapUpdate t m k x => .mk fun tm h K => (cOpd m).run tm fun m => (cOpd k).run tm fun k => (cOpd x).run tm fun x => mapUpdateA P t m k x h fun h' => K und h'
  | .insert t m k x => .mk fun tm h K => (cOpd m).run tm fun m => (cOpd k).run tm fun k => (cOpd x).run tm fun x => mapUpdateA P t m k x h fun h' => K und h'
  | .range t x => match underP P t with
    | some (.map _ _) => one x rangeA
    | _ => .mk fun _ _ _ => .err 87
  | .next it s => one it fun v h K => nextA v s h K
  | .extract t i => one' t fun v K => v.onTu fun vs => nthK vs i K
  | _ => .mk fun _ _ _ => .err 206
noncomputable def cBuiltin (P : Program) (b : Builtin) (ts : Array TypeId) (args : List Operand) : BO := match b, args with
  | .len, [x] => match ts[0]? with
    | some t => match underP P t with
      | some (.array n _) => .mk fun _ h K => K (.i .i64 (.ofNat n)) h
      | some .string => one' x fun v K => v.onS fun n _ => K (.i .i64 (.ofNat n))
      | some (.slice _) => one' x lenSl
      | some (.map _ _) => one x fun v h K => lenM h v fun r => K r h
      | _ => .mk fun _ _ _ => .err 207
    | none => .mk fun _ _ _ => .err 207
  | .append, [s, x] => match ts[0]? with
    | some t => match ts[1]? with
      | none => two s x (appendA P t)
      | some u => match underP P u with
        | some (.int _) => .mk fun _ _ _ => .err 207
        | some _ => two s x (appendA P t)
        | none => .mk fun _ _ _ => .err 207
    | none => .mk fun _ _ _ => .err 207
  | .copy, [d, s] => match ts[0]? with
    | some t => two d s (copyA P t)
    | none => .mk fun _ _ _ => .err 207
  | .clear, [x] => match ts[0]? with
    | some t => one x fun v h K => clearA P t v h fun h' => K (.tu []) h'
    | none => .mk fun _ _ _ => .err 207
  | .delete, [m, k] => match ts[0]? with
    | some t => two m k fun m k h K => deleteA P t m k h fun h' => K (.tu []) h'
    | none => .mk fun _ _ _ => .err 207
  | .max, l => .mk fun tm h K => (cOpds l).run tm [] fun l => match l with | x :: l => maxA x l fun v => K v h | [] => .err 208
  | .min, l => .mk fun tm h K => (cOpds l).run tm [] fun l => match l with | x :: l => minA x l fun v => K v h | [] => .err 208
  | _, _ => .mk fun _ _ _ => .err 209

/-! ### library functions that are taken whole -/
noncomputable def isSp (c : Nat) : Bool := orB (Nat.beq c (nat_lit 32)) (andB (Nat.ble (nat_lit 9) c) (Nat.ble c (nat_lit 13)))
noncomputable def endField (cl cc : Nat) (acc : List AV) (K : List AV → Ans) : Ans := Nat.rec (motive := fun _ => Ans) (K acc) (fun m _ => K (.s (Nat.succ m) cc :: acc)) cl
/-- the fields of an ASCII text (reversed onto the accumulator): byte by byte from place i -/
noncomputable def fieldStep (ih : Nat → Nat → List AV → (List AV → Ans) → Ans) (cl cc : Nat) (acc : List AV) (K : List AV → Ans) (c : Nat) : Ans :=
  ifK (Nat.ble c (nat_lit 32)) (ifK (isSp c) (endField cl cc acc fun acc => ih Nat.zero Nat.zero acc K) (forceN (Nat.add (Nat.mul cc (nat_lit 256)) c) fun cc => ih (Nat.succ cl) cc acc K))
    (ifK (Nat.ble c (nat_lit 127)) (forceN (Nat.add (Nat.mul cc (nat_lit 256)) c) fun cc => ih (Nat.succ cl) cc acc K) (.err 210))
noncomputable def fieldsA (code : Nat) (k : Nat) : Nat → Nat → List AV → (List AV → Ans) → Ans :=
  Nat.rec (motive := fun _ => Nat → Nat → List AV → (List AV → Ans) → Ans) (fun cl cc acc K => endField cl cc acc fun acc => revK acc [] K)
    (fun j ih cl cc acc K => forceN (byteN code j) (fieldStep ih cl cc acc K)) k
noncomputable def indexByteA (n code c : Nat) (k : Nat) : (Int → Ans) → Ans :=
  Nat.rec (motive := fun _ => (Int → Ans) → Ans) (fun K => K (.negSucc Nat.zero)) (fun j ih K => ifK (Nat.beq (byteN code j) c) (forceN (Nat.sub n (Nat.succ j)) fun i => K (.ofNat i)) (ih K)) k
inductive BF where
  | body
  | indexByte
  | fields (e : TypeId)
  | no
  | ext (g : List AV → H → KV → Ans)
/-- A call that is taken whole otherwise. -/
inductive BX where
  | no
  | mk (g : List AV → H → KV → Ans)
/-- The functions that are taken whole, by their numbers; the element type of what strings.Fields hands back. -/
structure Env where
  P : Program
  fields : FuncId
  str : TypeId
  indexByte : FuncId
  ext : FuncId → BX
noncomputable def funcBF (E : Env) (f : FuncId) : BF := match E.ext f with
  | .mk g => .ext g
  | .no => match Nat.beq f E.fields with
    | true => .fields E.str
    | false => match Nat.beq f E.indexByte with
      | true => .indexByte
      | false => .body
noncomputable def callFuncA (E : Env) (r : Rec) (f : FuncId) (args : List AV) (h : H) (K : KV) : Ans :=
  BF.rec (motive := fun _ => FuncId → List AV → H → KV → Ans)
    r.callK
    (fun _ args h K => match args with
      | [x, y] => x.onS fun n code => y.onI fun k c => natOf c fun c => ifK (andB (kindEq k .u8) (Nat.ble c (nat_lit 255))) (indexByteA n code c n fun i => K (.i .i64 i) h) (.err 211)
      | _ => .err 211)
    (fun _ _ args h K => match args with
      | [x] => x.onS fun n code => ifK (Nat.ble n (nat_lit 1000000000)) (fieldsA code n Nat.zero Nat.zero [] fun l => putCells l Nat.zero .e fun t => forceN (lenN l) fun len => h.newK (.blk len t) fun a h => K (.sl a Nat.zero Nat.zero len (nat_lit 1) Nat.zero) h) (.err 212)
      | _ => .err 212)
    (fun _ _ _ _ => .err 213)
    (fun g _ args h K => g args h K) (funcBF E f) f args h K

noncomputable def Tm.df' (tm : Tm) (K : List Dfr → Ans) : Ans := match tm with | .mk _ _ _ _ _ _ _ _ _ _ _ _ _ _ _ _ df => K df
noncomputable def Tm.setDf (tm : Tm) (df : List Dfr) (K : Tm → Ans) : Ans := match tm with
  | .mk a0 a1 a2 a3 a4 a5 a6 a7 a8 a9 a10 a11 a12 a13 a14 a15 _ => K (.mk a0 a1 a2 a3 a4 a5 a6 a7 a8 a9 a10 a11 a12 a13 a14 a15 df)
inductive BP where
  | mk (f : Tm → KT → KV)
noncomputable def BP.run (b : BP) : Tm → KT → KV := BP.rec (motive := fun _ => Tm → KT → KV) (fun f => f) b
noncomputable def cPut (nt : Nat) (dst : Option Tmp) : BP := match dst with
  | none => .mk fun tm K _ h => K tm h
  | some d => match Nat.ble (Nat.succ d) nt && Nat.ble (Nat.succ d) 256 with
    | true => match selG2 (d / 16), selG1 (d % 16) with
      | .mk _ s2, .mk _ s1 => .mk fun tm K v h => s2 s1 (fun tm => K tm h) v tm
    | false => .mk fun _ _ _ _ => .err 223

noncomputable def setParams (nt : Nat) : List Tmp → List AV → Tm → (Tm → Ans) → Ans
  | [], [], tm, K => K tm
  | t :: ts, v :: vs, tm, K => (cPut nt (some t)).run tm (fun tm _ => setParams nt ts vs tm K) v ⟨0, .e⟩
  | _, _, _, _ => .err 214
/-- What a round leaves behind: by the way its body was left. -/
noncomputable def endRoundA (l : Nat) (h : H) (ex : AX) (K : KV) : Ans := h.getK l fun ob => match ob with
  | .loop _ _ fn tm0 params assign body d => match ex with
    | .nrm => h.putK l (.loop .ready none fn tm0 params assign body d) fun h => K (.b true) h
    | .exit id => h.putK l (.loop .done (some (.exit id)) fn tm0 params assign body d) fun h => K (.b false) h
    | .ret => h.putK l (.loop .done (some .ret) fn tm0 params assign body d) fun h => K (.b false) h
  | _ => .err 215
noncomputable def yieldA (r : Rec) (l : Nat) (args : List AV) (h : H) (K : KV) : Ans := h.getK l fun ob => match ob with
  | .loop _ _ nt tm params assign body _ => tm.setDf [] fun tm => setParams nt params args tm fun tm => r.codeK nt (some l) assign tm h fun ex tm h => match ex with
      | .nrm => h.getK l fun ob => match ob with
        | .loop .ready pending fn tm0 params assign body' d => h.putK l (.loop .busy pending fn tm0 params assign body' d) fun h =>
          r.codeK nt (some l) body tm h fun ex _ h => endRoundA l h ex K
        | _ => .err 216
      | _ => .err 217
  | _ => .err 218
noncomputable def callFnA (E : Env) (r : Rec) (f : AV) (args : List AV) (h : H) (K : KV) : Ans := match f with
  | .fn fn first cap => match fn with
    | .func f => match funcBF E f with
      | .body => app2 args cap fun l => app2 first l fun l => r.callK f l h K
      | _ => .err 219
    | _ => .err 219
  | _ => .err 220
noncomputable def callValueA (E : Env) (r : Rec) (f : AV) (args : List AV) (h : H) (K : KV) : Ans := match f with
  | .fn fn first cap => match fn with
    | .func f => app2 args cap fun l => app2 first l fun l => callFuncA E r f l h K
    | _ => .err 219
  | .yl l => yieldA r l args h K
  | _ => .err 220

inductive BR where
  | mk (f : Rec → Tm → H → KT → Ans)
noncomputable def BR.run (b : BR) : Rec → Tm → H → KT → Ans := BR.rec (motive := fun _ => Rec → Tm → H → KT → Ans) (fun f => f) b
/-- An operation: what it yields, and the memory behind it. -/
inductive BE where
  | mk (f : Rec → Tm → H → KV → Ans)
noncomputable def BE.run (b : BE) : Rec → Tm → H → KV → Ans := BE.rec (motive := fun _ => Rec → Tm → H → KV → Ans) (fun f => f) b
noncomputable def cEff (E : Env) (op : Op) : BE := match op with
    | .call c => match cOpds c.args.toList with
      | .mk as => match c.callee with
        | .builtin b => match cBuiltin E.P b c.argTypes c.args.toList with
          | .mk f => .mk fun _ tm h K => f tm h K
        | .value f => match f with
          | .func f => match funcBF E f with
            | .body => .mk fun r tm h K => as tm [] fun args => r.callK f args h K
            | _ => .mk fun r tm h K => as tm [] fun args => callFuncA E r f args h K
          | f => match cOpd f with
            | .mk g => .mk fun r tm h K => as tm [] fun args => g tm fun f => callValueA E r f args h K
        | .invoke _ _ => .mk fun _ _ _ _ => .err 222
    | op => match cSimple E.P op with
      | .mk f => .mk fun _ tm h K => f tm h K
noncomputable def cOper (E : Env) (nt : Nat) (o : Oper) : BR := match cPut nt o.dst with
  | .mk put => match o.op with
    | .defer c => match cOpds c.args.toList, c.callee with
      | .mk as, .value f => match cOpd f with
        | .mk g => .mk fun _ tm h K => as tm [] fun args => g tm fun f => match f with
          | .fn (.func _) _ _ => tm.df' fun df => tm.setDf (.call f args :: df) fun tm => put tm K und h
          | _ => .err 224
      | _, _ => .mk fun _ _ _ _ => .err 224
    | op => match cEff E op with
      | .mk f => .mk fun r tm h K => f r tm h (put tm K)
noncomputable def guardP (ops : Array Oper) (o : Oper) : Option (Tmp × Bool) := match o.guard with
  | none => none
  | some (j, want) => match ((ops[j]?).bind (·.dst)) with
    | some t => some (t, want)
    | none => none
noncomputable def guardK (want : Bool) (x : AV) (yes no : Ans) : Ans :=
  AV.rec (motive_1 := fun _ => Bool → Ans → Ans → Ans) (motive_2 := fun _ => PUnit)
    (fun b want yes no => Bool.rec (motive := fun _ => Ans) (ifK b no yes) (ifK b yes no) want)
    (fun _ _ _ _ no => no) (fun _ _ _ _ no => no) (fun _ _ no => no) (fun _ _ _ _ _ no => no) (fun _ _ no => no) (fun _ _ _ _ _ _ _ _ no => no) (fun _ _ no => no) (fun _ _ _ no => no)
    (fun _ _ _ _ _ _ _ no => no) (fun _ _ no => no) (fun _ _ _ _ _ no => no) (fun _ _ no => no) (fun _ _ _ _ no => no) (fun _ _ _ _ no => no) (fun _ _ _ _ no => no) (fun _ _ _ no => no)
    ⟨⟩ (fun _ _ _ _ => ⟨⟩) x want yes no
/-- An operation that may be guarded. -/
noncomputable def cOne (E : Env) (nt : Nat) (ops : Array Oper) (o : Oper) : BR := match cOper E nt o with
  | .mk f => match o.guard with
    | none => .mk f
    | some _ => match guardP ops o with
      | some (t, want) => match cOpd (.tmp t), cPut nt o.dst with
        | .mk gt, .mk put => .mk fun r tm h K => gt tm fun x => guardK want x (f r tm h K) (put tm K und h)
      | none => .mk fun _ _ _ _ => .err 225
noncomputable def cOps (E : Env) (nt : Nat) (ops : Array Oper) (l : List Oper) : BR :=
  List.rec (motive := fun _ => BR) (.mk fun _ tm h K => K tm h)
    (fun o _ ih => match ih, cOne E nt ops o with
      | .mk g, .mk f => .mk fun r tm h K => f r tm h fun tm h => g r tm h K) l
noncomputable def isDefer (o : Oper) : Bool := match o.op with | .defer _ => true | _ => false
noncomputable def isRec (o : Oper) : Bool := match o.op with
  | .call c => match c.callee, c.args.toList with
    | .builtin .recover, [] => true
    | _, _ => false
  | _ => false
/-- A region of a deferred function that may call recover: nothing there panics, so recover has nothing. -/
noncomputable def cOpsS (E : Env) (nt : Nat) (l : List Oper) : BR :=
  List.rec (motive := fun _ => BR) (.mk fun _ tm h K => K tm h)
    (fun o _ ih => match ih, cPut nt o.dst, o.guard with
      | .mk g, .mk put, none => match isRec o with
        | true => .mk fun r tm h K => put tm (fun tm h => g r tm h K) .i0 h
        | false => match cSimple E.P o.op with
          | .mk f => .mk fun r tm h K => f tm h (put tm fun tm h => g r tm h K)
      | _, _, _ => .mk fun _ _ _ _ => .err 226) l

/-! ### a region whose order is drawn -/
noncomputable def bindsAny (e : Edge) : Bool := match e.ground with
  | .textOnly _ => false
  | .gcOnly _ => false
  | _ => true
noncomputable def nthN (l : List Nat) : Nat → Nat := List.rec (motive := fun _ => Nat → Nat) (fun _ => Nat.zero) (fun x _ ih k => Nat.rec (motive := fun _ => Nat) x (fun m _ => ih m) k) l
noncomputable def tbN (m i : Nat) : Bool := Nat.beq (Nat.land (Nat.shiftRight m i) (nat_lit 1)) (nat_lit 1)
noncomputable def bitN (m i : Nat) : Nat := Nat.lor m (Nat.shiftLeft (nat_lit 1) i)
/-- What must come ahead of an operation: by its edges and by theirs. -/
noncomputable def maskE (acc : List Nat) (es : List Edge) : Nat :=
  List.rec (motive := fun _ => Nat) Nat.zero (fun e _ ih => Bool.rec (motive := fun _ => Nat) ih (Nat.lor (Nat.lor (nthN acc e.on) (bitN Nat.zero e.on)) ih) (bindsAny e)) es
noncomputable def masksN (l : List Oper) : List Nat → List Nat :=
  List.rec (motive := fun _ => List Nat → List Nat) (fun acc => acc) (fun o _ ih acc => ih (acc ++ [maskE acc o.after.toList])) l
/-- 0: its value hangs on its operands alone · 1: it looks at memory · 2: it makes memory · 3: it acts. -/
noncomputable def opKind (P : Program) (op : Op) : Nat := match op with
  | .move _ => 0 | .assign _ => 0 | .pick .. => 0 | .nilCheck _ => 0 | .binOp .. => 0 | .unOp .. => 0 | .makeInterface .. => 0 | .makeFunc .. => 0 | .build .. => 0
  | .fieldAddr .. => 0 | .field .. => 0 | .indexAddr .. => 0 | .index .. => 0 | .extract .. => 0 | .typeAssert .. => 0
  | .convert .. => 0 | .slice .. => 0
  | .load .. => 1 | .lookup .. => 1
  | .alloc _ => 2 | .box .. => 2 | .buildSlice .. => 2 | .makeMap .. => 2 | .makeSlice .. => 2
  | .call c => match c.callee with
    | .builtin b => match b with
      | .len => 1
      | .max => 0
      | .min => 0
      | _ => 3
    | _ => 3
  | _ => 3
noncomputable def kindsN (P : Program) (l : List Oper) : List Nat := List.rec (motive := fun _ => List Nat) [] (fun o _ ih => opKind P o.op :: ih) l
/-- The first of the numbers i, i + 1, .. (so many) that has not come up, may come up, and acts or does not, as is asked. -/
noncomputable def firstN (ms ks : List Nat) (act : Bool) (listed : Nat) (k : Nat) : Nat → Option Nat :=
  Nat.rec (motive := fun _ => Nat → Option Nat) (fun _ => none)
    (fun _ ih i => Bool.rec (motive := fun _ => Option Nat) (ih (Nat.succ i)) (some i)
      (andB (notB (tbN listed i)) (andB (Nat.beq (Nat.land (nthN ms i) listed) (nthN ms i)) (Bool.rec (motive := fun _ => Bool) (Nat.ble (nthN ks i) (nat_lit 2)) (Nat.ble (nat_lit 3) (nthN ks i)) act)))) k
inductive DS where
  | run (i : Nat)
  | chk (i : Nat)
noncomputable def chksN (ks : List Nat) (m : Nat) (ran : List Nat) (rest : List DS) : List DS :=
  List.rec (motive := fun _ => List DS) rest (fun j _ ih => Bool.rec (motive := fun _ => List DS) ih (.chk j :: ih) (andB (Nat.beq (nthN ks j) (nat_lit 1)) (notB (tbN m j)))) ran
noncomputable def planN (n : Nat) (ms ks : List Nat) (f : Nat) : Nat → List Nat → List DS :=
  Nat.rec (motive := fun _ => Nat → List Nat → List DS) (fun _ _ => [])
    (fun _ ih listed ran => match firstN ms ks false listed n 0 with
      | some i => .run i :: ih (bitN listed i) (i :: ran)
      | none => match firstN ms ks true listed n 0 with
        | some i => .run i :: chksN ks (nthN ms i) ran (ih (bitN listed i) (i :: ran))
        | none => []) f
noncomputable def tmpsOf (o : Oper) (g : Option Tmp) : List Tmp :=
  (match g with | some t => [t] | none => []) ++ o.op.operands.toList.filterMap fun | .tmp t => some t | _ => none
noncomputable def memN (t : Nat) (l : List Nat) : Bool := List.rec (motive := fun _ => Bool) false (fun x _ ih => orB (Nat.beq x t) ih) l
/-- Edges lead back; whoever names a temporary that another writes waits for it, or is waited for; whoever looks at memory names none that is written behind it; those that act wait for one another. -/
noncomputable def orderOK (ops : List Oper) (gs : List (Option Tmp)) (ms ks : List Nat) : Bool :=
  let its := ops.zip (gs.zip (ms.zip ks))
  its.zipIdx.all fun (x, i) =>
    x.1.after.toList.all (fun e => notB (bindsAny e) || Nat.ble (Nat.succ e.on) i) &&
    (match x.1.dst with | some d => if Nat.beq x.2.2.2 1 then !memN d (tmpsOf x.1 x.2.1) else true | none => true) &&
    its.zipIdx.all fun (y, j) => Nat.beq i j ||
      ((match y.1.dst with
        | some d => (if memN d (tmpsOf x.1 x.2.1) then tbN x.2.2.1 j || (tbN y.2.2.1 i && !Nat.beq x.2.2.2 1) else true) &&
            (match x.1.dst with | some d' => !Nat.beq d d' | none => true)
        | none => true) &&
       (if Nat.beq x.2.2.2 3 && Nat.beq y.2.2.2 3 then tbN x.2.2.1 j || tbN y.2.2.1 i else true))
noncomputable def cChk (P : Program) (ops : Array Oper) (o : Oper) : BR := match o.op, o.dst with
  | op, some d => match (match op with | .call c => (match c.callee with | .builtin b => cBuiltin P b c.argTypes c.args.toList | _ => .mk fun _ _ _ => .err 263) | op => cSimple P op), cOpd (.tmp d) with
    | .mk f, .mk g => match o.guard with
      | none => .mk fun _ tm h K => f tm h fun v _ => g tm fun u => sameV v u (K tm h)
      | some _ => match guardP ops o with
        | some (t, want) => match cOpd (.tmp t) with
          | .mk gt => .mk fun _ tm h K => gt tm fun x => guardK want x (f tm h fun v _ => g tm fun u => sameV v u (K tm h)) (K tm h)
        | none => .mk fun _ _ _ _ => .err 264
  | _, none => .mk fun _ _ _ _ => .err 264
noncomputable def nthO (l : List Oper) : Nat → Option Oper := List.rec (motive := fun _ => Nat → Option Oper) (fun _ => none) (fun x _ ih k => Nat.rec (motive := fun _ => Option Oper) (some x) (fun m _ => ih m) k) l
noncomputable def cSteps (E : Env) (nt : Nat) (ops : Array Oper) (l : List DS) : BR :=
  List.rec (motive := fun _ => BR) (.mk fun _ tm h K => K tm h)
    (fun s _ ih => match ih with
      | .mk g => match s with
        | .run i => match nthO ops.toList i with
          | some o => match cOne E nt ops o with
            | .mk f => .mk fun r tm h K => f r tm h fun tm h => g r tm h K
          | none => .mk fun _ _ _ _ => .err 265
        | .chk i => match nthO ops.toList i with
          | some o => match cChk E.P ops o with
            | .mk f => .mk fun r tm h K => f r tm h fun tm h => g r tm h K
          | none => .mk fun _ _ _ _ => .err 265) l
noncomputable def hasRun (i : Nat) (l : List DS) : Bool := List.rec (motive := fun _ => Bool) false (fun s _ ih => match s with | .run j => orB (Nat.beq j i) ih | .chk _ => ih) l
noncomputable def allRun (l : List DS) (n : Nat) : Bool := Nat.rec (motive := fun _ => Bool) true (fun i ih => andB (hasRun i l) ih) n
noncomputable def guardsOf (ops : Array Oper) (l : List Oper) : List (Option Tmp) := l.map fun o => match guardP ops o with | some (t, _) => some t | none => none
noncomputable def cDraw (E : Env) (nt : Nat) (ops : Array Oper) : BR :=
  match orderOK ops.toList (guardsOf ops ops.toList) (masksN ops.toList []) (kindsN E.P ops.toList), ops.toList.any isDefer, allRun (planN ops.toList.length (masksN ops.toList []) (kindsN E.P ops.toList) ops.toList.length 0 []) ops.toList.length with
  | true, false, true => cSteps E nt ops (planN ops.toList.length (masksN ops.toList []) (kindsN E.P ops.toList) ops.toList.length 0 [])
  | _, _, _ => .mk fun _ _ _ _ => .err 267

/-! ### code -/
inductive BC where
  | mk (f : Rec → Option Nat → Tm → H → KX → Ans)
noncomputable def BC.run (b : BC) : Rec → Option Nat → Tm → H → KX → Ans := BC.rec (motive := fun _ => Rec → Option Nat → Tm → H → KX → Ans) (fun f => f) b
noncomputable def seqX (b : BC) (r : Rec) (ro : Option Nat) (K : KX) (ex : AX) : Tm → H → Ans :=
  AX.rec (motive := fun _ => BC → Rec → Option Nat → KX → Tm → H → Ans) (fun b r ro K tm h => b.run r ro tm h K) (fun id _ _ _ K => K (.exit id)) (fun _ _ _ K => K .ret) ex b r ro K
noncomputable def blockX (id : Nat) (K : KX) (ex : AX) : Tm → H → Ans :=
  AX.rec (motive := fun _ => Nat → KX → Tm → H → Ans) (fun _ K => K .nrm) (fun i id K tm h => ifK (Nat.beq i id) (K .nrm tm h) (K (.exit i) tm h)) (fun _ K => K .ret) ex id K
noncomputable def loopN (n : Nat) : BC → Rec → Option Nat → Tm → H → KX → Ans :=
  Nat.rec (motive := fun _ => BC → Rec → Option Nat → Tm → H → KX → Ans) (fun _ _ _ _ _ _ => .err 230)
    (fun _ ih b r ro tm h K => b.run r ro tm h fun ex => AX.rec (motive := fun _ => Tm → H → Ans) (fun tm h => ih b r ro tm h K) (fun id => K (.exit id)) (K .ret) ex) n
noncomputable def loopFuel : Nat := nat_lit 1000000
noncomputable def finA (nt : Nat) (r : Rec) (ro : Option Nat) (K : KX) (l : Nat) (tm : Tm) (h : H) : Ans := h.getK l fun ob => match ob with
    | .loop st pending fn tm0 params assign body d => match st with
      | .busy => .err 231
      | _ => h.putK l (.loop .exhausted pending fn tm0 params assign body d) fun h => match pending with
        | none => K .nrm tm h
        | some c => r.codeK nt ro c tm h K
    | _ => .err 232
noncomputable def rangeFuncA (E : Env) (nt : Nat) (r : Rec) (ro : Option Nat) (f : Operand) (params : Array Tmp) (assign body : Code) (tm : Tm) (h : H) (K : KX) : Ans :=
  match ro with
  | none => h.newK (.dfr (some [])) fun d h => h.newK (.loop .ready none nt tm params.toList assign body d) fun l h =>
    (cOpd f).run tm fun f => callFnA E r f [.yl l] h fun _ h => tm.df' fun df => tm.setDf (.coll d :: df) fun tm => finA nt r ro K l tm h
  | some o => h.getK o fun ob => match ob with
    | .loop _ _ _ _ _ _ _ d => h.newK (.loop .ready none nt tm params.toList assign body d) fun l h => (cOpd f).run tm fun f => callFnA E r f [.yl l] h fun _ h => finA nt r ro K l tm h
    | _ => .err 233
noncomputable def cCode (E : Env) (nt : Nat) (c : Code) : BC := match c with
  | .skip => .mk fun _ _ tm h K => K .nrm tm h
  | .label _ => .mk fun _ _ tm h K => K .nrm tm h
  | .region _ ops draw => match draw with
    | false => match cOps E nt ops ops.toList, ops.toList.any isDefer with
      | .mk f, false => .mk fun r _ tm h K => f r tm h (K .nrm)
      | .mk f, true => .mk fun r ro tm h K => match ro with | none => f r tm h (K .nrm) | some _ => .err 269
    | true => match cDraw E nt ops with
      | .mk f => .mk fun r ro tm h K => match ro with | none => f r tm h (K .nrm) | some _ => .err 268
  | .seq a b => .mk fun r ro tm h K => (cCode E nt a).run r ro tm h (seqX (cCode E nt b) r ro K)
  | .cond c a b => match cOpd c with
    | .mk g => .mk fun r ro tm h K => g tm fun v => v.onB fun c => ifK c ((cCode E nt a).run r ro tm h K) ((cCode E nt b).run r ro tm h K)
  | .block id c => .mk fun r ro tm h K => (cCode E nt c).run r ro tm h (blockX id K)
  | .loop c => .mk fun r ro tm h K => loopN loopFuel (cCode E nt c) r ro tm h K
  | .scope c => .mk fun r ro tm h K => match ro with | none => (cCode E nt c).run r none tm h K | some _ => .err 236
  | .exit id => .mk fun _ _ tm h K => K (.exit id) tm h
  | .ret => .mk fun _ _ tm h K => K .ret tm h
  | .rangeFunc f params assign body => .mk fun r ro tm h K => rangeFuncA E nt r ro f params assign body tm h K
  | .goto _ => .mk fun _ _ _ _ _ => .err 234
  | .refuse _ => .mk fun _ _ _ _ _ => .err 235

/-- The body of a deferred function: what stands behind recover, and around it. -/
noncomputable def cCodeS (E : Env) (nt : Nat) (c : Code) : BC := match c with
  | .region id ops draw => match draw, ops.toList.any isRec with
    | false, true => match cOpsS E nt ops.toList with
      | .mk f => .mk fun r _ tm h K => f r tm h (K .nrm)
    | _, _ => cCode E nt (.region id ops draw)
  | .seq a b => .mk fun r ro tm h K => (cCodeS E nt a).run r ro tm h (seqX (cCodeS E nt b) r ro K)
  | .cond c a b => match cOpd c with
    | .mk g => .mk fun r ro tm h K => g tm fun v => v.onB fun c => ifK c ((cCodeS E nt a).run r ro tm h K) ((cCodeS E nt b).run r ro tm h K)
  | .block id c => .mk fun r ro tm h K => (cCodeS E nt c).run r ro tm h (blockX id K)
  | c => cCode E nt c

/-! ### calls -/
noncomputable def resOK (P : Program) (l : List ResultVar) : Bool := l.all fun v => match v with
  | .tmp _ => true
  | .cell _ t => match underP P t with
    | some _ => orB (aggP P t) (Nat.beq (sizeP P t) (nat_lit 1))
    | none => false
noncomputable def resultsA (P : Program) (tm : Tm) (h : H) : List ResultVar → List AV → (List AV → Ans) → Ans
  | [], acc, K => revK acc [] K
  | .tmp t :: l, acc, K => (cOpd (.tmp t)).run tm fun v => resultsA P tm h l (v :: acc) K
  | .cell a t :: l, acc, K => (cOpd (.tmp a)).run tm fun p => loadK (aggP P t) (sizeP P t) h p fun v => resultsA P tm h l (v :: acc) K
inductive BT where
  | mk (f : Tm → H → KV → Ans)
noncomputable def BT.run (b : BT) : Tm → H → KV → Ans := BT.rec (motive := fun _ => Tm → H → KV → Ans) (fun f => f) b
noncomputable def cResults (P : Program) (l : List ResultVar) : BT := match resOK P l with
  | true => match l with
    | [.tmp t] => match cOpd (.tmp t) with
      | .mk g => .mk fun tm h K => g tm fun v => K v h
    | [.cell a t] => .mk fun tm h K => (cOpd (.tmp a)).run tm fun p => loadK (aggP P t) (sizeP P t) h p fun v => K v h
    | l => .mk fun tm h K => resultsA P tm h l [] fun vs => K (.tu vs) h
  | false => .mk fun _ _ _ => .err 246
noncomputable def defersA (r : Rec) : List Dfr → H → (H → Ans) → Ans
  | [], h, K => K h
  | .call f args :: l, h, K => match f with
    | .fn fn first cap => match fn with
      | .func f => app2 args cap fun x => app2 first x fun x => r.dcallK f x h fun _ h => defersA r l h K
      | _ => .err 240
    | _ => .err 241
  | .coll a :: l, h, K => h.getK a fun ob => match ob with
    | .dfr (some []) => h.putK a (.dfr none) fun h => defersA r l h K
    | _ => .err 242
noncomputable def retGo (r : Rec) (rs : BT) (K : KV) (tm : Tm) (h : H) : Ans :=
  tm.df' fun df => List.rec (motive := fun _ => Ans) (rs.run tm h K) (fun d l _ => defersA r (d :: l) h fun h => rs.run tm h K) df
noncomputable def retX (r : Rec) (rs : BT) (K : KV) (ex : AX) : Tm → H → Ans :=
  AX.rec (motive := fun _ => Rec → BT → KV → Tm → H → Ans) retGo (fun _ _ _ _ _ _ => .err 243) retGo ex r rs K
noncomputable def retGoS (rs : BT) (K : KV) (tm : Tm) (h : H) : Ans :=
  tm.df' fun df => List.rec (motive := fun _ => Ans) (rs.run tm h K) (fun _ _ _ => .err 247) df
noncomputable def retXS (rs : BT) (K : KV) (ex : AX) : Tm → H → Ans :=
  AX.rec (motive := fun _ => BT → KV → Tm → H → Ans) retGoS (fun _ _ _ _ _ => .err 243) retGoS ex rs K
noncomputable def argTm (nt : Nat) (l : List AV) : Nat → Tm → (Tm → Ans) → Ans :=
  List.rec (motive := fun _ => Nat → Tm → (Tm → Ans) → Ans) (fun _ tm K => K tm) (fun v _ ih i tm K => (cPut nt (some i)).run tm (fun tm _ => ih (Nat.succ i) tm K) v ⟨0, .e⟩) l
inductive BFn where
  | mk (nt : Nat) (c : BC) (rs : BT)
  | no
noncomputable def cFunc (E : Env) (f : FuncId) : BFn := match funcP E.P f with
  | some fn => match fn.body with
    | some c => .mk fn.ntmps (cCode E fn.ntmps c) (cResults E.P fn.results.toList)
    | none => .no
  | none => .no
noncomputable def cFuncS (E : Env) (f : FuncId) : BFn := match funcP E.P f with
  | some fn => match fn.body with
    | some c => .mk fn.ntmps (cCodeS E fn.ntmps c) (cResults E.P fn.results.toList)
    | none => .no
  | none => .no
noncomputable def callStep (E : Env) (r : Rec) (f : FuncId) (args : List AV) (h : H) (K : KV) : Ans :=
  BFn.rec (motive := fun _ => Ans) (fun nt c rs => argTm nt args Nat.zero (Tm.all (T1.all und) []) fun tm => c.run r none tm h (retX r rs K)) (.err 245) (cFunc E f)
noncomputable def dcallStep (E : Env) (r : Rec) (f : FuncId) (args : List AV) (h : H) (K : KV) : Ans :=
  BFn.rec (motive := fun _ => Ans) (fun nt c rs => argTm nt args Nat.zero (Tm.all (T1.all und) []) fun tm => c.run r none tm h (retXS rs K)) (.err 245) (cFuncS E f)
noncomputable def codeStep (E : Env) (r : Rec) (nt : Nat) (ro : Option Nat) (c : Code) (tm : Tm) (h : H) (K : KX) : Ans := (cCode E nt c).run r ro tm h K
noncomputable def recA (E : Env) (n : Nat) : Rec :=
  Nat.rec (motive := fun _ => Rec) ⟨fun _ _ _ _ _ _ => .err 250, fun _ _ _ _ => .err 250, fun _ _ _ _ => .err 250⟩ (fun _ ih => ⟨codeStep E ih, callStep E ih, dcallStep E ih⟩) n
end Go.AB
namespace Go.AB

/-! ### forcing is nothing -/
@[simp] theorem forceN_eq (n : Nat) (K : Nat → Ans) : forceN n K = K n := by cases n <;> rfl
@[simp] theorem forceB_eq (b : Bool) (K : Bool → Ans) : forceB b K = K b := by cases b <;> rfl
@[simp] theorem forceI_eq (n : Int) (K : Int → Ans) : forceI n K = K n := by
  cases n with
  | ofNat m => show forceN m _ = _; rw [forceN_eq]
  | negSucc m => show forceN m _ = _; rw [forceN_eq]
@[simp] theorem ifK_eq (b : Bool) (x y : Ans) : ifK b x y = if b then x else y := by cases b <;> rfl
@[simp] theorem andB_eq (x y : Bool) : andB x y = (x && y) := by cases x <;> rfl
@[simp] theorem orB_eq (x y : Bool) : orB x y = (x || y) := by cases x <;> rfl
@[simp] theorem notB_eq (x : Bool) : notB x = !x := by cases x <;> rfl
theorem sel4_eq (n : Nat) (x y z u : Ans) : sel4 n x y z u = if n = 0 then x else if n = 1 then y else if n = 2 then z else u := by
  match n with
  | 0 => rfl
  | 1 => rfl
  | 2 => rfl
  | n + 3 => simp; rfl

/-! ### rows and the heap, as partial functions -/
def BV4.get : BV4 → Nat → Option AV
  | .e, _ => none
  | .nd x c0 c1 c2 c3, k => match k with
    | 0 => some x
    | m + 1 => if m % 4 = 0 then c0.get (m / 4) else if m % 4 = 1 then c1.get (m / 4) else if m % 4 = 2 then c2.get (m / 4) else c3.get (m / 4)
def BO4.get : BO4 → Nat → Option AO
  | .e, _ => none
  | .nd x c0 c1 c2 c3, k => match k with
    | 0 => some x
    | m + 1 => if m % 4 = 0 then c0.get (m / 4) else if m % 4 = 1 then c1.get (m / 4) else if m % 4 = 2 then c2.get (m / 4) else c3.get (m / 4)
def onSome {α : Type} (x : Option α) (K : α → Ans) (n : Nat) : Ans := match x with | some v => K v | none => .err n

theorem BV4.getK_eq (t : BV4) : ∀ (k : Nat) (K : AV → Ans), t.getK k K = onSome (t.get k) K 2 := by
  induction t with
  | e => intro k K; rfl
  | nd x c0 c1 c2 c3 h0 h1 h2 h3 =>
    intro k K
    cases k with
    | zero => rfl
    | succ m =>
      show sel4 (m % 4) (c0.getK (m / 4) K) (c1.getK (m / 4) K) (c2.getK (m / 4) K) (c3.getK (m / 4) K) = _
      rw [sel4_eq, h0, h1, h2, h3]
      simp only [BV4.get]
      (repeat' split) <;> first | rfl | (exfalso; omega)
theorem BO4.getK_eq (t : BO4) : ∀ (k : Nat) (K : AO → Ans), t.getK k K = onSome (t.get k) K 2 := by
  induction t with
  | e => intro k K; rfl
  | nd x c0 c1 c2 c3 h0 h1 h2 h3 =>
    intro k K
    cases k with
    | zero => rfl
    | succ m =>
      show sel4 (m % 4) (c0.getK (m / 4) K) (c1.getK (m / 4) K) (c2.getK (m / 4) K) (c3.getK (m / 4) K) = _
      rw [sel4_eq, h0, h1, h2, h3]
      simp only [BO4.get]
      (repeat' split) <;> first | rfl | (exfalso; omega)

variable {rv : AV} {rh : H}
theorem BV4.setK_ok (t : BV4) : ∀ (k : Nat) (v : AV) (K : BV4 → Ans), t.setK k v K = .ok rv rh →
    ∃ t', K t' = .ok rv rh ∧ ∀ j, t'.get j = if j = k then some v else t.get j := by
  induction t with
  | e =>
    intro k v K h
    cases k with
    | zero =>
      refine ⟨_, h, fun j => ?_⟩
      cases j with
      | zero => rfl
      | succ j => simp [BV4.get]
    | succ m => cases h
  | nd x c0 c1 c2 c3 h0 h1 h2 h3 =>
    intro k v K h
    cases k with
    | zero =>
      refine ⟨_, h, fun j => ?_⟩
      cases j with
      | zero => rfl
      | succ j => simp [BV4.get]
    | succ m =>
      have h' : sel4 (m % 4) (c0.setK (m / 4) v fun c => K (.nd x c c1 c2 c3)) (c1.setK (m / 4) v fun c => K (.nd x c0 c c2 c3))
        (c2.setK (m / 4) v fun c => K (.nd x c0 c1 c c3)) (c3.setK (m / 4) v fun c => K (.nd x c0 c1 c2 c)) = .ok rv rh := h
      rw [sel4_eq] at h'
      rcases (by omega : m % 4 = 0 ∨ m % 4 = 1 ∨ m % 4 = 2 ∨ m % 4 = 3) with hm | hm | hm | hm <;> simp only [hm] at h'
      · simp only [if_true] at h'
        obtain ⟨t', hk, hs⟩ := h0 _ _ _ h'
        refine ⟨_, hk, fun j => ?_⟩
        cases j with
        | zero => simp [BV4.get]
        | succ j =>
          simp only [BV4.get, Nat.add_right_cancel_iff]
          have hd : j % 4 = m % 4 → (j / 4 = m / 4 ↔ j = m) := fun h => by omega
          have hne : j % 4 ≠ m % 4 → j ≠ m := fun h e => h (by rw [e])
          have h4 : j % 4 = 0 ∨ j % 4 = 1 ∨ j % 4 = 2 ∨ j % 4 = 3 := by omega
          have hm4 : m % 4 = 0 := by omega
          rcases h4 with hj | hj | hj | hj <;> simp [hj, hm4] at hd hne <;> simp [hj, hs, hd, hne]
      · simp at h'
        obtain ⟨t', hk, hs⟩ := h1 _ _ _ h'
        refine ⟨_, hk, fun j => ?_⟩
        cases j with
        | zero => simp [BV4.get]
        | succ j =>
          simp only [BV4.get, Nat.add_right_cancel_iff]
          have hd : j % 4 = m % 4 → (j / 4 = m / 4 ↔ j = m) := fun h => by omega
          have hne : j % 4 ≠ m % 4 → j ≠ m := fun h e => h (by rw [e])
          have h4 : j % 4 = 0 ∨ j % 4 = 1 ∨ j % 4 = 2 ∨ j % 4 = 3 := by omega
          have hm4 : m % 4 = 1 := by omega
          rcases h4 with hj | hj | hj | hj <;> simp [hj, hm4] at hd hne <;> simp [hj, hs, hd, hne]
      · simp at h'
        obtain ⟨t', hk, hs⟩ := h2 _ _ _ h'
        refine ⟨_, hk, fun j => ?_⟩
        cases j with
        | zero => simp [BV4.get]
        | succ j =>
          simp only [BV4.get, Nat.add_right_cancel_iff]
          have hd : j % 4 = m % 4 → (j / 4 = m / 4 ↔ j = m) := fun h => by omega
          have hne : j % 4 ≠ m % 4 → j ≠ m := fun h e => h (by rw [e])
          have h4 : j % 4 = 0 ∨ j % 4 = 1 ∨ j % 4 = 2 ∨ j % 4 = 3 := by omega
          have hm4 : m % 4 = 2 := by omega
          rcases h4 with hj | hj | hj | hj <;> simp [hj, hm4] at hd hne <;> simp [hj, hs, hd, hne]
      · simp at h'
        obtain ⟨t', hk, hs⟩ := h3 _ _ _ h'
        refine ⟨_, hk, fun j => ?_⟩
        cases j with
        | zero => simp [BV4.get]
        | succ j =>
          simp only [BV4.get, Nat.add_right_cancel_iff]
          have hd : j % 4 = m % 4 → (j / 4 = m / 4 ↔ j = m) := fun h => by omega
          have hne : j % 4 ≠ m % 4 → j ≠ m := fun h e => h (by rw [e])
          have h4 : j % 4 = 0 ∨ j % 4 = 1 ∨ j % 4 = 2 ∨ j % 4 = 3 := by omega
          have hm4 : m % 4 = 3 := by omega
          rcases h4 with hj | hj | hj | hj <;> simp [hj, hm4] at hd hne <;> simp [hj, hs, hd, hne]
theorem BO4.setK_ok (t : BO4) : ∀ (k : Nat) (v : AO) (K : BO4 → Ans), t.setK k v K = .ok rv rh →
    ∃ t', K t' = .ok rv rh ∧ ∀ j, t'.get j = if j = k then some v else t.get j := by
  induction t with
  | e =>
    intro k v K h
    cases k with
    | zero =>
      refine ⟨_, h, fun j => ?_⟩
      cases j with
      | zero => rfl
      | succ j => simp [BO4.get]
    | succ m => cases h
  | nd x c0 c1 c2 c3 h0 h1 h2 h3 =>
    intro k v K h
    cases k with
    | zero =>
      refine ⟨_, h, fun j => ?_⟩
      cases j with
      | zero => rfl
      | succ j => simp [BO4.get]
    | succ m =>
      have h' : sel4 (m % 4) (c0.setK (m / 4) v fun c => K (.nd x c c1 c2 c3)) (c1.setK (m / 4) v fun c => K (.nd x c0 c c2 c3))
        (c2.setK (m / 4) v fun c => K (.nd x c0 c1 c c3)) (c3.setK (m / 4) v fun c => K (.nd x c0 c1 c2 c)) = .ok rv rh := h
      rw [sel4_eq] at h'
      rcases (by omega : m % 4 = 0 ∨ m % 4 = 1 ∨ m % 4 = 2 ∨ m % 4 = 3) with hm | hm | hm | hm <;> simp only [hm] at h'
      · simp only [if_true] at h'
        obtain ⟨t', hk, hs⟩ := h0 _ _ _ h'
        refine ⟨_, hk, fun j => ?_⟩
        cases j with
        | zero => simp [BO4.get]
        | succ j =>
          simp only [BO4.get, Nat.add_right_cancel_iff]
          have hd : j % 4 = m % 4 → (j / 4 = m / 4 ↔ j = m) := fun h => by omega
          have hne : j % 4 ≠ m % 4 → j ≠ m := fun h e => h (by rw [e])
          have h4 : j % 4 = 0 ∨ j % 4 = 1 ∨ j % 4 = 2 ∨ j % 4 = 3 := by omega
          have hm4 : m % 4 = 0 := by omega
          rcases h4 with hj | hj | hj | hj <;> simp [hj, hm4] at hd hne <;> simp [hj, hs, hd, hne]
      · simp at h'
        obtain ⟨t', hk, hs⟩ := h1 _ _ _ h'
        refine ⟨_, hk, fun j => ?_⟩
        cases j with
        | zero => simp [BO4.get]
        | succ j =>
          simp only [BO4.get, Nat.add_right_cancel_iff]
          have hd : j % 4 = m % 4 → (j / 4 = m / 4 ↔ j = m) := fun h => by omega
          have hne : j % 4 ≠ m % 4 → j ≠ m := fun h e => h (by rw [e])
          have h4 : j % 4 = 0 ∨ j % 4 = 1 ∨ j % 4 = 2 ∨ j % 4 = 3 := by omega
          have hm4 : m % 4 = 1 := by omega
          rcases h4 with hj | hj | hj | hj <;> simp [hj, hm4] at hd hne <;> simp [hj, hs, hd, hne]
      · simp at h'
        obtain ⟨t', hk, hs⟩ := h2 _ _ _ h'
        refine ⟨_, hk, fun j => ?_⟩
        cases j with
        | zero => simp [BO4.get]
        | succ j =>
          simp only [BO4.get, Nat.add_right_cancel_iff]
          have hd : j % 4 = m % 4 → (j / 4 = m / 4 ↔ j = m) := fun h => by omega
          have hne : j % 4 ≠ m % 4 → j ≠ m := fun h e => h (by rw [e])
          have h4 : j % 4 = 0 ∨ j % 4 = 1 ∨ j % 4 = 2 ∨ j % 4 = 3 := by omega
          have hm4 : m % 4 = 2 := by omega
          rcases h4 with hj | hj | hj | hj <;> simp [hj, hm4] at hd hne <;> simp [hj, hs, hd, hne]
      · simp at h'
        obtain ⟨t', hk, hs⟩ := h3 _ _ _ h'
        refine ⟨_, hk, fun j => ?_⟩
        cases j with
        | zero => simp [BO4.get]
        | succ j =>
          simp only [BO4.get, Nat.add_right_cancel_iff]
          have hd : j % 4 = m % 4 → (j / 4 = m / 4 ↔ j = m) := fun h => by omega
          have hne : j % 4 ≠ m % 4 → j ≠ m := fun h e => h (by rw [e])
          have h4 : j % 4 = 0 ∨ j % 4 = 1 ∨ j % 4 = 2 ∨ j % 4 = 3 := by omega
          have hm4 : m % 4 = 3 := by omega
          rcases h4 with hj | hj | hj | hj <;> simp [hj, hm4] at hd hne <;> simp [hj, hs, hd, hne]

/-! ### what an eliminator's success says -/
theorem onB_ok {v : AV} {K : Bool → Ans} (h : v.onB K = .ok rv rh) : ∃ x0, v = .b x0 ∧ K x0 = .ok rv rh := by
  cases v <;> first | (exact ⟨_, rfl, h⟩) | cases h
theorem onI_ok {v : AV} {K : IntKind → Int → Ans} (h : v.onI K = .ok rv rh) : ∃ x0 x1, v = .i x0 x1 ∧ K x0 x1 = .ok rv rh := by
  cases v <;> first | (exact ⟨_, _, rfl, h⟩) | cases h
theorem onIG_ok {v : AV} {K : IntKind → Int → Ans} {G : Nat → Ans} (h : v.onIG K G = .ok rv rh) : (∃ x0 x1, v = .i x0 x1 ∧ K x0 x1 = .ok rv rh) ∨ ∃ i o, v = .gp i o ∧ G o = .ok rv rh := by
  cases v <;> first | (exact .inl ⟨_, _, rfl, h⟩) | (exact .inr ⟨_, _, rfl, h⟩) | cases h
theorem onS_ok {v : AV} {K : Nat → Nat → Ans} (h : v.onS K = .ok rv rh) : ∃ x0 x1, v = .s x0 x1 ∧ K x0 x1 = .ok rv rh := by
  cases v <;> first | (exact ⟨_, _, rfl, h⟩) | cases h
theorem onP_ok {v : AV} {K : Nat → Nat → Nat → Ans} (h : v.onP K = .ok rv rh) : ∃ x0 x1 x2, v = .p x0 x1 x2 ∧ K x0 x1 x2 = .ok rv rh := by
  cases v <;> first | (exact ⟨_, _, _, rfl, h⟩) | cases h
theorem onSl_ok {v : AV} {K : Nat → Nat → Nat → Nat → Nat → Nat → Ans} (h : v.onSl K = .ok rv rh) : ∃ x0 x1 x2 x3 x4 x5, v = .sl x0 x1 x2 x3 x4 x5 ∧ K x0 x1 x2 x3 x4 x5 = .ok rv rh := by
  cases v <;> first | (exact ⟨_, _, _, _, _, _, rfl, h⟩) | cases h
theorem onM_ok {v : AV} {K : Nat → Ans} (h : v.onM K = .ok rv rh) : ∃ x0, v = .m x0 ∧ K x0 = .ok rv rh := by
  cases v <;> first | (exact ⟨_, rfl, h⟩) | cases h
theorem onIfc_ok {v : AV} {K : TypeId → AV → Ans} (h : v.onIfc K = .ok rv rh) : ∃ x0 x1, v = .ifc x0 x1 ∧ K x0 x1 = .ok rv rh := by
  cases v <;> first | (exact ⟨_, _, rfl, h⟩) | cases h
theorem onAg_ok {v : AV} {K : List AV → Ans} (h : v.onAg K = .ok rv rh) : ∃ x0, v = .ag x0 ∧ K x0 = .ok rv rh := by
  cases v <;> first | (exact ⟨_, rfl, h⟩) | cases h
theorem onTu_ok {v : AV} {K : List AV → Ans} (h : v.onTu K = .ok rv rh) : ∃ x0, v = .tu x0 ∧ K x0 = .ok rv rh := by
  cases v <;> first | (exact ⟨_, rfl, h⟩) | cases h

/-! ### lists -/
theorem revK_eq (l : List AV) : ∀ (acc : List AV) (K : List AV → Ans), revK l acc K = K (l.reverse ++ acc) := by
  induction l with
  | nil => intro acc K; rfl
  | cons x l ih => intro acc K; show revK l (x :: acc) K = _; rw [ih]; simp
theorem lenN_eq (l : List AV) : lenN l = l.length := by
  induction l with
  | nil => rfl
  | cons x l ih => show Nat.succ (lenN l) = _; rw [ih]; rfl
theorem nthK_eq (l : List AV) : ∀ (k : Nat) (K : AV → Ans), nthK l k K = onSome l[k]? K 5 := by
  induction l with
  | nil => intro k K; rfl
  | cons x l ih =>
    intro k K
    cases k with
    | zero => rfl
    | succ m => show nthK l m K = _; rw [ih]; simp
theorem app2_eq (a b : List AV) (K : List AV → Ans) : app2 a b K = K (a ++ b) := by
  unfold app2; rw [revK_eq, revK_eq]; simp
theorem dropK_eq (l : List AV) : ∀ (k : Nat) (K : List AV → Ans), dropK l k K = K (l.drop k) := by
  induction l with
  | nil => intro k K; simp; rfl
  | cons x l ih =>
    intro k K
    cases k with
    | zero => rfl
    | succ m => show dropK l m K = _; rw [ih]; rfl
theorem takeK_eq (n : Nat) : ∀ (l acc : List AV) (K : List AV → Ans), takeK n l acc K = K (acc.reverse ++ l.take n) := by
  induction n with
  | zero => intro l acc K; show revK acc [] K = _; rw [revK_eq]; simp
  | succ n ih =>
    intro l acc K
    cases l with
    | nil => show revK acc [] K = _; rw [revK_eq]; simp
    | cons x l => show takeK n l (x :: acc) K = _; rw [ih]; simp
theorem putCells_ok (l : List AV) : ∀ (o : Nat) (t : BV4) (K : BV4 → Ans), putCells l o t K = .ok rv rh →
    ∃ t', K t' = .ok rv rh ∧ ∀ j, t'.get j = if o ≤ j ∧ j < o + l.length then l[j - o]? else t.get j := by
  induction l with
  | nil => intro o t K h; exact ⟨t, h, fun j => by rw [if_neg (by simp)]⟩
  | cons x l ih =>
    intro o t K h
    have h' : (t.setK o x fun t' => putCells l (Nat.succ o) t' K) = .ok rv rh := h
    obtain ⟨t1, h1, s1⟩ := BV4.setK_ok t o x _ h'
    obtain ⟨t2, h2, s2⟩ := ih _ _ _ h1
    refine ⟨t2, h2, fun j => ?_⟩
    rw [s2, s1]
    by_cases hj : j = o
    · subst hj; rw [if_neg (by omega), if_pos rfl, if_pos ⟨Nat.le_refl _, by simp⟩]; simp
    · by_cases hlt : o ≤ j ∧ j < o + (x :: l).length
      · rw [if_pos hlt, if_pos (by simp at hlt ⊢; omega)]
        obtain ⟨i, rfl⟩ : ∃ i, j = o + 1 + i := ⟨j - o - 1, by omega⟩
        simp [show o + 1 + i - o = i + 1 by omega]
      · rw [if_neg hlt, if_neg (by simp at hlt ⊢; omega), if_neg hj]
theorem getCells_ok (n : Nat) : ∀ (t : BV4) (o : Nat) (acc : List AV) (K : List AV → Ans), getCells n t o acc K = .ok rv rh →
    ∃ l, K (l ++ acc) = .ok rv rh ∧ l.length = n ∧ ∀ i, i < n → t.get (o + i) = l[i]? := by
  induction n with
  | zero => intro t o acc K h; exact ⟨[], h, rfl, fun i hi => absurd hi (Nat.not_lt_zero _)⟩
  | succ m ih =>
    intro t o acc K h
    have h' : (t.getK (o + m) fun v => getCells m t o (v :: acc) K) = .ok rv rh := h
    rw [BV4.getK_eq] at h'
    cases hg : t.get (o + m) with
    | none => rw [hg] at h'; cases h'
    | some v =>
      rw [hg] at h'
      obtain ⟨l, hk, hl, hs⟩ := ih _ _ _ _ h'
      refine ⟨l ++ [v], by simpa using hk, by simp [hl], fun i hi => ?_⟩
      by_cases him : i = m
      · subst him; rw [hg]; simp [← hl]
      · rw [hs i (by omega), List.getElem?_append_left (by omega)]
/-- A value's cells. -/
def cellsL : AV → Option (List AV)
  | .ag cs => some cs
  | .tu _ => none
  | v => some [v]
theorem cellsK_ok {v : AV} {K : List AV → Ans} (h : cellsK v K = .ok rv rh) : ∃ l, cellsL v = some l ∧ K l = .ok rv rh := by
  cases v <;> first | exact ⟨_, rfl, h⟩ | cases h

/-! ### the heap -/
def H.get (h : H) (a : Nat) : Option AO := h.t.get a
theorem H.getK_eq (h : H) (a : Nat) (K : AO → Ans) : h.getK a K = onSome (h.get a) K 2 := BO4.getK_eq _ _ _
theorem H.getK_ok {h : H} {a : Nat} {K : AO → Ans} (e : h.getK a K = .ok rv rh) : ∃ o, h.get a = some o ∧ K o = .ok rv rh := by
  rw [H.getK_eq] at e
  cases hg : h.get a with
  | none => rw [hg] at e; cases e
  | some o => rw [hg] at e; exact ⟨o, rfl, e⟩
theorem H.newK_ok {h : H} {o : AO} {K : Nat → H → Ans} (e : h.newK o K = .ok rv rh) :
    ∃ h', K h.nx h' = .ok rv rh ∧ h'.nx = h.nx + 1 ∧ ∀ a, h'.get a = if a = h.nx then some o else h.get a := by
  obtain ⟨t', hk, hs⟩ := BO4.setK_ok h.t h.nx o _ (show (h.t.setK h.nx o fun t' => K h.nx ⟨Nat.succ h.nx, t'⟩) = .ok rv rh from e)
  exact ⟨_, hk, rfl, hs⟩
theorem H.putK_ok {h : H} {a : Nat} {o : AO} {K : H → Ans} (e : h.putK a o K = .ok rv rh) :
    ∃ h', K h' = .ok rv rh ∧ h'.nx = h.nx ∧ ∀ b, h'.get b = if b = a then some o else h.get b := by
  obtain ⟨t', hk, hs⟩ := BO4.setK_ok h.t a o _ (show (h.t.setK a o fun t' => K ⟨h.nx, t'⟩) = .ok rv rh from e)
  exact ⟨_, hk, rfl, hs⟩
theorem row_ok {ob : AO} {K : Nat → BV4 → Ans} {K' : Nat → BV4 → Nat → Ans} (e : ob.row K K' = .ok rv rh) :
    (∃ n cs, ob = .blk n cs ∧ K n cs = .ok rv rh) ∨ (∃ n cs lw, ob = .grow n cs lw ∧ K' n cs lw = .ok rv rh) := by
  cases ob <;> first | exact .inl ⟨_, _, rfl, e⟩ | exact .inr ⟨_, _, _, rfl, e⟩ | cases e
theorem onMap_ok {ob : AO} {K : List (AV × AV × Nat) → Nat → Ans} (e : ob.onMap K = .ok rv rh) : ∃ es c, ob = .map es c ∧ K es c = .ok rv rh := by
  cases ob <;> first | exact ⟨_, _, rfl, e⟩ | cases e

/-! ### whole numbers -/
@[simp] theorem natOf_ofNat (a : Nat) (K : Nat → Ans) : natOf (.ofNat a) K = K a := rfl
theorem natOf_ok {x : Int} {K : Nat → Ans} (h : natOf x K = .ok rv rh) : ∃ n : Nat, x = (n : Int) ∧ K n = .ok rv rh := by
  cases x with
  | ofNat a => exact ⟨a, rfl, h⟩
  | negSucc a => cases h
theorem ltI_eq (x y : Int) : ltI x y = decide (x < y) := by
  cases x with
  | ofNat a => cases y with
    | ofNat b => show Nat.ble (a + 1) b = _; rw [Bool.eq_iff_iff, Nat.ble_eq]; simp; omega
    | negSucc b => show false = _; symm; simp; omega
  | negSucc a => cases y with
    | ofNat b => show true = _; symm; simp; omega
    | negSucc b => show Nat.ble (b + 1) a = _; rw [Bool.eq_iff_iff, Nat.ble_eq]; simp; omega
theorem eqI_eq (x y : Int) : eqI x y = (x == y) := by
  cases x with
  | ofNat a => cases y with
    | ofNat b => show Nat.beq a b = _; rw [Bool.eq_iff_iff, Nat.beq_eq]; simp; omega
    | negSucc b => show false = _; symm; simp
  | negSucc a => cases y with
    | ofNat b => show false = _; symm; simp
    | negSucc b => show Nat.beq a b = _; rw [Bool.eq_iff_iff, Nat.beq_eq]; simp
theorem kindEq_iff {k j : IntKind} : kindEq k j = true ↔ k = j := by
  cases k <;> cases j <;> simp [kindEq, kindNo]
theorem iAdd_eq (x y : Int) : iAdd x y = x + y := by cases x <;> cases y <;> rfl
theorem iMul_eq (x y : Int) : iMul x y = x * y := by cases x <;> cases y <;> rfl
theorem iSub_eq (x y : Int) : iSub x y = x - y := by
  cases x with
  | negSucc a => rfl
  | ofNat a => cases y with
    | negSucc b => rfl
    | ofNat b =>
      show (Bool.rec (motive := fun _ => Int) (.negSucc (b - (a + 1))) (.ofNat (a - b)) (Nat.ble b a)) = _
      cases hb : Nat.ble b a with
      | true => have := Nat.le_of_ble_eq_true hb; simp; omega
      | false => have : ¬ b ≤ a := fun h => by rw [Nat.ble_eq_true_of_le h] at hb; cases hb
                 simp; omega
theorem wrap64_id {n : Int} (h1 : -9223372036854775808 ≤ n) (h2 : n ≤ 9223372036854775807) : IntKind.wrap .i64 n = n := by
  have h : IntKind.wrap .i64 n = if n % 18446744073709551616 ≥ 9223372036854775808 then n % 18446744073709551616 - 18446744073709551616 else n % 18446744073709551616 := by
    simp [IntKind.wrap, IntKind.bits, IntKind.signed]
  rw [h]
  split <;> omega
theorem wrapK_eq (k : IntKind) (n : Int) (K : AV → Ans) : wrapK k n K = K (.i k (k.wrap n)) := by
  cases k <;> try (show forceI _ _ = _; rw [forceI_eq])
  cases n with
  | ofNat a =>
    show ifK (Nat.ble a 9223372036854775807) (forceN a _) (forceI _ _) = _
    rw [ifK_eq, forceN_eq, forceI_eq]
    split
    · rename_i h; rw [wrap64_id (n := .ofNat a) (by simp) (by have := Nat.le_of_ble_eq_true h; simp; omega)]
    · rfl
  | negSucc a =>
    show ifK (Nat.ble a 9223372036854775807) (forceN a _) (forceI _ _) = _
    rw [ifK_eq, forceN_eq, forceI_eq]
    split
    · rename_i h; rw [wrap64_id (n := .negSucc a) (by have := Nat.le_of_ble_eq_true h; omega) (by omega)]
    · rfl
@[simp] theorem boolK_eq (b : Bool) (K : AV → Ans) : boolK b K = K (.b b) := by unfold boolK; rw [forceB_eq]
end Go.AB
namespace Go.AB

/-- What a run is handed: the blocks that lie there from the start, and stay (the program's variables), and the values, one cell each and no truth values, of which nothing else is known. -/
class Base where
  blocks : Array Obj
  unk : Nat → Value
  one : ∀ i, (unk i).oneCell' = true
  nb : ∀ i b, unk i ≠ .bool b
variable [Base]
/-- Which block, of how many cells, a row is, at a version. -/
abbrev Gh := Nat → Nat → Option (Nat × Nat)

/-- What is said of a value of which nothing else is known: 1: a number below 0; 2: one not below. -/
def SgnOK (o : Nat) (v : Value) : Prop := (o = 1 → ∃ n, v = .int .i64 n ∧ n < 0) ∧ (o = 2 → ∃ n, v = .int .i64 n ∧ 0 ≤ n)
mutual
def VR (γ : Gh) : AV → Value → Prop
  | .b x, v => v = .bool x
  | .i k n, v => v = .int k n
  | .s n c, v => ∃ s : ByteArray, v = .string s ∧ s.size = n ∧ encS s = c
  | .p0, v => v = .pointer none
  | .p a ver o, v => ∃ B N, γ a ver = some (B, N) ∧ v = .pointer (some ⟨B, o, none⟩)
  | .sl0, v => v = .slice none 0 0
  | .sl a ver o n es c, v => ∃ B N cap, γ a ver = some (B, N) ∧ ∃ oo, v = .slice (some ⟨B, oo, none⟩) n cap ∧ (cap ≠ 0 → oo = o) ∧ 0 < es ∧ n ≤ cap ∧ o + cap * es ≤ N ∧ (c = 0 → o + cap * es = N) ∧ (c ≠ 0 → c = cap + 1)
  | .m0, v => v = .map none
  | .m a, v => ∃ B N, γ a 0 = some (B, N) ∧ v = .map (some B)
  | .fn f first cap, v => ∃ x y, v = .func f x y ∧ VRL γ first x.toList ∧ VRL γ cap y.toList ∧ ∀ l, f ≠ .yield l
  | .f0, v => v = .nilFunc
  | .ifc t x, v => ∃ u, v = .iface t u ∧ VR γ x u
  | .i0, v => v = .nilIface
  | .ag cs, v => ∃ c, v = .agg c ∧ VRL γ cs c.toList ∧ ∀ x ∈ cs, cellA x = true
  | .tu vs, v => ∃ c, v = .tuple c ∧ VRL γ vs c.toList
  | .gp i o, v => v = Base.unk i ∧ SgnOK o v
  | .yl l, v => ∃ B N, γ l 0 = some (B, N) ∧ v = .func (.yield B) #[] #[]
def VRL (γ : Gh) : List AV → List Value → Prop
  | [], l => l = []
  | x :: xs, l => ∃ v vs, l = v :: vs ∧ VR γ x v ∧ VRL γ xs vs
end

def Gh.le (γ γ' : Gh) : Prop := ∀ a v x, γ a v = some x → γ' a v = some x
theorem Gh.le_refl (γ : Gh) : γ.le γ := fun _ _ _ h => h
theorem Gh.le_trans {γ γ' γ'' : Gh} (h : γ.le γ') (k : γ'.le γ'') : γ.le γ'' := fun a v x e => k a v x (h a v x e)

mutual
theorem VR.mono {γ γ' : Gh} (h : γ.le γ') : ∀ (x : AV) {v : Value}, VR γ x v → VR γ' x v
  | .b _, _, e => by simpa [VR] using e
  | .i _ _, _, e => by simpa [VR] using e
  | .s _ _, _, e => by simpa [VR] using e
  | .p0, _, e => by simpa [VR] using e
  | .p a ver o, _, e => by
    simp only [VR] at e ⊢
    obtain ⟨B, N, hg, rfl⟩ := e
    exact ⟨B, N, h _ _ _ hg, rfl⟩
  | .sl0, _, e => by simpa [VR] using e
  | .sl a ver o n es c, _, e => by
    simp only [VR] at e ⊢
    obtain ⟨B, N, cap, hg, r⟩ := e
    exact ⟨B, N, cap, h _ _ _ hg, r⟩
  | .m0, _, e => by simpa [VR] using e
  | .m a, _, e => by
    simp only [VR] at e ⊢
    obtain ⟨B, N, hg, rfl⟩ := e
    exact ⟨B, N, h _ _ _ hg, rfl⟩
  | .fn f first cap, _, e => by
    simp only [VR] at e ⊢
    obtain ⟨x, y, rfl, h1, h2, h3⟩ := e
    exact ⟨x, y, rfl, VRL.mono h first h1, VRL.mono h cap h2, h3⟩
  | .f0, _, e => by simpa [VR] using e
  | .ifc t x, _, e => by
    simp only [VR] at e ⊢
    obtain ⟨u, rfl, h1⟩ := e
    exact ⟨u, rfl, VR.mono h x h1⟩
  | .i0, _, e => by simpa [VR] using e
  | .ag cs, _, e => by
    simp only [VR] at e ⊢
    obtain ⟨c, rfl, h1, h2⟩ := e
    exact ⟨c, rfl, VRL.mono h cs h1, h2⟩
  | .tu vs, _, e => by
    simp only [VR] at e ⊢
    obtain ⟨c, rfl, h1⟩ := e
    exact ⟨c, rfl, VRL.mono h vs h1⟩
  | .gp _ _, _, e => by simpa [VR] using e
  | .yl l, _, e => by
    simp only [VR] at e ⊢
    obtain ⟨B, N, hg, rfl⟩ := e
    exact ⟨B, N, h _ _ _ hg, rfl⟩
theorem VRL.mono {γ γ' : Gh} (h : γ.le γ') : ∀ (l : List AV) {m : List Value}, VRL γ l m → VRL γ' l m
  | [], _, e => by simpa [VRL] using e
  | x :: xs, _, e => by
    simp only [VRL] at e ⊢
    obtain ⟨v, vs, rfl, h1, h2⟩ := e
    exact ⟨v, vs, rfl, VR.mono h x h1, VRL.mono h xs h2⟩
end

@[simp] theorem VRL_nil {γ : Gh} {m : List Value} : VRL γ [] m ↔ m = [] := by simp [VRL]
@[simp] theorem VRL_cons {γ : Gh} {x : AV} {xs : List AV} {v : Value} {vs : List Value} : VRL γ (x :: xs) (v :: vs) ↔ VR γ x v ∧ VRL γ xs vs := by
  simp only [VRL]
  constructor
  · rintro ⟨u, us, e, h1, h2⟩; cases e; exact ⟨h1, h2⟩
  · rintro ⟨h1, h2⟩; exact ⟨v, vs, rfl, h1, h2⟩
theorem VRL.length {γ : Gh} : ∀ {l : List AV} {m : List Value}, VRL γ l m → l.length = m.length
  | [], _, e => by simp at e; simp [e]
  | x :: xs, _, e => by
    simp only [VRL] at e
    obtain ⟨v, vs, rfl, _, h2⟩ := e
    simp [h2.length]
theorem VRL.append {γ : Gh} : ∀ {l l' : List AV} {m m' : List Value}, VRL γ l m → VRL γ l' m' → VRL γ (l ++ l') (m ++ m')
  | [], _, _, _, e, e' => by simp at e; simpa [e] using e'
  | x :: xs, _, _, _, e, e' => by
    simp only [VRL] at e
    obtain ⟨v, vs, rfl, h1, h2⟩ := e
    simp [h1, h2.append e']
/-- Lists are related place by place. -/
theorem VRL_iff {γ : Gh} : ∀ {l : List AV} {m : List Value}, VRL γ l m ↔ l.length = m.length ∧ ∀ (i : Nat) x v, l[i]? = some x → m[i]? = some v → VR γ x v := by
  intro l
  induction l with
  | nil => intro m; simp; exact ⟨fun h => by simp [h], fun h => by cases m <;> simp_all⟩
  | cons x xs ih =>
    intro m
    cases m with
    | nil => simp [VRL]
    | cons v vs =>
      simp only [VRL_cons, ih, List.length_cons, Nat.add_right_cancel_iff]
      constructor
      · rintro ⟨h1, h2, h3⟩
        refine ⟨h2, fun i y u hy hu => ?_⟩
        cases i with
        | zero => simp at hy hu; subst hy; subst hu; exact h1
        | succ i => exact h3 i y u (by simpa using hy) (by simpa using hu)
      · rintro ⟨h2, h3⟩
        exact ⟨h3 0 x v rfl rfl, h2, fun i y u hy hu => h3 (i + 1) y u (by simpa using hy) (by simpa using hu)⟩
theorem VRL.get {γ : Gh} {l : List AV} {m : List Value} (h : VRL γ l m) {i : Nat} {x : AV} (hx : l[i]? = some x) : ∃ v, m[i]? = some v ∧ VR γ x v := by
  have h' := VRL_iff.1 h
  have hi : i < l.length := by
    rcases Nat.lt_or_ge i l.length with h | h
    · exact h
    · rw [List.getElem?_eq_none h] at hx; cases hx
  have : i < m.length := h'.1 ▸ hi
  exact ⟨m[i], by simp [this], h'.2 i x _ hx (by simp [this])⟩

/-! ### temporaries -/
noncomputable def Tm.get (tm : Tm) (i : Nat) : AV := match selG2 (i / 16), selG1 (i % 16) with
  | .mk g2 _, .mk g1 _ => g1 (g2 tm)
def TmR (γ : Gh) (nt : Nat) (tm : Tm) (tmps : Array Value) : Prop := tmps.size = nt ∧ ∀ i, i < 256 → VR γ (tm.get i) (tmps.getD i undef)

/-! ### memory -/
def CellsR (γ : Gh) (cs : BV4) (n : Nat) (c : Array Value) : Prop := ∀ i, i < n → ∃ x v, cs.get i = some x ∧ c[i]? = some v ∧ cellA x = true ∧ VR γ x v
def EntR (γ : Gh) : List (AV × AV × Nat) → List MapEntry → Prop
  | [], l => l = []
  | x :: xs, l => ∃ e es, l = e :: es ∧ VR γ x.1 e.key ∧ VR γ x.2.1 e.val ∧ e.born = x.2.2 ∧ EntR γ xs es
def DfrR (γ : Gh) : Dfr → Deferred → Prop
  | .call f args, d => ∃ fn first cap x y as, f = .fn fn first cap ∧ (∀ l, fn ≠ .yield l) ∧ d = { target := .fn fn y, args := x ++ as } ∧ VRL γ first x.toList ∧ VRL γ cap y.toList ∧ VRL γ args as.toList
  | .coll a, d => ∃ B N, γ a 0 = some (B, N) ∧ d = { target := .collected B, args := #[] }
def DfrsR (γ : Gh) : List Dfr → List Deferred → Prop
  | [], l => l = []
  | x :: xs, l => ∃ d ds, l = d :: ds ∧ DfrR γ x d ∧ DfrsR γ xs ds
def ObR (γ : Gh) (ver N : Nat) (o : Obj) : AO → Prop
  | .blk n cs => ver = 0 ∧ N = n ∧ ∃ c T, o = .cells c T (0, 0) ∧ c.size = N ∧ CellsR γ cs n c
  | .grow n cs lw => ver ≤ n ∧ lw ≤ n ∧ ∃ c T, o = .cells c T (0, 0) ∧ c.size = N ∧ ver ≤ N ∧ (lw ≤ ver → CellsR γ cs ver c)
  | .map es clock => ver = 0 ∧ ∃ es', o = .map es' clock ∧ EntR γ es es'.toList
  | .mit m since seen last => ver = 0 ∧ ∃ m', o = .mapIter m' since seen.toArray last ∧ (match m with | none => m' = none | some r => ∃ B N', γ r 0 = some (B, N') ∧ m' = some B)
  | .sit n code pos => ver = 0 ∧ ∃ s, o = .stringIter s pos ∧ s.size = n ∧ encS s = code
  | .loop st pending nt tm params assign body d => ver = 0 ∧ ∃ r : Loop, o = .loop r ∧ r.state = st ∧ r.pending = pending ∧ TmR γ nt tm r.tmps ∧ r.params.toList = params ∧ r.assign = assign ∧ r.body = body ∧
      ∃ N', γ d 0 = some (r.defers, N')
  | .dfr l => ver = 0 ∧ ∃ l', o = .deferred l' ∧ (match l, l' with | none, none => True | some l, some l' => DfrsR γ l l' | _, _ => False)

structure HR (γ : Gh) (h : H) (w : World) : Prop where
  ob : ∀ a v B N, γ a v = some (B, N) → ∃ ob o, h.get a = some ob ∧ w.heap[B]? = some o ∧ ObR γ v N o ob
  inj : ∀ a v B N a' v' N', γ a v = some (B, N) → γ a' v' = some (B, N') → a = a'
  lt : ∀ a v x, γ a v = some x → a < h.nx
  wf : ∀ a ob, h.get a = some ob → a < h.nx
  base : ∀ (B : Nat) o, Base.blocks[B]? = some o → w.heap[B]? = some o ∧ ∀ a v N, γ a v ≠ some (B, N)

/-- What is no memory stays: the outside, the tape, what is written. -/
structure Still (w w' : World) : Prop where
  os : w'.os = w.os
  tape : w'.tape = w.tape
  output : w'.output = w.output
theorem Still.refl (w : World) : Still w w := ⟨rfl, rfl, rfl⟩
theorem Still.trans {w w' w'' : World} (x : Still w w') (y : Still w' w'') : Still w w'' := ⟨y.os.trans x.os, y.tape.trans x.tape, y.output.trans x.output⟩
/-- What a piece of an execution keeps: the map grows by new rows alone; what is not in it stays, on both sides. -/
structure Ext (γ : Gh) (h : H) (w : World) (γ' : Gh) (h' : H) (w' : World) : Prop where
  mono : γ.le γ'
  fresh : ∀ a v B N, γ' a v = some (B, N) → (∃ v0 N0, γ a v0 = some (B, N0)) ∨ w.heap.size ≤ B
  nx : h.nx ≤ h'.nx
  aold : ∀ a, a < h.nx → (∀ v, γ a v = none) → h'.get a = h.get a ∧ ∀ v, γ' a v = none
  wold : ∀ B, B < w.heap.size → (∀ a v N, γ a v ≠ some (B, N)) → w'.heap[B]? = w.heap[B]?
  wle : w.heap.size ≤ w'.heap.size
  still : Still w w'

theorem Ext.refl (γ : Gh) (h : H) (w : World) : Ext γ h w γ h w :=
  ⟨Gh.le_refl γ, fun _ v _ N e => .inl ⟨v, N, e⟩, Nat.le_refl _, fun _ _ hn => ⟨rfl, hn⟩, fun _ _ _ => rfl, Nat.le_refl _, Still.refl w⟩
theorem Ext.trans {γ γ' γ'' : Gh} {h h' h'' : H} {w w' w'' : World} (x : Ext γ h w γ' h' w') (y : Ext γ' h' w' γ'' h'' w'') : Ext γ h w γ'' h'' w'' where
  mono := Gh.le_trans x.mono y.mono
  fresh := fun a v B N e => by
    rcases y.fresh a v B N e with ⟨v0, N0, e0⟩ | hB
    · exact x.fresh a v0 B N0 e0
    · exact .inr (Nat.le_trans x.wle hB)
  nx := Nat.le_trans x.nx y.nx
  aold := fun a ha hn => by
    obtain ⟨h1, h2⟩ := x.aold a ha hn
    obtain ⟨h3, h4⟩ := y.aold a (Nat.lt_of_lt_of_le ha x.nx) h2
    exact ⟨h3.trans h1, h4⟩
  wold := fun B hB hn => by
    have h1 := x.wold B hB hn
    rw [← h1]
    refine y.wold B (Nat.lt_of_lt_of_le hB x.wle) fun a v N e => ?_
    rcases x.fresh a v B N e with ⟨v0, N0, e0⟩ | h
    · exact hn a v0 N0 e0
    · omega
  wle := Nat.le_trans x.wle y.wle
  still := x.still.trans y.still

/-! ### the map grows: all relations stay -/
theorem TmR.mono {γ γ' : Gh} (h : γ.le γ') {nt : Nat} {tm : Tm} {tmps : Array Value} (e : TmR γ nt tm tmps) : TmR γ' nt tm tmps :=
  ⟨e.1, fun i hi => VR.mono h _ (e.2 i hi)⟩
theorem CellsR.mono {γ γ' : Gh} (h : γ.le γ') {cs : BV4} {n : Nat} {c : Array Value} (e : CellsR γ cs n c) : CellsR γ' cs n c := fun i hi =>
  let ⟨x, v, h1, h2, h3, h4⟩ := e i hi; ⟨x, v, h1, h2, h3, VR.mono h x h4⟩
theorem EntR.mono {γ γ' : Gh} (h : γ.le γ') : ∀ {l : List (AV × AV × Nat)} {m : List MapEntry}, EntR γ l m → EntR γ' l m
  | [], _, e => e
  | _ :: _, _, e => by
    obtain ⟨x, xs, rfl, h1, h2, h3, h4⟩ := e
    exact ⟨x, xs, rfl, VR.mono h _ h1, VR.mono h _ h2, h3, EntR.mono h h4⟩
theorem DfrR.mono {γ γ' : Gh} (h : γ.le γ') : ∀ {x : Dfr} {d : Deferred}, DfrR γ x d → DfrR γ' x d
  | .call _ _, _, e => by
    obtain ⟨fn, first, cap, x, y, as, rfl, h0, rfl, h1, h2, h3⟩ := e
    exact ⟨fn, first, cap, x, y, as, rfl, h0, rfl, h1.mono h, h2.mono h, h3.mono h⟩
  | .coll _, _, e => by
    obtain ⟨B, N, hg, rfl⟩ := e
    exact ⟨B, N, h _ _ _ hg, rfl⟩
theorem DfrsR.mono {γ γ' : Gh} (h : γ.le γ') : ∀ {l : List Dfr} {m : List Deferred}, DfrsR γ l m → DfrsR γ' l m
  | [], _, e => e
  | _ :: _, _, e => by
    obtain ⟨d, ds, rfl, h1, h2⟩ := e
    exact ⟨d, ds, rfl, h1.mono h, DfrsR.mono h h2⟩
theorem ObR.mono {γ γ' : Gh} (h : γ.le γ') {ver N : Nat} {o : Obj} : ∀ {ob : AO}, ObR γ ver N o ob → ObR γ' ver N o ob
  | .blk _ _, ⟨h1, h2, c, T, h3, h4, h5⟩ => ⟨h1, h2, c, T, h3, h4, h5.mono h⟩
  | .grow _ _ _, ⟨h1, h2, c, T, h3, h4, h5, h6⟩ => ⟨h1, h2, c, T, h3, h4, h5, fun e => (h6 e).mono h⟩
  | .map _ _, ⟨h1, es, h2, h3⟩ => ⟨h1, es, h2, h3.mono h⟩
  | .mit m _ _ _, ⟨h1, m', h2, h3⟩ => ⟨h1, m', h2, by
      cases m with
      | none => exact h3
      | some r => obtain ⟨B, N', hg, e⟩ := h3; exact ⟨B, N', h _ _ _ hg, e⟩⟩
  | .sit _ _ _, e => e
  | .loop .., ⟨h1, r, h2, h3, h4, h5, h6, h7, h8, N', h9⟩ => ⟨h1, r, h2, h3, h4, h5.mono h, h6, h7, h8, N', h _ _ _ h9⟩
  | .dfr l, ⟨h1, l', h2, h3⟩ => ⟨h1, l', h2, by
      cases l <;> cases l' <;> first | exact h3 | exact DfrsR.mono h h3⟩

/-! ### the map with one more place -/
def Gh.put (γ : Gh) (a v B N : Nat) : Gh := fun a' v' => if a' = a ∧ v' = v then some (B, N) else γ a' v'
theorem Gh.le_put {γ : Gh} {a v B N : Nat} (h : γ a v = none) : γ.le (γ.put a v B N) := fun a' v' x e => by
  unfold Gh.put
  split
  · rename_i hh; obtain ⟨rfl, rfl⟩ := hh; rw [h] at e; cases e
  · exact e
@[simp] theorem Gh.put_same {γ : Gh} {a v B N : Nat} : γ.put a v B N a v = some (B, N) := by simp [Gh.put]
theorem Gh.put_some {γ : Gh} {a v B N a' v' : Nat} {x : Nat × Nat} (h : γ.put a v B N a' v' = some x) : (a' = a ∧ v' = v ∧ x = (B, N)) ∨ (γ a' v' = some x ∧ ¬ (a' = a ∧ v' = v)) := by
  unfold Gh.put at h
  split at h
  · rename_i hh; exact .inl ⟨hh.1, hh.2, by simpa using h.symm⟩
  · rename_i hh; exact .inr ⟨h, hh⟩
/-- A new row: a new number on this side, a new block on that. -/
theorem HR.new {γ : Gh} {h h' : H} {w : World} (hr : HR γ h w) {ob : AO} {o : Obj} {v N : Nat} (hn : h'.nx = h.nx + 1) (hg : ∀ a, h'.get a = if a = h.nx then some ob else h.get a)
    {w' : World} (hw : w'.heap = w.heap.push o) (hob : ObR (γ.put h.nx v w.heap.size N) v N o ob) (hst : Still w w' := by exact ⟨rfl, rfl, rfl⟩) :
    HR (γ.put h.nx v w.heap.size N) h' w' ∧ Ext γ h w (γ.put h.nx v w.heap.size N) h' w' := by
  have hno : ∀ v', γ h.nx v' = none := fun v' => by
    cases e : γ h.nx v' with
    | none => rfl
    | some x => exact absurd (hr.lt _ _ _ e) (Nat.lt_irrefl _)
  have hle := Gh.le_put (γ := γ) (a := h.nx) (v := v) (B := w.heap.size) (N := N) (hno v)
  have hold : ∀ a v' B N', γ a v' = some (B, N') → B < w.heap.size := fun a v' B N' e => by
    obtain ⟨_, o', _, h2, _⟩ := hr.ob a v' B N' e
    exact (Array.getElem?_eq_some_iff.1 h2).1
  refine ⟨⟨fun a v' B N' e => ?_, fun a v1 B N1 a' v2 N2 e1 e2 => ?_, fun a v' x e => ?_, fun a ob' e => ?_, fun B o' hb => ?_⟩, ⟨hle, fun a v' B N' e => ?_, by omega, fun a ha hn' => ?_, fun B hB _ => ?_, ?_, hst⟩⟩
  · rcases Gh.put_some e with ⟨rfl, rfl, e'⟩ | ⟨e', _⟩
    · cases e'
      exact ⟨ob, o, by simp [hg], by simp [hw], hob⟩
    · obtain ⟨ob', o', h1, h2, h3⟩ := hr.ob a v' B N' e'
      have hlt := hold _ _ _ _ e'
      refine ⟨ob', o', ?_, ?_, h3.mono hle⟩
      · rw [hg, if_neg (Nat.ne_of_lt (hr.lt _ _ _ e')), h1]
      · rw [hw, Array.getElem?_push_lt hlt, ← Array.getElem?_eq_getElem hlt, h2]
  · rcases Gh.put_some e1 with ⟨rfl, _, e1'⟩ | ⟨e1', _⟩ <;> rcases Gh.put_some e2 with ⟨rfl, _, e2'⟩ | ⟨e2', _⟩
    · rfl
    · cases e1'; exact absurd (hold _ _ _ _ e2') (Nat.lt_irrefl _)
    · cases e2'; exact absurd (hold _ _ _ _ e1') (Nat.lt_irrefl _)
    · exact hr.inj _ _ _ _ _ _ _ e1' e2'
  · rcases Gh.put_some e with ⟨rfl, _, _⟩ | ⟨e', _⟩
    · omega
    · have := hr.lt _ _ _ e'; omega
  · rw [hg] at e
    split at e
    · omega
    · have := hr.wf _ _ e; omega
  · obtain ⟨h1, h2⟩ := hr.base B o' hb
    have hlt : B < w.heap.size := (Array.getElem?_eq_some_iff.1 h1).1
    refine ⟨by rw [hw, Array.getElem?_push_lt hlt, ← Array.getElem?_eq_getElem hlt]; exact h1, fun a v' N' e => ?_⟩
    rcases Gh.put_some e with ⟨_, _, e'⟩ | ⟨e', _⟩
    · cases e'; exact absurd hlt (Nat.lt_irrefl _)
    · exact h2 _ _ _ e'
  · rcases Gh.put_some e with ⟨rfl, _, e'⟩ | ⟨e', _⟩
    · cases e'; exact .inr (Nat.le_refl _)
    · exact .inl ⟨_, _, e'⟩
  · refine ⟨by rw [hg, if_neg (Nat.ne_of_lt ha)], fun v' => ?_⟩
    unfold Gh.put
    rw [if_neg (by omega), hn' v']
  · rw [hw, Array.getElem?_push_lt hB, ← Array.getElem?_eq_getElem hB]
  · rw [hw]; simp
/-- A row is written over: every place of its that still counts is shown anew. -/
theorem HR.put {γ : Gh} {h h' : H} {w w' : World} (hr : HR γ h w) {a v0 B N0 : Nat} {ob : AO} {o : Obj} (ha : γ a v0 = some (B, N0)) (hn : h'.nx = h.nx)
    (hg : ∀ b, h'.get b = if b = a then some ob else h.get b) (_hB : w'.heap[B]? = some o) (hsz : w'.heap.size = w.heap.size) (hoth : ∀ C, C ≠ B → w'.heap[C]? = w.heap[C]?)
    (hob : ∀ v C N, γ a v = some (C, N) → ∃ o', w'.heap[C]? = some o' ∧ ObR γ v N o' ob) (hst : Still w w' := by exact ⟨rfl, rfl, rfl⟩) : HR γ h' w' ∧ Ext γ h w γ h' w' := by
  refine ⟨⟨fun b v C N e => ?_, hr.inj, fun b v x e => hn ▸ hr.lt b v x e, fun b ob' e => ?_, fun C o' hb => ?_⟩, ⟨Gh.le_refl γ, fun b v C N e => .inl ⟨v, N, e⟩, by omega, fun b hb hno => ?_, fun C hC hno => ?_, by omega, hst⟩⟩
  · by_cases hba : b = a
    · subst hba
      obtain ⟨o', h1, h2⟩ := hob v C N e
      exact ⟨ob, o', by simp [hg], h1, h2⟩
    · obtain ⟨ob', o', h1, h2, h3⟩ := hr.ob b v C N e
      have hCB : C ≠ B := fun hh => hba (hr.inj b v C N a v0 N0 e (hh ▸ ha))
      exact ⟨ob', o', by rw [hg, if_neg hba, h1], by rw [hoth C hCB, h2], h3⟩
  · rw [hg] at e
    split at e
    · rename_i hba; rw [hn, hba]; exact hr.lt _ _ _ ha
    · rw [hn]; exact hr.wf _ _ e
  · obtain ⟨h1, h2⟩ := hr.base C o' hb
    exact ⟨by rw [hoth C fun hh => h2 a v0 N0 (hh ▸ ha)]; exact h1, h2⟩
  · have hba : b ≠ a := fun hh => by rw [hh, ] at hno; rw [hno v0] at ha; cases ha
    exact ⟨by rw [hg, if_neg hba], hno⟩
  · exact hoth C fun hh => hno a v0 N0 (hh ▸ ha)
end Go.AB
