/- What states look like at a loop's head: shapes, and the values in their places. -/
import Derived.Test.YtgimohchocjgcaaVC
namespace Go.Proofs.Ytgimohchocjgcaa.V

inductive CS where
  | u64 | u32 | u8 | int | bool | str
  | ro (e : El)
  | row (id : Nat)
  | sl (id : Nat)
  | ptr (id sub : Nat)
  | ptr0 (id sub : Nat)
  | nilp | dead

inductive US where
  | c (x : CS)
  | agg (l : List CS)
  | vec (e : El)

inductive VS where
  | u (x : US)
  | dead

inductive OS where
  | lit (l : List CS)
  | vec (e : El)

structure ObS where
  (row : Bool) (n : Nat) (ty : TypeId) (o : OS)

/-- 'n' slots, of which these hold something. -/
structure Shape where
  (n : Nat) (tm : List (Nat × VS)) (ob : List (Nat × ObS))

def CS.T : CS → Type
  | .u64 => UInt64
  | .u32 => UInt32
  | .u8 => UInt8
  | .int => Int
  | .bool => Bool
  | .str => List UInt8
  | .ro e => List e.T
  | .row _ => Unit
  | .sl _ => Nat × Nat
  | .ptr _ _ => Nat
  | .ptr0 _ _ => Unit
  | .nilp => Unit
  | .dead => Unit

def TCs : List CS → Type
  | [] => Unit
  | c :: l => c.T × TCs l

def US.T : US → Type
  | .c x => x.T
  | .agg l => TCs l
  | .vec e => List e.T

def VS.T : VS → Type
  | .u x => x.T
  | .dead => Unit

def TVs : List (Nat × VS) → Type
  | [] => Unit
  | v :: l => v.2.T × TVs l

def OS.T : OS → Type
  | .lit l => TCs l
  | .vec e => List e.T

def TObs : List (Nat × ObS) → Type
  | [] => Unit
  | x :: l => x.2.o.T × TObs l

def Shape.T (sh : Shape) : Type := TVs sh.tm × TObs sh.ob

def CS.enc : (c : CS) → c.T → C
  | .u64, x => .u64 x
  | .u32, x => .u32 x
  | .u8, x => .u8 x
  | .int, x => .int x
  | .bool, x => .bool x
  | .str, x => .str x
  | .ro e, x => .ro e x
  | .row id, _ => .row id
  | .sl id, x => .sl id x.1 x.2
  | .ptr id sub, x => .ptr id x sub
  | .ptr0 id sub, _ => .ptr id 0 sub
  | .nilp, _ => .nilp
  | .dead, _ => .dead

def encCs : (l : List CS) → TCs l → List C
  | [], _ => []
  | c :: l, x => c.enc x.1 :: encCs l x.2

def US.enc : (u : US) → u.T → U
  | .c y, x => .c (y.enc x)
  | .agg l, x => .agg (encCs l x)
  | .vec e, x => .vec e x

def VS.enc : (v : VS) → v.T → V
  | .u y, x => .u (y.enc x)
  | .dead, _ => .dead

def encVs (b : List V) : (l : List (Nat × VS)) → TVs l → List V
  | [], _ => b
  | c :: l, x => setV (encVs b l x.2) c.1 (c.2.enc x.1)

def OS.enc : (o : OS) → o.T → O
  | .lit l, x => .lit (encCs l x)
  | .vec e, x => .vec e x

def encObs : (l : List (Nat × ObS)) → TObs l → List (Nat × Ob)
  | [], _ => []
  | (id, y) :: l, x => (id, ⟨y.row, y.n, y.ty, y.o.enc x.1⟩) :: encObs l x.2

def Shape.enc (sh : Shape) (x : sh.T) : St := ⟨encVs (List.replicate sh.n .dead) sh.tm x.1, encObs sh.ob x.2⟩

def C.u64? : C → Option UInt64 | .u64 x => some x | _ => none
def C.u32? : C → Option UInt32 | .u32 x => some x | _ => none
def C.u8? : C → Option UInt8 | .u8 x => some x | _ => none
def C.int? : C → Option Int | .int x => some x | _ => none
def C.bool? : C → Option Bool | .bool x => some x | _ => none
def C.str? : C → Option (List UInt8) | .str x => some x | _ => none
def C.ro? (e : El) : C → Option (List e.T) | .ro f l => castL f e l | _ => none
def C.row? (id : Nat) : C → Option Unit | .row j => cond (Nat.beq j id) (some ()) none | _ => none
def C.sl? (id : Nat) : C → Option (Nat × Nat) | .sl j a b => cond (Nat.beq j id) (some (a, b)) none | _ => none
def C.ptr? (id sub : Nat) : C → Option Nat | .ptr j i sub' => cond (Nat.beq j id && Nat.beq sub' sub) (some i) none | _ => none
def C.ptr0? (id sub : Nat) : C → Option Unit | .ptr j i sub' => cond (Nat.beq j id && (Nat.beq i 0 && Nat.beq sub' sub)) (some ()) none | _ => none
def C.nilp? : C → Option Unit | .nilp => some () | _ => none

def CS.dec (c : CS) (x : C) : Option c.T :=
  match c with
  | .u64 => x.u64?
  | .u32 => x.u32?
  | .u8 => x.u8?
  | .int => x.int?
  | .bool => x.bool?
  | .str => x.str?
  | .ro e => x.ro? e
  | .row id => x.row? id
  | .sl id => x.sl? id
  | .ptr id sub => x.ptr? id sub
  | .ptr0 id sub => x.ptr0? id sub
  | .nilp => x.nilp?
  | .dead => some ()

def decCs : (l : List CS) → List C → Option (TCs l)
  | [], r => match r with
    | [] => some ()
    | _ :: _ => none
  | c :: l, r => match r with
    | [] => none
    | x :: r => match c.dec x with
      | some a => match decCs l r with
        | some b => some (a, b)
        | none => none
      | none => none

def U.c? : U → Option C | .c x => some x | _ => none
def U.agg? : U → Option (List C) | .agg l => some l | _ => none
def U.vec? (e : El) : U → Option (List e.T) | .vec f l => castL f e l | _ => none

def US.dec (u : US) (x : U) : Option u.T :=
  match u with
  | .c y => match x.c? with
    | some x => y.dec x
    | none => none
  | .agg l => match x.agg? with
    | some r => decCs l r
    | none => none
  | .vec e => x.vec? e

def V.u? : V → Option U | .u x => some x | _ => none

def VS.dec (v : VS) (x : V) : Option v.T :=
  match v with
  | .u y => match x.u? with
    | some x => y.dec x
    | none => none
  | .dead => some ()

def decVs (tm : List V) : (l : List (Nat × VS)) → Option (TVs l)
  | [] => some ()
  | c :: l => match c.2.dec (tm.getD c.1 .dead) with
    | some a => match decVs tm l with
      | some b => some (a, b)
      | none => none
    | none => none

def O.lit? : O → Option (List C) | .lit l => some l | _ => none
def O.vec? (e : El) : O → Option (List e.T) | .vec f l => castL f e l | _ => none

def OS.dec (o : OS) (x : O) : Option o.T :=
  match o with
  | .lit l => match x.lit? with
    | some r => decCs l r
    | none => none
  | .vec e => x.vec? e

def decObs : (l : List (Nat × ObS)) → List (Nat × Ob) → Option (TObs l)
  | [], r => match r with
    | [] => some ()
    | _ :: _ => none
  | (id, y) :: l, r => match r with
    | [] => none
    | (j, z) :: r => cond (Nat.beq j id && ((y.row == z.row) && (Nat.beq y.n z.n && Nat.beq y.ty z.ty))) (match y.o.dec z.o with
      | some a => match decObs l r with
        | some b => some (a, b)
        | none => none
      | none => none) none

def Shape.dec (sh : Shape) (s : St) : Option sh.T :=
  cond (Nat.beq s.tm.length sh.n) (match decVs s.tm sh.tm with
    | some a => match decObs sh.ob s.ob with
      | some b => some (a, b)
      | none => none
    | none => none) none

def slotsIn : List (Nat × VS) → List Nat
  | [] => []
  | p :: l => p.1 :: slotsIn l

def Shape.norm (sh : Shape) (key : Nat) (s : St) : St := V.norm (slotsIn sh.tm) key s

/-- A loop's head: its shape, the way out. -/
structure Head where
  sh : Shape
  out : Ex

def Ex.is : Ex → Ex → Bool
  | .exit i, .exit j => Nat.beq i j
  | .fall, .fall => true
  | _, _ => false

/-- What is behind a round: of a label's code, a jump to it goes round. -/
def wrapK {R : Type} (key : Nat) (k : Kn R) : Kn R := cond (Nat.blt key 1000) k (Kn.again (key - 1000) k)

/-- One loop: at most N rounds; lp: the loops within. 'L': how rounds are counted. -/
def oneLp {R : Type} (L : (X : Type) → ((X → Option R) → X → Option R) → Nat → X → Option R) (pd : PD) (env : Nat → Option Sg) (ret : St → Option R) (N : Nat) (lp : Lp R) (h : Head) (key : Nat) (c : Code) (s : St) (k : Kn R) : Option R :=
  match h.sh.dec (h.sh.norm key s) with
  | some x => L h.sh.T (fun A x => exec pd env ret lp c (h.sh.enc x) (wrapK key (Kc h.sh.dec (h.sh.norm key) h.out.is A fun y => k h.out (h.sh.enc y)))) N x
  | none => none

def mkLpG {R : Type} (L : (X : Type) → ((X → Option R) → X → Option R) → Nat → X → Option R) (pd : PD) (env : Nat → Option Sg) (ret : St → Option R) (N : Nat) (tab : List (Nat × Head)) : Nat → Lp R
  | 0 => fun _ _ _ _ => none
  | d + 1 => fun key c s k => match look key tab with
    | some h => oneLp L pd env ret N (mkLpG L pd env ret N tab d) h key c s k
    | none => none

def mkLp {R : Type} (pd : PD) (env : Nat → Option Sg) (ret : St → Option R) (N : Nat) (tab : List (Nat × Head)) (d : Nat) : Lp R := mkLpG (fun _ => loopN) pd env ret N tab d

end Go.Proofs.Ytgimohchocjgcaa.V
