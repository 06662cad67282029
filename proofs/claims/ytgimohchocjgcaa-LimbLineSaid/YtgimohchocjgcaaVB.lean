/- The evaluator's operations, regions, and code. -/
import Derived.Test.YtgimohchocjgcaaVA
namespace Go.Proofs.Ytgimohchocjgcaa.V

/-- Objects that were handed over have types from here on. -/
def PIN : Nat := 1000000

/-! ### What is handed over at calls -/

def reC (s : St) : C → Option C
  | .row id => match s.get id with
    | some ⟨true, _, _, .vec e l⟩ => some (.ro e l)
    | _ => none
  | .sl id i n => match s.get id with
    | some ⟨_, _, _, .vec e l⟩ => some (.ro e ((l.drop i).take n))
    | _ => none
  | .ro e l => some (.ro e l)
  | .u64 x => some (.u64 x)
  | .u32 x => some (.u32 x)
  | .u8 x => some (.u8 x)
  | .int x => some (.int x)
  | .bool x => some (.bool x)
  | .str x => some (.str x)
  | _ => none

def reCs (s : St) : List C → Option (List C)
  | [] => some []
  | c :: l => match reC s c with
    | some d => match reCs s l with
      | some r => some (d :: r)
      | none => none
    | none => none

def reU (s : St) : U → Option U
  | .c x => match reC s x with
    | some y => some (.c y)
    | none => none
  | .agg l => match reCs s l with
    | some r => some (.agg r)
    | none => none
  | .vec e l => some (.vec e l)
  | .box _ => none

def reArgs (pd : PD) (s : St) : List Operand → List TypeId → Option (List U)
  | [], _ => some []
  | x :: l, ts => match pd.ev (ts.headD 0) s x with
    | .u u => match reU s u with
      | some y => match reArgs pd s l ts.tail with
        | some r => some (y :: r)
        | none => none
      | none => none
    | _ => none

def idC : C → List Nat
  | .row id => [id]
  | .sl id _ _ => [id]
  | .ptr id _ _ => [id]
  | _ => []

def idCs : List C → List Nat
  | [] => []
  | c :: l => idC c ++ idCs l

def U.ids : U → List Nat
  | .c x => idC x
  | .agg l => idCs l
  | .vec _ _ => []
  | .box _ => []

def idUs : List U → List Nat
  | [] => []
  | u :: l => u.ids ++ idUs l

def V.ids : V → List Nat
  | .u x => x.ids
  | .tup l => idUs l
  | .dead => []

def O.ids : O → List Nat
  | .lit l => idCs l
  | .vec _ _ => []

/-- The objects that ids lead to, and theirs. -/
def St.deep (s : St) : List Nat → List Nat
  | [] => []
  | id :: l => id :: ((match s.get id with | some x => x.o.ids | none => []) ++ s.deep l)

def El.idx : El → Nat
  | .u64 => 0 | .u32 => 1 | .u8 => 2 | .int => 3 | .bool => 4 | .fr => 5 | .row => 6 | .pair => 7 | .step => 8

def elTy (e : El) : List (Nat × El) → Option Nat
  | [] => none
  | (t, f) :: l => cond (Nat.beq e.idx f.idx) (some t) (elTy e l)

/-- What came back is taken in: each list is an object of its own. -/
def abC (pd : PD) (n : Nat) : C → Option (C × List (Nat × Ob) × Nat)
  | .ro e l => match elTy e pd.els with
    | some t => some (.row n, [(n, ⟨true, 0, t, .vec e l⟩)], n + 1)
    | none => none
  | .rop e l 0 0 => some (.sl n 0 l.length, [(n, ⟨false, 0, 0, .vec e l⟩)], n + 1)
  | .row _ | .sl _ _ _ | .ptr _ _ _ | .rop _ _ _ _ | .nilp | .dead => none
  | c => some (c, [], n)

def abCs (pd : PD) (n : Nat) : List C → Option (List C × List (Nat × Ob) × Nat)
  | [] => some ([], [], n)
  | c :: l => match abC pd n c with
    | some (d, o, m) => match abCs pd m l with
      | some (r, p, k) => some (d :: r, o ++ p, k)
      | none => none
    | none => none

def abU (pd : PD) (n : Nat) : U → Option (U × List (Nat × Ob) × Nat)
  | .c x => match abC pd n x with
    | some (y, o, m) => some (.c y, o, m)
    | none => none
  | .agg l => match abCs pd n l with
    | some (r, o, m) => some (.agg r, o, m)
    | none => none
  | .vec e l => some (.vec e l, [], n)
  | .box _ => none

def abUs (pd : PD) (n : Nat) : List U → Option (List U × List (Nat × Ob) × Nat)
  | [] => some ([], [], n)
  | c :: l => match abU pd n c with
    | some (d, o, m) => match abUs pd m l with
      | some (r, p, k) => some (d :: r, o ++ p, k)
      | none => none
    | none => none

def abV (pd : PD) (n : Nat) : V → Option (V × List (Nat × Ob) × Nat)
  | .u x => match abU pd n x with
    | some (y, o, m) => some (.u y, o, m)
    | none => none
  | .tup l => match abUs pd n l with
    | some (r, o, m) => some (.tup r, o, m)
    | none => none
  | .dead => some (.dead, [], n)

/-- A callee, as its caller takes it. -/
structure Sg where
  R : Type
  /-- What is handed over as its first argument: 0: nothing, 1: a list, 2: where an array is, 3: where a struct is. -/
  mode : Nat
  run : List U → Option R
  res : R → V

/-! ### Reading and writing objects -/

/-- Some elements from a place on, of a type that is an array of such. -/
def PD.arrOf (pd : PD) (t : TypeId) (e : El) : Option Nat :=
  match pd.arrLike t with
  | some (n, f) => cond (Nat.beq e.idx f.idx) (some n) none
  | none => none

/-- A part of a list of elements, as a value of a type; with what must hold. 'whole': how many there are, if that is known (else 0). -/
def readVec (pd : PD) (t : TypeId) (whole : Nat) (e : El) (l : List e.T) (i sub : Nat) : Option (Bool × U) :=
  match pd.ti t with
  | none => none
  | some ti =>
    match cond (Nat.beq sub 0) (pd.arrOf t e) none with
    | some n => cond (Nat.beq n whole && (Nat.beq i 0 && Nat.blt 0 n)) (some (true, .vec e l)) (some (leN (i + n) l.length, .vec e ((l.drop i).take n)))
    | none => cond (Nat.ble (sub + ti.size) e.size)
      (match pd.mkU t (((e.toC (l.getD i e.zero)).drop sub).take ti.size) with
        | some u => some (true, u)
        | none => none)
      none

def readOb (pd : PD) (t : TypeId) (x : Ob) (i sub : Nat) : Option (Bool × U) :=
  match x.o with
  | .lit l => match pd.ti t with
    | some ti => cond (Nat.beq i 0 && Nat.ble (sub + ti.size) l.length) (match pd.mkU t ((l.drop sub).take ti.size) with | some u => some (true, u) | none => none) none
    | none => none
  | .vec e l => readVec pd t x.n e l i sub

def splice {α : Type} (l : List α) (sub : Nat) (cs : List α) : List α := l.take sub ++ (cs ++ l.drop (sub + cs.length))

def setL {α : Type} : List α → Nat → α → List α
  | [], _, _ => []
  | _ :: l, 0, y => y :: l
  | x :: l, n + 1, y => x :: setL l n y

def writeOb (pd : PD) (t : TypeId) (x : Ob) (i sub : Nat) (u : U) : Option (Bool × O) :=
  match pd.ti t with
  | none => none
  | some ti => match x.o with
    | .lit l => cond (Nat.beq i 0 && (Nat.ble (sub + ti.size) l.length && Nat.beq u.cells.length ti.size)) (some (true, .lit (splice l sub u.cells))) none
    | .vec e l =>
      match cond (Nat.beq sub 0) (pd.arrOf t e) none with
      | some n => match u with
        | .vec f m => match castL f e m with
          | some m => cond (Nat.beq n x.n && (Nat.beq i 0 && Nat.blt 0 n)) (some (Nat.beq m.length n, .vec e m)) (some (leN (i + n) l.length && Nat.beq m.length n, .vec e (splice l i m)))
          | none => none
        | _ => none
      | none => cond (Nat.ble (sub + ti.size) e.size && Nat.beq u.cells.length ti.size)
        (match e.ofC (splice (e.toC (l.getD i e.zero)) sub u.cells) with
          | some y => some (true, .vec e (setL l i y))
          | none => none)
        none

/-- A new object of a type; with what must hold. -/
def PD.newOb (pd : PD) (t : TypeId) (u : U) : Option (Bool × Ob) :=
  match pd.ti t with
  | none => none
  | some ti => match pd.arrLike t with
    | some (n, e) => match u with
      | .vec f m => match castL f e m with
        | some m => some (Nat.blt t PIN && Nat.beq m.length n, ⟨false, n, t, .vec e m⟩)
        | none => none
      | _ => none
    | none => cond (Nat.blt t PIN && Nat.beq u.cells.length ti.size) (some (true, ⟨false, 0, t, .lit u.cells⟩)) none

/-- The zero value of a type. -/
def PD.zero (pd : PD) (t : TypeId) : Option U :=
  match pd.ti t with
  | none => none
  | some ti => pd.mkU t ti.zero

def PD.pos (pd : PD) (t : TypeId) : Bool := match pd.ti t with
  | some ti => Nat.blt 0 ti.size
  | none => false

/-! ### Are values alike? -/

def scalK : El → TK → Bool
  | .u64, .int _ | .u32, .int _ | .u8, .int _ | .int, .int _ | .bool, .bool => true
  | _, _ => false

def eq64 (x y : UInt64) : Bool := x == y
def eq32 (x y : UInt32) : Bool := x == y
def eq8 (x y : UInt8) : Bool := x == y
def eqBo (x y : Bool) : Bool := x == y

def eqE : (e : El) → e.T → e.T → Bool
  | .u64, x, y => eq64 x y
  | .u32, x, y => eq32 x y
  | .u8, x, y => eq8 x y
  | .int, x, y => eqI x y
  | .bool, x, y => eqBo x y
  | _, _, _ => false

def eqL (e : El) : List e.T → List e.T → Bool
  | [], [] => true
  | x :: l, y :: m => eqE e x y && eqL e l m
  | _, _ => false

def eqS : TK → C → C → Option Bool
  | .int _, .u64 x, .u64 y => some (x == y)
  | .int _, .u32 x, .u32 y => some (x == y)
  | .int _, .u8 x, .u8 y => some (x == y)
  | .int _, .int x, .int y => some (eqI x y)
  | .bool, .bool x, .bool y => some (x == y)
  | .str, .str x, .str y => some (eqB x y)
  | _, _, _ => none

def eqFs (pd : PD) (f : TypeId → List C → List C → Option Bool) (xs ys : List C) : List (Nat × TypeId) → Option Bool
  | [] => some true
  | (off, ft) :: fs => match pd.ti ft with
    | some fi => match f ft ((xs.drop off).take fi.size) ((ys.drop off).take fi.size) with
      | some r => match eqFs pd f xs ys fs with
        | some q => some (r && q)
        | none => none
      | none => none
    | none => none

def eqIs (f : List C → List C → Option Bool) (z : Nat) : Nat → List C → List C → Option Bool
  | 0, _, _ => some true
  | n + 1, xs, ys => match f (xs.take z) (ys.take z) with
    | some r => match eqIs f z n (xs.drop z) (ys.drop z) with
      | some q => some (r && q)
      | none => none
    | none => none

/-- Values of a type, by their cells. -/
def eqT (pd : PD) : Nat → TypeId → List C → List C → Option Bool
  | 0, _, _, _ => none
  | d + 1, t, xs, ys => match pd.ti t with
    | some ⟨.struct fs, _, _, _⟩ => eqFs pd (eqT pd d) xs ys fs
    | some ⟨.arr n e, _, _, _⟩ => match pd.ti e with
      | some ei => eqIs (eqT pd d e) ei.size n xs ys
      | none => none
    | some ti => match xs, ys with
      | [a], [b] => eqS ti.k a b
      | _, _ => none
    | none => none

/-- Arrays of scalars. -/
def eqV (pd : PD) (t : TypeId) (e : El) (l m : List e.T) : Option (Bool × Bool) :=
  match pd.ti t with
  | some ⟨.arr n et, _, _, _⟩ => match pd.ti et with
    | some ei => cond (scalK e ei.k) (some (Nat.beq l.length n && Nat.beq m.length n, eqL e l m)) none
    | none => none
  | _ => none

def eqA (pd : PD) (t : TypeId) (l m : List C) : Option Bool :=
  match pd.ti t with
  | some ti => cond (ti.k.agg && (Nat.beq l.length ti.size && Nat.beq m.length ti.size)) (eqT pd 9 t l m) none
  | none => none

def mxI (x y : Int) : Int := cond (ltI x y) y x
def mnI (x y : Int) : Int := cond (ltI y x) y x

def PD.elIs (pd : PD) (t : TypeId) (e : El) : Bool := match pd.el t with
  | some g => Nat.beq g.idx e.idx
  | none => false

def PD.slIs (pd : PD) (t : TypeId) (e : El) : Bool := match pd.ti t with
  | some ⟨.slice et, _, _, _⟩ => pd.elIs et e
  | _ => false

def O.isVec (pd : PD) (t : TypeId) : O → Bool
  | .vec e _ => pd.elIs t e
  | _ => false

def O.sz : O → Nat
  | .lit l => l.length
  | .vec e _ => e.size

def O.len : O → Nat
  | .lit _ => 1
  | .vec _ l => l.length

/-- Where an index leads. -/
def PD.idx (pd : PD) (t : TypeId) (s : St) (x : C) (n : Int) : Option (Bool × C) :=
  match x with
  | .ptr id i sub => match pd.ti t, s.get id with
    | some ⟨.arr m e, _, _, _⟩, some y => match pd.ti e with
      | some ei => cond (y.o.isVec pd e && (Nat.beq sub 0 && (Nat.beq i 0 && (Nat.ble m y.n && !y.row))))
          (some (leI 0 n && ltI n m, .ptr id n.toNat 0))
          (cond (Nat.ble (sub + m * ei.size) y.o.sz && Nat.blt 0 ei.size) (some (leI 0 n && ltI n m, .ptr id i (sub + n.toNat * ei.size))) none)
      | none => none
    | _, _ => none
  | .rop f l i sub => match pd.ti t with
    | some ⟨.arr m e, _, _, _⟩ => match pd.ti e with
      | some ei => cond (Nat.ble (sub + m * ei.size) f.size && Nat.blt 0 ei.size) (some (leI 0 n && ltI n m, .rop f l i (sub + n.toNat * ei.size))) none
      | none => none
    | _ => none
  | .row id => match s.get id with
    | some ⟨true, _, _, .vec e l⟩ => cond (pd.slIs t e) (some (leI 0 n && ltI n l.length, .ptr id n.toNat 0)) none
    | _ => none
  | .sl id i m => match s.get id with
    | some ⟨_, _, _, .vec e _⟩ => cond (pd.slIs t e) (some (leI 0 n && ltI n m, .ptr id (i + n.toNat) 0)) none
    | _ => none
  | .ro e l => cond (pd.slIs t e) (some (leI 0 n && ltI n l.length, .rop e l n.toNat 0)) none
  | _ => none

def bnds (lo hi : Option Int) (n : Int) : Bool := leI 0 (lo.getD 0) && (leI (lo.getD 0) (hi.getD n) && leI (hi.getD n) n)

/-- A part of a list or array. -/
def PD.part (pd : PD) (t : TypeId) (s : St) (x : C) (lo hi : Option Int) : Option (Bool × C) :=
  match x with
  | .row id => match s.get id with
    | some ⟨true, _, _, .vec e l⟩ => cond (pd.slIs t e) (some (bnds lo hi l.length, .sl id (lo.getD 0).toNat ((hi.getD l.length) - (lo.getD 0)).toNat)) none
    | _ => none
  | .sl id i m => match s.get id with
    | some ⟨_, _, _, .vec e _⟩ => cond (pd.slIs t e) (some (bnds lo hi m, .sl id (i + (lo.getD 0).toNat) ((hi.getD m) - (lo.getD 0)).toNat)) none
    | _ => none
  | .ro e l => cond (pd.slIs t e) (some (bnds lo hi l.length, .ro e ((l.drop (lo.getD 0).toNat).take ((hi.getD l.length) - (lo.getD 0)).toNat))) none
  | .ptr id 0 0 => match pd.ti t, s.get id with
    | some ⟨.arr m e, _, _, _⟩, some y => cond (y.o.isVec pd e && (Nat.beq y.n m && (Nat.ble m 4294967296 && !y.row))) (some (bnds lo hi m, .sl id (lo.getD 0).toNat ((hi.getD m) - (lo.getD 0)).toNat)) none
    | _, _ => none
  | _ => none

/-- A list's elements, as they stand. -/
def St.list (s : St) : C → Option ((e : El) × List e.T)
  | .row id => match s.get id with
    | some ⟨true, _, _, .vec e l⟩ => some ⟨e, l⟩
    | _ => none
  | .sl id i n => match s.get id with
    | some ⟨_, _, _, .vec e l⟩ => some ⟨e, (l.drop i).take n⟩
    | _ => none
  | .ro e l => some ⟨e, l⟩
  | .str l => some ⟨.u8, l⟩
  | _ => none

def lenC (s : St) : C → Option Int
  | .row id => match s.get id with
    | some ⟨true, _, _, .vec _ l⟩ => some l.length
    | _ => none
  | .sl _ _ n => some n
  | .ro _ l => some l.length
  | .str l => some l.length
  | _ => none

def V.bool? : V → Option Bool
  | .u (.c (.bool b)) => some b
  | _ => none

def V.c? : V → Option C
  | .u (.c x) => some x
  | _ => none

def V.int? : V → Option Int
  | .u (.c x) => x.isInt
  | _ => none

def optI (pd : PD) (s : St) : Option Operand → Option (Option Int)
  | none => some none
  | some x => match (pd.ev 3 s x).int? with
    | some n => some (some n)
    | none => none

/-- Cells into cells, part by part. -/
def fillC (l : List C) : List (Nat × List C) → List C
  | [] => l
  | (off, cs) :: r => fillC (splice l off cs) r

def partsOf (pd : PD) (s : St) (n : Nat) (place : Nat → Option (Nat × TypeId)) : List (Nat × Operand) → Option (List (Nat × List C))
  | [] => some []
  | (i, x) :: l => match place i with
    | none => none
    | some (off, t) => match pd.ti t, pd.ev t s x with
      | some ti, .u u => cond (Nat.beq u.cells.length ti.size && (u.solid && Nat.ble (off + ti.size) n)) (match partsOf pd s n place l with | some r => some ((off, u.cells) :: r) | none => none) none
      | _, _ => none

/-- Is a pointer none? -/
def nilEq (pd : PD) (t : TypeId) (op : BinOp) (a b : C) : Option C :=
  match b with
  | .nilp => match pd.ti t with
    | some ⟨.ptr _, _, _, _⟩ => match a, op with
      | .ptr _ _ _, .eql => some (.bool false)
      | .ptr _ _ _, .neq => some (.bool true)
      | .nilp, .eql => some (.bool true)
      | .nilp, .neq => some (.bool false)
      | _, _ => none
    | _ => none
  | _ => none

def binOk (pd : PD) (t : TypeId) (a b : C) : Bool :=
  match a, b with
  | .bool _, .bool _ => match pd.ti t with
    | some ⟨.bool, _, _, _⟩ => true
    | _ => false
  | _, _ => true

/-- One of few, as a number tells. -/
def pickN {R : Type} : Nat → Nat → Int → (Nat → Option R) → Option R
  | 0, _, _, _ => none
  | m + 1, i, j, k => cond (eqI j i) (k i) (pickN m (i + 1) j k)

/-- Is the place that an index leads to told apart for each index? -/
def PD.brn (pd : PD) (t : TypeId) (s : St) (c : C) : Option Nat :=
  match c with
  | .ptr id i sub => match pd.ti t, s.get id with
    | some ⟨.arr m e, _, _, _⟩, some y => cond (y.o.isVec pd e && (Nat.beq sub 0 && (Nat.beq i 0 && (Nat.ble m y.n && !y.row)))) none (some m)
    | _, _ => none
  | .rop _ _ _ _ => match pd.ti t with
    | some ⟨.arr m _, _, _, _⟩ => some m
    | _ => none
  | _ => none

def memN (n : Nat) : List Nat → Bool
  | [] => false
  | m :: l => cond (Nat.beq m n) true (memN n l)

def anyN (p : Nat → Bool) : List Nat → Bool
  | [] => false
  | m :: l => cond (p m) true (anyN p l)

section
variable {R : Type} (pd : PD) (env : Nat → Option Sg) (dr : Bool)

def val (o : Oper) (v : V) (rd : List Nat) (k : Eff → Option R) : Option R := k ⟨o.dst, v, [], [], [], rd⟩

def must (g : Bool) (x : Option R) : Option R := cond g x none

/-- The number of an operation's first new object. -/
def site (o : Oper) : Nat := match o.dst with | some d => 64 * (d + 1) | none => 0

def argIds : St → List Operand → List TypeId → List Nat
  | _, [], _ => []
  | s, x :: l, ts => (pd.ev (ts.headD 0) s x).ids ++ argIds s l ts.tail

/-- Is nothing there twice? -/
def noDup : List Nat → Bool
  | [] => true
  | n :: l => cond (memN n l) false (noDup l)

/-- A result: a list of one's own ('.ro'), or the first of such a list or array ('.rop'); with what must hold. -/
def rsC (s : St) : C → Option (Bool × C)
  | .row id => match s.get id with
    | some ⟨true, _, ty, .vec e l⟩ => match elTy e pd.els with
      | some t => cond (Nat.beq t ty) (some (true, .ro e l)) none
      | none => none
    | _ => none
  | .sl id 0 n => match s.get id with
    | some ⟨_, _, _, .vec e l⟩ => some (ltN 0 n, .rop e (l.take n) 0 0)
    | _ => none
  | .u64 x => some (true, .u64 x)
  | .u32 x => some (true, .u32 x)
  | .u8 x => some (true, .u8 x)
  | .int x => some (true, .int x)
  | .bool x => some (true, .bool x)
  | .str x => some (true, .str x)
  | _ => none

def rsCsK (s : St) : List C → (List C → Option R) → Option R
  | [], k => k []
  | c :: l, k => match rsC pd s c with
    | some (g, d) => must g (rsCsK s l fun r => k (d :: r))
    | none => none

/-- What is handed over: the object, the lists in it, its content. -/
def handK (s : St) (mode : Nat) (c : C) (k : Nat → List Nat → U → Option R) : Option R :=
  match c with
  | .row id => match s.get id with
    | some ⟨true, _, _, .vec e l⟩ => cond (Nat.beq mode 1) (must (ltN 0 l.length) (k id [] (.vec e l))) none
    | _ => none
  | .ptr id 0 0 => match s.get id with
    | some ⟨false, _, _, .vec e l⟩ => cond (Nat.beq mode 2) (must (ltN 0 l.length) (k id [] (.vec e l))) none
    | some ⟨false, _, _, .lit l⟩ => cond (Nat.beq mode 3) (cond (Nat.blt 0 l.length && noDup (id :: idCs l)) (rsCsK pd s l fun m => k id (idCs l) (.agg m)) none) none
    | _ => none
  | _ => none

/-- What comes back of it. -/
def backO (y : O) (u : U) : Option (Bool × O) :=
  match y, u with
  | .lit l, .agg m => some (Nat.beq m.length l.length, .lit m)
  | .vec e l, .vec f m => match castL f e m with
    | some m => some (Nat.beq m.length l.length, .vec e m)
    | none => none
  | _, _ => none

def tupV : List U → V
  | [] => .dead
  | [x] => .u x
  | l => .tup l

/-- The number of the first new object of a call that something is handed over to. -/
def siteIO (o : Oper) (id : Nat) (rows : List Nat) : Nat :=
  match o.dst with
  | some d => 64 * (d + 1)
  | none => cond (anyN (fun i => Nat.ble 2000000000000 i) rows) (1000000000000 + 64 * id) (2000000000000 + 64 * id)

def opCallIO (g : Sg) (args : List Operand) (ts : List TypeId) (o : Oper) (s : St) (k : Eff → Option R) : Option R :=
  match args with
  | x :: rest => match (pd.ev (ts.headD 0) s x).c? with
    | some c => handK pd s g.mode c fun id rows u0 => match reArgs pd (s.dels (id :: rows)) rest ts.tail with
      | some us => (g.run (u0 :: us)).bind fun r => match g.res r, s.get id with
        | .tup l, some y => match abUs pd (siteIO o id rows) l with
          | some (u3 :: rs, obs, n) => match backO y.o u3 with
            | some (gd, o') => must gd (k ⟨o.dst, tupV rs, obs ++ [(id, ⟨y.row, y.n, y.ty, o'⟩)], rows, List.range' (siteIO o id rows) (n - siteIO o id rows), id :: (rows ++ argIds pd s args ts)⟩)
            | none => none
          | _ => none
        | _, _ => none
      | none => none
    | none => none
  | [] => none

def opCall (f : Nat) (args : List Operand) (ts : List TypeId) (o : Oper) (s : St) (k : Eff → Option R) : Option R :=
  match env f with
  | some g => cond (Nat.beq g.mode 0) (match reArgs pd s args ts with
    | some us => (g.run us).bind fun r => match abV pd (site o) (g.res r) with
      | some (v, obs, n) => k ⟨o.dst, v, obs, [], List.range' (site o) (n - site o), argIds pd s args ts⟩
      | none => none
    | none => none) (opCallIO pd g args ts o s k)
  | none => none

def srcOk (et : TypeId) (k : TK) (c : C) : Bool :=
  match k, c with
  | .slice _, .str _ => false
  | .slice e, _ => Nat.beq e et
  | .str, .str _ => true
  | _, _ => false

def isStr : C → Bool
  | .str _ => true
  | _ => false

def opBuiltin (b : Builtin) (args : List Operand) (ts : List TypeId) (o : Oper) (s : St) (k : Eff → Option R) : Option R :=
  match b, args, ts with
  | .len, [x], [t] => match pd.ti t with
    | some ⟨.arr n _, _, _, _⟩ => val o (.u (.c (.int n))) [] k
    | some ⟨.slice _, _, _, _⟩ => match (pd.ev t s x).c? with
      | some c => cond (isStr c) none (match lenC s c with
        | some n => val o (.u (.c (.int n))) (idC c) k
        | none => none)
      | none => none
    | some ⟨.str, _, _, _⟩ => match (pd.ev t s x).c? with
      | some c => cond (isStr c) (match lenC s c with
        | some n => val o (.u (.c (.int n))) (idC c) k
        | none => none) none
      | none => none
    | _ => none
  | .max, [x, y], _ => match (pd.ev 3 s x).c?, (pd.ev 3 s y).c? with
    | some (.int a), some (.int b) => val o (.u (.c (.int (mxI a b)))) [] k
    | _, _ => none
  | .min, [x, y], _ => match (pd.ev 3 s x).c?, (pd.ev 3 s y).c? with
    | some (.int a), some (.int b) => val o (.u (.c (.int (mnI a b)))) [] k
    | _, _ => none
  | .min, [x, y, z], _ => match (pd.ev 3 s x).c?, (pd.ev 3 s y).c?, (pd.ev 3 s z).c? with
    | some (.int a), some (.int b), some (.int c) => val o (.u (.c (.int (mnI (mnI a b) c)))) [] k
    | _, _, _ => none
  | .append, [x, y], [t, u] => match pd.ti t, pd.ti u with
    | some ⟨.slice et, _, _, _⟩, some tu => match pd.ti et, (pd.ev t s x).c?, (pd.ev u s y).c? with
      | some ei, some (.row id), some c => match s.get id, s.list c with
        | some ⟨true, m, ty, .vec e l⟩, some ⟨f, l2⟩ => match castL f e l2 with
          | some l2 => cond (Nat.beq ty et && (pd.elIs et e && (Nat.blt 0 ei.bytes && srcOk et tu.k c)))
              (must (leN ((l.length + l2.length) * ei.bytes) 140737488355328) (k ⟨o.dst, .u (.c (.row (site o))), [(site o, ⟨true, m, ty, .vec e (l ++ l2)⟩)], [id], [site o], id :: idC c⟩)) none
          | none => none
        | _, _ => none
      | _, _, _ => none
    | _, _ => none
  | .copy, [x, y], [t, u] => match pd.ti t, pd.ti u with
    | some ⟨.slice et, _, _, _⟩, some tu => match (pd.ev t s x).c?, (pd.ev u s y).c? with
      | some (.sl id i n), some c => match s.get id, s.list c with
        | some ⟨rw, m, ty, .vec e l⟩, some ⟨f, l2⟩ => match castL f e l2 with
          | some l2 => cond (pd.elIs et e && srcOk et tu.k c) (k ⟨o.dst, .u (.c (.int (min l2.length n : Nat))), [(id, ⟨rw, m, ty, .vec e (splice l i (l2.take n))⟩)], [], [], id :: idC c⟩) none
          | none => none
        | _, _ => none
      | some (.row id), some c => match s.get id, s.list c with
        | some ⟨true, m, ty, .vec e l⟩, some ⟨f, l2⟩ => match castL f e l2 with
          | some l2 => cond (pd.elIs et e && srcOk et tu.k c) (k ⟨o.dst, .u (.c (.int (min l2.length l.length : Nat))), [(id, ⟨true, m, ty, .vec e (splice l 0 (l2.take l.length))⟩)], [], [], id :: idC c⟩) none
          | none => none
        | _, _ => none
      | _, _ => none
    | _, _ => none
  | _, _, _ => none

/-- Is this the nil slice, handed over where a list of one's own is wanted? -/
def nilRow (t : TypeId) (x : Operand) : Option (El × TypeId) :=
  match x with
  | .const (.slice none 0 0) => match pd.ti t with
    | some ⟨.slice et, _, _, _⟩ => match pd.el et with
      | some e => some (e, et)
      | none => none
    | _ => none
  | _ => none

def opK1 (o : Oper) (s : St) (k : Eff → Option R) : Option R :=
  match o.op with
  | .move x | .assign x => match nilRow pd o.type x with
    | some (e, et) => k ⟨o.dst, .u (.c (.row (site o))), [(site o, ⟨true, 0, et, .vec e []⟩)], [], [site o], []⟩
    | none => val o (pd.ev o.type s x) [] k
  | .pick c a b => match (pd.ev 4 s c).bool? with
    | some t => cond t (val o (pd.ev o.type s a) [] k) (val o (pd.ev o.type s b) [] k)
    | none => none
  | .alloc t => match cond (pd.pos t) (pd.zero t) none with
    | some u => match abU pd (site o + 1) u with
      | some (u', obs, n) => match pd.newOb t u' with
        | some (g, x) => must g (k ⟨o.dst, .u (.c (.ptr (site o) 0 0)), obs ++ [(site o, x)], [], List.range' (site o) (n - site o), []⟩)
        | none => none
      | none => none
    | none => none
  | .box t x => match pd.ev t s x with
    | .u u => match cond (u.solid && pd.pos t) (pd.newOb t u) none with
      | some (g, x) => must g (k ⟨o.dst, .u (.c (.ptr (site o) 0 0)), [(site o, x)], [], [site o], []⟩)
      | none => none
    | _ => none
  | .load t a => match (pd.ev 0 s a).c? with
    | some (.ptr id i sub) => match s.get id with
      | some x => match readOb pd t x i sub with
        | some (g, u) => must g (val o (.u u) [id] k)
        | none => none
      | none => none
    | some (.rop e l i sub) => match readVec pd t 0 e l i sub with
      | some (g, u) => must g (val o (.u u) [] k)
      | none => none
    | _ => none
  | .store t a x => match (pd.ev 0 s a).c?, pd.ev t s x with
    | some (.ptr id i sub), .u u => match s.get id with
      | some y => match cond u.solid (writeOb pd t y i sub u) none with
        | some (g, o') => must g (k ⟨o.dst, .dead, [(id, ⟨y.row, y.n, y.ty, o'⟩)], [], [], [id]⟩)
        | none => none
      | none => none
    | _, _ => none
  | .nilCheck x => match pd.ev o.type s x with
    | .u (.c (.ptr id i sub)) => val o (.u (.c (.ptr id i sub))) [] k
    | .u (.c (.rop e l i sub)) => val o (.u (.c (.rop e l i sub))) [] k
    | _ => none
  | .binOp op t x y t' => match pd.ev t s x, pd.ev t' s y with
    | .u (.c a), .u (.c b) => match op with
      | .quo => match a, b with
        | .int a, .int b => must (!eqI b 0) (val o (.u (.c (.int (wr (a.tdiv b))))) [] k)
        | .u64 a, .u64 b => must (!(b == 0)) (val o (.u (.c (.u64 (a / b)))) [] k)
        | .u8 a, .u8 b => must (!(b == 0)) (val o (.u (.c (.u8 (a / b)))) [] k)
        | _, _ => none
      | .rem => match a, b with
        | .int a, .int b => must (!eqI b 0) (val o (.u (.c (.int (a.tmod b)))) [] k)
        | .u64 a, .u64 b => must (!(b == 0)) (val o (.u (.c (.u64 (a % b)))) [] k)
        | .u8 a, .u8 b => must (!(b == 0)) (val o (.u (.c (.u8 (a % b)))) [] k)
        | _, _ => none
      | .shl => match b with
        | .int n => must (leI 0 n) (match binC .shl a (.u64 (UInt64.ofNat n.toNat)) with | some c => must (ltI n 18446744073709551616) (val o (.u (.c c)) [] k) | none => none)
        | b => match binC .shl a b with | some c => val o (.u (.c c)) [] k | none => none
      | .shr => match b with
        | .int n => must (leI 0 n) (match binC .shr a (.u64 (UInt64.ofNat n.toNat)) with | some c => must (ltI n 18446744073709551616) (val o (.u (.c c)) [] k) | none => none)
        | b => match binC .shr a b with | some c => val o (.u (.c c)) [] k | none => none
      | op => match nilEq pd t op a b with
        | some c => val o (.u (.c c)) [] k
        | none => cond (binOk pd t a b) (match binC op a b with | some c => val o (.u (.c c)) [] k | none => none) none
    | .u (.vec e l), .u (.vec f m) => match castL f e m with
      | some m => match eqV pd t e l m with
        | some (g, b) => match op with
          | .eql => must g (val o (.u (.c (.bool b))) [] k)
          | .neq => must g (val o (.u (.c (.bool (!b)))) [] k)
          | _ => none
        | none => none
      | none => none
    | .u (.agg l), .u (.agg m) => match eqA pd t l m with
      | some b => match op with
        | .eql => val o (.u (.c (.bool b))) [] k
        | .neq => val o (.u (.c (.bool (!b)))) [] k
        | _ => none
      | none => none
    | _, _ => none
  | .unOp op t x => match op, (pd.ev t s x).c? with
    | .not, some (.bool b) => val o (.u (.c (.bool (!b)))) [] k
    | .xor, some (.u64 a) => val o (.u (.c (.u64 (~~~a)))) [] k
    | .xor, some (.u32 a) => val o (.u (.c (.u32 (~~~a)))) [] k
    | .neg, some (.int a) => val o (.u (.c (.int (wr (0 - a))))) [] k
    | .neg, some (.u64 a) => val o (.u (.c (.u64 (0 - a)))) [] k
    | _, _ => none
  | .convert src dst x => match pd.ti src, pd.ti dst, (pd.ev src s x).c? with
    | some _, some ⟨.int kd, _, _, _⟩, some c => match convC kd c with
      | some d => val o (.u (.c d)) [] k
      | none => none
    | some ⟨.slice et, _, _, _⟩, some ⟨.str, _, _, _⟩, some c => match pd.ti et with
      | some ⟨.int .u8, _, _, _⟩ => match s.list c with
        | some ⟨.u8, l⟩ => cond (isStr c) none (val o (.u (.c (.str l))) (idC c) k)
        | _ => none
      | _ => none
    | _, _, _ => none
  | .sliceToArrayPointer t x => match pd.ti t, (pd.ev 0 s x).c? with
    | some ⟨.arr n _, _, _, _⟩, some c => match c with
      | .row id => match s.get id with
        | some ⟨true, _, _, .vec _ l⟩ => cond (Nat.blt 0 n) (must (leI n l.length) (val o (.u (.c (.ptr id 0 0))) [id] k)) none
        | _ => none
      | .sl id i m => match s.get id with
        | some ⟨_, _, _, .vec _ _⟩ => cond (Nat.blt 0 n) (must (leI n m) (val o (.u (.c (.ptr id i 0))) [id] k)) none
        | _ => none
      | .ro e l => cond (Nat.blt 0 n) (must (leI n l.length) (val o (.u (.c (.rop e l 0 0))) [] k)) none
      | _ => none
    | _, _ => none
  | .makeSlice t n m => match pd.ti t, (pd.ev 3 s n).c?, (pd.ev 3 s m).c? with
    | some ⟨.slice et, _, _, _⟩, some (.int n), some (.int m) => match pd.ti et, pd.el et with
      | some ei, some e => must (leI 0 n && (eqI n m && (Nat.blt 0 ei.bytes && leN (n.toNat * ei.bytes) 140737488355328)))
          (k ⟨o.dst, .u (.c (.row (site o))), [(site o, ⟨true, 0, et, .vec e (List.replicate n.toNat e.zero)⟩)], [], [site o], []⟩)
      | _, _ => none
    | _, _, _ => none
  | .slice t x lo hi none => match (pd.ev t s x).c?, optI pd s lo, optI pd s hi with
    | some c, some l, some h => match pd.part t s c l h with
      | some (g, d) => must g (val o (.u (.c d)) (idC c) k)
      | none => none
    | _, _, _ => none
  | .fieldAddr t x f => match pd.ti t, (pd.ev 0 s x).c? with
    | some ⟨.struct fs, _, _, _⟩, some c => match fs[f]? with
      | some (off, ft) => match pd.ti ft with
        | some fi => match c with
          | .ptr id i sub => match s.get id with
            | some y => cond (Nat.blt 0 fi.size && Nat.blt (sub + off) y.o.sz) (val o (.u (.c (.ptr id i (sub + off)))) [id] k) none
            | none => none
          | .rop e l i sub => cond (Nat.blt 0 fi.size && Nat.blt (sub + off) e.size) (val o (.u (.c (.rop e l i (sub + off)))) [] k) none
          | _ => none
        | none => none
      | none => none
    | _, _ => none
  | .field t x f => match pd.ti t, pd.ev t s x with
    | some ⟨.struct fs, _, _, _⟩, .u (.agg l) => match fs[f]? with
      | some (off, ft) => match pd.ti ft with
        | some fi => match pd.mkU ft ((l.drop off).take fi.size) with
          | some u => cond (Nat.ble (off + fi.size) l.length) (val o (.u u) [] k) none
          | none => none
        | none => none
      | none => none
    | _, _ => none
  | .indexAddr t x i => match (pd.ev t s x).c?, (pd.ev 3 s i).int? with
    | some c, some n => match pd.brn t s c with
      | some m => pickN m 0 n fun j => match pd.idx t s c j with
        | some (g, d) => must g (val o (.u (.c d)) (idC c) k)
        | none => none
      | none => match pd.idx t s c n with
        | some (g, d) => must g (val o (.u (.c d)) (idC c) k)
        | none => none
    | _, _ => none
  | .index t x i => match pd.ti t, pd.ev t s x, (pd.ev 3 s i).int? with
    | some ⟨.arr n et, _, _, _⟩, .u (.vec e l), some j => match cond (pd.elIs et e) (pd.mkU et (e.toC (l.getD j.toNat e.zero))) none with
      | some u => must (leI 0 j && (ltI j n && ltI j l.length)) (val o (.u u) [] k)
      | none => none
    | some ⟨.arr n et, _, _, _⟩, .u (.agg l), some j => match pd.ti et with
      | some ei => cond (Nat.ble (n * ei.size) l.length) (pickN n 0 j fun c => match pd.mkU et ((l.drop (c * ei.size)).take ei.size) with
        | some u => val o (.u u) [] k
        | none => none) none
      | none => none
    | some ⟨.str, _, _, _⟩, .u (.c (.str l)), some j => must (leI 0 j && ltI j l.length) (val o (.u (.c (.u8 (l.getD j.toNat 0)))) [] k)
    | _, _, _ => none
  | .build t parts => match pd.ti t with
    | some ⟨.struct fs, sz, _, z⟩ => match abCs pd (site o) z with
      | some (z', obs, n) => match partsOf pd s sz (fun i => fs[i]?) parts.toList with
        | some ps => match pd.mkU t (fillC z' ps) with
          | some u => k ⟨o.dst, .u u, obs, [], List.range' (site o) (n - site o), []⟩
          | none => none
        | none => none
      | none => none
    | some ⟨.arr _ et, sz, _, z⟩ => match pd.ti et with
      | some ei => match abCs pd (site o) z with
        | some (z', obs, n) => match partsOf pd s sz (fun i => some (i * ei.size, et)) parts.toList with
          | some ps => match pd.mkU t (fillC z' ps) with
            | some u => k ⟨o.dst, .u u, obs, [], List.range' (site o) (n - site o), []⟩
            | none => none
          | none => none
        | none => none
      | none => none
    | _ => none
  | .buildSlice t n parts => match pd.ti t with
    | some ⟨.slice et, _, _, _⟩ => match pd.ti et, pd.el et with
      | some ei, some e => match partsOf pd s (n * ei.size) (fun i => some (i * ei.size, et)) parts.toList with
        | some ps => match chunks e n (fillC (flat e (List.replicate n e.zero)) ps) with
          | some l => cond (Nat.ble (n * ei.size) 4096) (k ⟨o.dst, .u (.c (.row (site o))), [(site o, ⟨true, 0, et, .vec e l⟩)], [], [site o], []⟩) none
          | none => none
        | none => none
      | _, _ => none
    | _ => none
  | .extract x i => match pd.ev 0 s x with
    | .tup l => match l[i]? with
      | some u => val o (.u u) [] k
      | none => none
    | _ => none
  | .call ⟨.builtin b, args, ts⟩ => opBuiltin pd b args.toList ts.toList o s k
  | .call ⟨.value (.func f), args, ts⟩ => opCall pd env f args.toList ts.toList o s k
  | _ => none

def opK (o : Oper) (s : St) (k : Eff → Option R) : Option R :=
  match o.op with
  | .binOp _ _ _ _ _ => opK1 pd env o s fun f => k f.hide
  | .unOp _ _ _ => opK1 pd env o s fun f => k f.hide
  | .convert _ _ _ => opK1 pd env o s fun f => k f.hide
  | _ => opK1 pd env o s k

theorem opK_eq (o : Oper) (s : St) (k : Eff → Option R) : opK pd env o s k = opK1 pd env o s k := by
  unfold opK
  split <;> simp only [Eff.hide_eq]

end
end Go.Proofs.Ytgimohchocjgcaa.V
