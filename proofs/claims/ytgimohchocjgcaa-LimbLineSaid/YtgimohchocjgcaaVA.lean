/- The evaluator of this work: abstract values, abstract memory, one operation after the other. It is a plain Lean function; what it tells of the model is proved in the next texts. -/
import Derived.Calls
namespace Go.Proofs.Ytgimohchocjgcaa.V

/-! ### Typed content -/

structure Fr where
  (a0 a1 a2 a3 : UInt64)
deriving DecidableEq

structure Row where
  (q0 q1 q2 q3 q4 q5 q6 q7 : Fr) (w0 w1 w2 : Int)
deriving DecidableEq

structure Pr where
  (x y : Int)
deriving DecidableEq

structure Stp where
  (kind v0 v1 v2 : Int) (q0 q1 q2 q3 q4 : Fr)
deriving DecidableEq

inductive El where
  | u64 | u32 | u8 | int | bool | fr | row | pair | step
deriving DecidableEq

def El.T : El → Type
  | .u64 => UInt64
  | .u32 => UInt32
  | .u8 => UInt8
  | .int => Int
  | .bool => Bool
  | .fr => Fr
  | .row => Row
  | .pair => Pr
  | .step => Stp

/-- A cell. -/
inductive C where
  | u64 (x : UInt64)
  | u32 (x : UInt32)
  | u8 (x : UInt8)
  | int (n : Int)
  | bool (b : Bool)
  | str (l : List UInt8)
  | ro (e : El) (l : List e.T)
  | rop (e : El) (l : List e.T) (i sub : Nat)
  | row (id : Nat)
  | sl (id i n : Nat)
  | ptr (id i sub : Nat)
  | nilp
  | dead

def El.size : El → Nat
  | .u64 | .u32 | .u8 | .int | .bool => 1
  | .fr => 4
  | .row => 35
  | .pair => 2
  | .step => 24

def Fr.c (x : Fr) : List C := [.u64 x.a0, .u64 x.a1, .u64 x.a2, .u64 x.a3]

def El.toC : (e : El) → e.T → List C
  | .u64, x => [.u64 x]
  | .u32, x => [.u32 x]
  | .u8, x => [.u8 x]
  | .int, x => [.int x]
  | .bool, x => [.bool x]
  | .fr, x => Fr.c x
  | .row, x => Fr.c x.q0 ++ (Fr.c x.q1 ++ (Fr.c x.q2 ++ (Fr.c x.q3 ++ (Fr.c x.q4 ++ (Fr.c x.q5 ++ (Fr.c x.q6 ++ (Fr.c x.q7 ++ [.int x.w0, .int x.w1, .int x.w2])))))))
  | .pair, x => [.int x.x, .int x.y]
  | .step, x => [.int x.kind, .int x.v0, .int x.v1, .int x.v2] ++ (Fr.c x.q0 ++ (Fr.c x.q1 ++ (Fr.c x.q2 ++ (Fr.c x.q3 ++ Fr.c x.q4))))

def Fr.zero : Fr := ⟨0, 0, 0, 0⟩

def El.zero : (e : El) → e.T
  | .u64 => (0 : UInt64)
  | .u32 => (0 : UInt32)
  | .u8 => (0 : UInt8)
  | .int => (0 : Int)
  | .bool => false
  | .fr => Fr.zero
  | .row => ⟨.zero, .zero, .zero, .zero, .zero, .zero, .zero, .zero, 0, 0, 0⟩
  | .pair => ⟨0, 0⟩
  | .step => ⟨0, 0, 0, 0, .zero, .zero, .zero, .zero, .zero⟩

/-- A scalar out of four cells, and what is left. -/
def pFr {α : Type} (k : Fr → List C → Option α) : List C → Option α
  | .u64 a :: .u64 b :: .u64 c :: .u64 d :: l => k ⟨a, b, c, d⟩ l
  | _ => none

def pInt {α : Type} (k : Int → List C → Option α) : List C → Option α
  | .int a :: l => k a l
  | _ => none

def pEnd {α : Type} (x : α) : List C → Option α
  | [] => some x
  | _ => none

def El.ofC : (e : El) → List C → Option e.T
  | .u64, l => match l with | [.u64 x] => some x | _ => none
  | .u32, l => match l with | [.u32 x] => some x | _ => none
  | .u8, l => match l with | [.u8 x] => some x | _ => none
  | .int, l => match l with | [.int x] => some x | _ => none
  | .bool, l => match l with | [.bool x] => some x | _ => none
  | .fr, l => pFr (fun x => pEnd x) l
  | .row, l => pFr (fun q0 => pFr fun q1 => pFr fun q2 => pFr fun q3 => pFr fun q4 => pFr fun q5 => pFr fun q6 => pFr fun q7 => pInt fun w0 => pInt fun w1 => pInt fun w2 =>
      pEnd (⟨q0, q1, q2, q3, q4, q5, q6, q7, w0, w1, w2⟩ : Row)) l
  | .pair, l => pInt (fun x => pInt fun y => pEnd (⟨x, y⟩ : Pr)) l
  | .step, l => pInt (fun kd => pInt fun v0 => pInt fun v1 => pInt fun v2 => pFr fun q0 => pFr fun q1 => pFr fun q2 => pFr fun q3 => pFr fun q4 =>
      pEnd (⟨kd, v0, v1, v2, q0, q1, q2, q3, q4⟩ : Stp)) l

/-- Cells of many, one behind the other. -/
def flat (e : El) : List e.T → List C
  | [] => []
  | x :: l => e.toC x ++ flat e l

/-- Many out of cells. -/
def chunks (e : El) : Nat → List C → Option (List e.T)
  | 0, [] => some []
  | 0, _ :: _ => none
  | n + 1, l => match e.ofC (l.take e.size) with
    | some x => match chunks e n (l.drop e.size) with
      | some r => some (x :: r)
      | none => none
    | none => none

/-! ### Values, objects, states -/

inductive U where
  | c (x : C)
  | agg (l : List C)
  | vec (e : El) (l : List e.T)
  | box (l : List C)

inductive V where
  | u (x : U)
  | tup (l : List U)
  | dead

inductive O where
  | lit (l : List C)
  | vec (e : El) (l : List e.T)

/-- 'n': of an array, how many elements there are. -/
structure Ob where
  row : Bool
  n : Nat
  ty : TypeId
  o : O

structure St where
  tm : List V
  ob : List (Nat × Ob)

/-- Lists of one kind of element are lists of another, if it is the same kind. -/
def castL : (f e : El) → List f.T → Option (List e.T)
  | .u64, .u64, l => some l
  | .u32, .u32, l => some l
  | .u8, .u8, l => some l
  | .int, .int, l => some l
  | .bool, .bool, l => some l
  | .fr, .fr, l => some l
  | .row, .row, l => some l
  | .pair, .pair, l => some l
  | .step, .step, l => some l
  | _, _, _ => none

def O.cells : O → List C
  | .lit l => l
  | .vec e l => flat e l

def U.cells : U → List C
  | .c x => [x]
  | .agg l => l
  | .vec e l => flat e l
  | .box _ => []

/-! ### What a program's types are -/

inductive TK where
  | int (k : IntKind)
  | bool
  | str
  | slice (e : TypeId)
  | arr (n : Nat) (e : TypeId)
  | struct (fs : List (Nat × TypeId))
  | ptr (e : TypeId)

def TK.agg : TK → Bool
  | .arr _ _ => true
  | .struct _ => true
  | _ => false

structure TI where
  k : TK
  size : Nat
  bytes : Nat
  /-- Its zero value's cells; a nil slice: '.ro e []'. -/
  zero : List C

structure PD where
  tys : List (Nat × TI)
  els : List (Nat × El)

def look.{u} {α : Type u} (n : Nat) : List (Nat × α) → Option α
  | [] => none
  | (m, x) :: l => cond (Nat.beq m n) (some x) (look n l)

def PD.ti (pd : PD) (t : TypeId) : Option TI := look t pd.tys
def PD.el (pd : PD) (t : TypeId) : Option El := look t pd.els

/-- Arrays of elements; structs of one such array as that array. -/
def PD.arrLike (pd : PD) (t : TypeId) : Option (Nat × El) :=
  match pd.ti t with
  | some ⟨.arr n e, _, _, _⟩ => match pd.el e with
    | some el => some (n, el)
    | none => none
  | some ⟨.struct [(0, u)], _, _, _⟩ => match pd.ti u with
    | some ⟨.arr n e, _, _, _⟩ => match pd.el e with
      | some el => some (n, el)
      | none => none
    | _ => none
  | _ => none

/-- A value of a type, of its cells. -/
def PD.mkU (pd : PD) (t : TypeId) (cs : List C) : Option U :=
  match pd.arrLike t with
  | some (n, e) => match chunks e n cs with
    | some l => some (.vec e l)
    | none => none
  | none => match pd.ti t with
    | some ⟨.struct _, _, _, _⟩ => some (.agg cs)
    | some ⟨.arr _ _, _, _, _⟩ => some (.agg cs)
    | some _ => match cs with
      | [c] => some (.c c)
      | _ => none
    | none => none

/-! ### Literal values -/

def inRange (n : Int) (m : Nat) : Bool := match n with | .ofNat k => Nat.blt k m | .negSucc _ => false

def ofCell (v : Value) (z : C) : C :=
  match v with
  | .int .u64 n => cond (inRange n 18446744073709551616) (.u64 (UInt64.ofNat n.toNat)) .dead
  | .int .u32 n => cond (inRange n 4294967296) (.u32 (UInt32.ofNat n.toNat)) .dead
  | .int .u8 n => cond (inRange n 256) (.u8 (UInt8.ofNat n.toNat)) .dead
  | .int .i64 n => .int n
  | .bool b => .bool b
  | .string s => .str s.data.toList
  | .pointer none => .nilp
  | .slice none n c => match z with
    | .ro e [] => cond (Nat.beq n 0 && Nat.beq c 0) (.ro e []) .dead
    | _ => .dead
  | _ => .dead

def ofCells : List Value → List C → List C
  | v :: l, z :: zs => ofCell v z :: ofCells l zs
  | _, _ => []

def PD.ofVal (pd : PD) (t : TypeId) (v : Value) : V :=
  match pd.ti t with
  | none => match v with
    | .int k n => .u (.c (ofCell (.int k n) .dead))
    | .bool b => .u (.c (.bool b))
    | _ => .dead
  | some ti => match v with
    | .agg cs => cond (ti.k.agg && Nat.beq cs.toList.length ti.zero.length) (match pd.mkU t (ofCells cs.toList ti.zero) with | some u => .u u | none => .dead) .dead
    | v => match ti.zero with
      | [z] => .u (.c (ofCell v z))
      | _ => .dead

def PD.ev (pd : PD) (t : TypeId) (s : St) : Operand → V
  | .tmp i => s.tm.getD i .dead
  | .const v => pd.ofVal t v
  | _ => .dead

/-! ### Objects -/

def St.get (s : St) (id : Nat) : Option Ob := look id s.ob

def putOb (id : Nat) (x : Ob) : List (Nat × Ob) → List (Nat × Ob)
  | [] => [(id, x)]
  | (m, y) :: l => cond (Nat.beq m id) ((id, x) :: l) ((m, y) :: putOb id x l)

def delOb (id : Nat) : List (Nat × Ob) → List (Nat × Ob)
  | [] => []
  | (m, y) :: l => cond (Nat.beq m id) (delOb id l) ((m, y) :: delOb id l)

def C.men (id : Nat) : C → Bool
  | .row j => Nat.beq j id
  | .sl j _ _ => Nat.beq j id
  | .ptr j _ _ => Nat.beq j id
  | _ => false

def anyC (p : C → Bool) : List C → Bool
  | [] => false
  | c :: l => cond (p c) true (anyC p l)

def U.men (id : Nat) : U → Bool
  | .c x => x.men id
  | .agg l => anyC (C.men id) l
  | .vec _ _ => false
  | .box l => anyC (C.men id) l

def anyU (p : U → Bool) : List U → Bool
  | [] => false
  | c :: l => cond (p c) true (anyU p l)

def V.men (id : Nat) : V → Bool
  | .u x => x.men id
  | .tup l => anyU (U.men id) l
  | .dead => false

def O.men (id : Nat) : O → Bool
  | .lit l => anyC (C.men id) l
  | .vec _ _ => false

/-- Whatever speaks of an object is forgotten. -/
def killV (id : Nat) : List V → List V
  | [] => []
  | v :: l => cond (v.men id) .dead v :: killV id l

def killC (id : Nat) : List C → List C
  | [] => []
  | c :: l => cond (c.men id) .dead c :: killC id l

def killO (id : Nat) : O → O
  | .lit l => .lit (killC id l)
  | o => o

def killObs (id : Nat) : List (Nat × Ob) → List (Nat × Ob)
  | [] => []
  | (m, y) :: l => (m, ⟨y.row, y.n, y.ty, killO id y.o⟩) :: killObs id l

def St.kill (s : St) (id : Nat) : St := ⟨killV id s.tm, killObs id (delOb id s.ob)⟩

def St.kills (s : St) : List Nat → St
  | [] => s
  | id :: l => (s.kill id).kills l

def setV : List V → Nat → V → List V
  | [], _, _ => []
  | _ :: l, 0, v => v :: l
  | x :: l, n + 1, v => x :: setV l n v

/-- What an operation does. -/
structure Eff where
  dst : Option Nat
  v : V
  put : List (Nat × Ob)
  del : List Nat
  new : List Nat
  rd : List Nat

def C.solid : C → Bool
  | .dead => false
  | _ => true

def solidCs : List C → Bool
  | [] => true
  | c :: l => cond c.solid (solidCs l) false

/-- Nothing in it was forgotten. -/
def U.solid : U → Bool
  | .c x => x.solid
  | .agg l => solidCs l
  | .vec _ _ => true
  | .box _ => false

def St.puts (s : St) : List (Nat × Ob) → St
  | [] => s
  | (id, x) :: l => St.puts ⟨s.tm, putOb id x s.ob⟩ l

def St.dels (s : St) : List Nat → St
  | [] => s
  | id :: l => St.dels ⟨s.tm, delOb id s.ob⟩ l

def Eff.app (f : Eff) (s : St) : St :=
  let s1 := (s.dels f.del).puts f.put
  match f.dst with
  | some d => ⟨setV s1.tm d f.v, s1.ob⟩
  | none => s1

/-! ### Values that the kernel does not look into -/

theorem hidden : Acc (fun _ _ : Unit => False) () := Classical.choice ⟨⟨_, fun _ h => h.elim⟩⟩

/-- A value; what it is shows no evaluation, but 'hide_eq' tells. -/
def hide {α : Type} (x : α) : α := Acc.casesOn (motive := fun _ _ => α) hidden fun _ _ => x

theorem hide_eq {α : Type} (x : α) : hide x = x := by
  have : ∀ (u : Unit) (h : Acc (fun _ _ : Unit => False) u), Acc.casesOn (motive := fun _ _ => α) h (fun _ _ => x) = x := fun u h => by cases h; rfl
  exact this () hidden

def hideC : C → C
  | .u64 x => .u64 (hide x)
  | .u32 x => .u32 (hide x)
  | .u8 x => .u8 (hide x)
  | .int x => .int (hide x)
  | .bool x => .bool (hide x)
  | c => c

theorem hideC_eq (c : C) : hideC c = c := by cases c <;> simp only [hideC, hide_eq]

def hideV : V → V
  | .u (.c x) => .u (.c (hideC x))
  | v => v

theorem hideV_eq (v : V) : hideV v = v := by
  unfold hideV
  split
  · rw [hideC_eq]
  · rfl

def Eff.hide (f : Eff) : Eff := ⟨f.dst, hideV f.v, f.put, f.del, f.new, f.rd⟩

theorem Eff.hide_eq (f : Eff) : f.hide = f := by simp only [Eff.hide, hideV_eq]

/-! ### Arithmetic -/

def shl64 (x : UInt64) (n : Nat) : UInt64 := UInt64.ofNat (x.toNat * 2 ^ n)
def shr64 (x : UInt64) (n : Nat) : UInt64 := UInt64.ofNat (x.toNat / 2 ^ n)
def shl32 (x : UInt32) (n : Nat) : UInt32 := UInt32.ofNat (x.toNat * 2 ^ n)
def shr32 (x : UInt32) (n : Nat) : UInt32 := UInt32.ofNat (x.toNat / 2 ^ n)
def shl8 (x : UInt8) (n : Nat) : UInt8 := UInt8.ofNat (x.toNat * 2 ^ n)
def shr8 (x : UInt8) (n : Nat) : UInt8 := UInt8.ofNat (x.toNat / 2 ^ n)
def wr (n : Int) : Int := IntKind.i64.wrap n
def shlI (x : Int) (n : Nat) : Int := wr (x * 2 ^ n)
def shrI (x : Int) (n : Nat) : Int := x.fdiv (2 ^ min n 64)
def bitI (op : BinOp) (x y : Int) : Int :=
  match op with
  | .and => wr (BitVec.ofInt 64 x &&& BitVec.ofInt 64 y).toNat
  | .or => wr (BitVec.ofInt 64 x ||| BitVec.ofInt 64 y).toNat
  | .xor => wr (BitVec.ofInt 64 x ^^^ BitVec.ofInt 64 y).toNat
  | _ => 0
def u64I (n : Int) : UInt64 := UInt64.ofNat (n % 18446744073709551616).toNat
def u32I (n : Int) : UInt32 := UInt32.ofNat (n % 4294967296).toNat
def u8I (n : Int) : UInt8 := UInt8.ofNat (n % 256).toNat

def ltN (a b : Nat) : Bool := decide (a < b)
def leN (a b : Nat) : Bool := decide (a ≤ b)
def ltI (a b : Int) : Bool := decide (a < b)
def leI (a b : Int) : Bool := decide (a ≤ b)
def eqI (a b : Int) : Bool := decide (a = b)

/-- Bytes alike? -/
def eqB : List UInt8 → List UInt8 → Bool := fun a b => decide (a = b)

def binC (op : BinOp) (a b : C) : Option C :=
  match a, b with
  | .u64 x, .u64 y => match op with
    | .add => some (.u64 (x + y))
    | .sub => some (.u64 (x - y))
    | .mul => some (.u64 (x * y))
    | .and => some (.u64 (x &&& y))
    | .or => some (.u64 (x ||| y))
    | .xor => some (.u64 (x ^^^ y))
    | .shl => some (.u64 (shl64 x y.toNat))
    | .shr => some (.u64 (shr64 x y.toNat))
    | .eql => some (.bool (x == y))
    | .neq => some (.bool (!(x == y)))
    | .lss => some (.bool (ltN x.toNat y.toNat))
    | .leq => some (.bool (leN x.toNat y.toNat))
    | .gtr => some (.bool (ltN y.toNat x.toNat))
    | .geq => some (.bool (leN y.toNat x.toNat))
    | _ => none
  | .u32 x, .u32 y => match op with
    | .add => some (.u32 (x + y))
    | .sub => some (.u32 (x - y))
    | .mul => some (.u32 (x * y))
    | .and => some (.u32 (x &&& y))
    | .or => some (.u32 (x ||| y))
    | .xor => some (.u32 (x ^^^ y))
    | .eql => some (.bool (x == y))
    | .neq => some (.bool (!(x == y)))
    | .lss => some (.bool (ltN x.toNat y.toNat))
    | .leq => some (.bool (leN x.toNat y.toNat))
    | .gtr => some (.bool (ltN y.toNat x.toNat))
    | .geq => some (.bool (leN y.toNat x.toNat))
    | _ => none
  | .u8 x, .u8 y => match op with
    | .add => some (.u8 (x + y))
    | .sub => some (.u8 (x - y))
    | .mul => some (.u8 (x * y))
    | .and => some (.u8 (x &&& y))
    | .or => some (.u8 (x ||| y))
    | .xor => some (.u8 (x ^^^ y))
    | .eql => some (.bool (x == y))
    | .neq => some (.bool (!(x == y)))
    | .lss => some (.bool (ltN x.toNat y.toNat))
    | .leq => some (.bool (leN x.toNat y.toNat))
    | .gtr => some (.bool (ltN y.toNat x.toNat))
    | .geq => some (.bool (leN y.toNat x.toNat))
    | _ => none
  | .int x, .int y => match op with
    | .add => some (.int (wr (x + y)))
    | .sub => some (.int (wr (x - y)))
    | .mul => some (.int (wr (x * y)))
    | .and => some (.int (bitI .and x y))
    | .or => some (.int (bitI .or x y))
    | .xor => some (.int (bitI .xor x y))
    | .eql => some (.bool (eqI x y))
    | .neq => some (.bool (!eqI x y))
    | .lss => some (.bool (ltI x y))
    | .leq => some (.bool (leI x y))
    | .gtr => some (.bool (ltI y x))
    | .geq => some (.bool (leI y x))
    | _ => none
  | .bool x, .bool y => match op with
    | .eql => some (.bool (x == y))
    | .neq => some (.bool (!(x == y)))
    | _ => none
  | .str x, .str y => match op with
    | .eql => some (.bool (eqB x y))
    | .neq => some (.bool (!eqB x y))
    | _ => none
  | .u32 x, .u64 y => match op with
    | .shl => some (.u32 (shl32 x y.toNat))
    | .shr => some (.u32 (shr32 x y.toNat))
    | _ => none
  | .u8 x, .u64 y => match op with
    | .shl => some (.u8 (shl8 x y.toNat))
    | .shr => some (.u8 (shr8 x y.toNat))
    | _ => none
  | .int x, .u64 y => match op with
    | .shl => some (.int (shlI x y.toNat))
    | .shr => some (.int (shrI x y.toNat))
    | _ => none
  | _, _ => none

def C.isInt : C → Option Int
  | .int n => some n
  | .u64 x => some x.toNat
  | .u32 x => some x.toNat
  | .u8 x => some x.toNat
  | _ => none

def convC (k : IntKind) (c : C) : Option C :=
  match k, c with
  | .u64, .u64 x => some (.u64 x)
  | .u64, .u32 x => some (.u64 (UInt64.ofNat x.toNat))
  | .u64, .u8 x => some (.u64 (UInt64.ofNat x.toNat))
  | .u64, .int n => some (.u64 (u64I n))
  | .u32, .u64 x => some (.u32 (UInt32.ofNat x.toNat))
  | .u32, .u32 x => some (.u32 x)
  | .u32, .u8 x => some (.u32 (UInt32.ofNat x.toNat))
  | .u32, .int n => some (.u32 (u32I n))
  | .u8, .u64 x => some (.u8 (UInt8.ofNat x.toNat))
  | .u8, .u32 x => some (.u8 (UInt8.ofNat x.toNat))
  | .u8, .u8 x => some (.u8 x)
  | .u8, .int n => some (.u8 (u8I n))
  | .i64, .u64 x => some (.int (wr x.toNat))
  | .i64, .u32 x => some (.int x.toNat)
  | .i64, .u8 x => some (.int x.toNat)
  | .i64, .int n => some (.int (wr n))
  | _, _ => none

end Go.Proofs.Ytgimohchocjgcaa.V
