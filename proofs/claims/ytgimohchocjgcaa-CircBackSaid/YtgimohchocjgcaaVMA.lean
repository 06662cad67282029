import Derived.Calls
namespace Go.Proofs.Ytgimohchocjgcaa.V
theorem oi1 {A : Type _} {a b : A} : (some a = some b) = (a = b) := Option.some.injEq a b
theorem pi1 {A : Type _} {B : Type _} {a c : A} {b d : B} : ((a, b) = (c, d)) = (a = c /\ b = d) := Prod.mk.injEq a b c d
section
structure Fr where
  (a0 a1 a2 a3 : UInt64)
deriving DecidableEq
structure Row where
  (q0 q1 q2 q3 q4 q5 q6 q7 : Fr) (w0 w1 w2 : Int)
deriving DecidableEq
structure Pr where
  (x y : Int)
deriving DecidableEq
structure Stp where
  (kind v0 v1 v2 : Int) (q0 q1 q2 q3 q4 : Fr)
deriving DecidableEq
structure Tn where
  (ask : Bool) (tag : UInt8) (b : List UInt8)
deriving DecidableEq
inductive El where
  | u64 | u32 | u8 | int | bool | fr | row | pair | step
deriving DecidableEq
def El.T : El -> Type
  | .u64 => UInt64
  | .u32 => UInt32
  | .u8 => UInt8
  | .int => Int
  | .bool => Bool
  | .fr => Fr
  | .row => Row
  | .pair => Pr
  | .step => Stp
inductive C where
  | u64 (x : UInt64)
  | u32 (x : UInt32)
  | u8 (x : UInt8)
  | int (n : Int)
  | bool (b : Bool)
  | str (l : List UInt8)
  | ro (e : El) (l : List e.T)
  | rop (e : El) (l : List e.T) (i sub : Nat)
  | row (id : Nat)
  | sl (id i n : Nat)
  | slc (id i n c : Nat)
  | ptr (id i sub : Nat)
  | nilp
  | len (n : Nat)
  | asl (id off : Nat) (e : El) (n : Nat)
  | rt (l : List Tn)
  | rtp (l : List Tn) (i sub : Nat)
  | dead
def El.size : El -> Nat
  | .u64 | .u32 | .u8 | .int | .bool => 1
  | .fr => 4
  | .row => 35
  | .pair => 2
  | .step => 24
def Fr.c (x : Fr) : List C := [.u64 x.a0, .u64 x.a1, .u64 x.a2, .u64 x.a3]
def El.toC : (e : El) -> e.T -> List C
  | .u64, x => [.u64 x]
  | .u32, x => [.u32 x]
  | .u8, x => [.u8 x]
  | .int, x => [.int x]
  | .bool, x => [.bool x]
  | .fr, x => Fr.c x
  | .row, x => Fr.c x.q0 ++ (Fr.c x.q1 ++ (Fr.c x.q2 ++ (Fr.c x.q3 ++ (Fr.c x.q4 ++ (Fr.c x.q5 ++ (Fr.c x.q6 ++ (Fr.c x.q7 ++ [.int x.w0, .int x.w1, .int x.w2])))))))
  | .pair, x => [.int x.x, .int x.y]
  | .step, x => [.int x.kind, .int x.v0, .int x.v1, .int x.v2] ++ (Fr.c x.q0 ++ (Fr.c x.q1 ++ (Fr.c x.q2 ++ (Fr.c x.q3 ++ Fr.c x.q4))))
def Tn.c (x : Tn) : List C := [.bool x.ask, .u8 x.tag, .ro .u8 x.b]
def Tn.zero : Tn := ⟨false, 0, []⟩
def zc7 : List Tn -> List C
  | [] => []
  | x :: l => x.c ++ zc7 l
def Fr.zero : Fr := ⟨0, 0, 0, 0⟩
def El.zero : (e : El) -> e.T
  | .u64 => (0 : UInt64)
  | .u32 => (0 : UInt32)
  | .u8 => (0 : UInt8)
  | .int => (0 : Int)
  | .bool => false
  | .fr => Fr.zero
  | .row => ⟨.zero, .zero, .zero, .zero, .zero, .zero, .zero, .zero, 0, 0, 0⟩
  | .pair => ⟨0, 0⟩
  | .step => ⟨0, 0, 0, 0, .zero, .zero, .zero, .zero, .zero⟩
def pFr {α : Type} (k : Fr -> List C -> Option α) : List C -> Option α
  | .u64 a :: .u64 b :: .u64 c :: .u64 d :: l => k ⟨a, b, c, d⟩ l
  | _ => none
def pInt {α : Type} (k : Int -> List C -> Option α) : List C -> Option α
  | .int a :: l => k a l
  | _ => none
def pEnd {α : Type} (x : α) : List C -> Option α
  | [] => some x
  | _ => none
def El.ofC : (e : El) -> List C -> Option e.T
  | .u64, l => match l with | [.u64 x] => some x | _ => none
  | .u32, l => match l with | [.u32 x] => some x | _ => none
  | .u8, l => match l with | [.u8 x] => some x | _ => none
  | .int, l => match l with | [.int x] => some x | _ => none
  | .bool, l => match l with | [.bool x] => some x | _ => none
  | .fr, l => pFr (fun x => pEnd x) l
  | .row, l => pFr (fun q0 => pFr fun q1 => pFr fun q2 => pFr fun q3 => pFr fun q4 => pFr fun q5 => pFr fun q6 => pFr fun q7 => pInt fun w0 => pInt fun w1 => pInt fun w2 =>
      pEnd (⟨q0, q1, q2, q3, q4, q5, q6, q7, w0, w1, w2⟩ : Row)) l
  | .pair, l => pInt (fun x => pInt fun y => pEnd (⟨x, y⟩ : Pr)) l
  | .step, l => pInt (fun kd => pInt fun v0 => pInt fun v1 => pInt fun v2 => pFr fun q0 => pFr fun q1 => pFr fun q2 => pFr fun q3 => pFr fun q4 =>
      pEnd (⟨kd, v0, v1, v2, q0, q1, q2, q3, q4⟩ : Stp)) l
def flat (e : El) : List e.T -> List C
  | [] => []
  | x :: l => e.toC x ++ flat e l
def zd1 (e : El) : Nat -> List C -> Option (List e.T)
  | 0, [] => some []
  | 0, _ :: _ => none
  | n + 1, l => match e.ofC (l.take e.size) with
    | some x => match zd1 e n (l.drop e.size) with
      | some r => some (x :: r)
      | none => none
    | none => none
inductive U where
  | c (x : C)
  | agg (l : List C)
  | vec (e : El) (l : List e.T)
  | box (l : List C)
inductive V where
  | u (x : U)
  | tup (l : List U)
  | dead
inductive O where
  | lit (l : List C)
  | vec (e : El) (l : List e.T)
structure Ob where
  row : Bool
  n : Nat
  ty : TypeId
  o : O
structure St where
  tm : List V
  ob : List (Nat × Ob)
def zbK : (f e : El) -> List f.T -> Option (List e.T)
  | .u64, .u64, l => some l
  | .u32, .u32, l => some l
  | .u8, .u8, l => some l
  | .int, .int, l => some l
  | .bool, .bool, l => some l
  | .fr, .fr, l => some l
  | .row, .row, l => some l
  | .pair, .pair, l => some l
  | .step, .step, l => some l
  | _, _, _ => none
def O.cells : O -> List C
  | .lit l => l
  | .vec e l => flat e l
def U.cells : U -> List C
  | .c x => [x]
  | .agg l => l
  | .vec e l => flat e l
  | .box _ => []
inductive TK where
  | int (k : IntKind)
  | bool
  | str
  | slice (e : TypeId)
  | arr (n : Nat) (e : TypeId)
  | struct (fs : List (Nat × TypeId))
  | ptr (e : TypeId)
def TK.agg : TK -> Bool
  | .arr _ _ => true
  | .struct _ => true
  | _ => false
structure TI where
  k : TK
  size : Nat
  bytes : Nat
  zero : List C
structure PD where
  tys : List (Nat × TI)
  els : List (Nat × El)
def look.{u} {α : Type u} (n : Nat) : List (Nat × α) -> Option α
  | [] => none
  | (m, x) :: l => cond (Nat.beq m n) (some x) (look n l)
def PD.ti (pd : PD) (t : TypeId) : Option TI := look t pd.tys
def PD.el (pd : PD) (t : TypeId) : Option El := look t pd.els
def PD.arrLike (pd : PD) (t : TypeId) : Option (Nat × El) :=
  match pd.ti t with
  | some ⟨.arr n e, _, _, _⟩ => match pd.el e with
    | some el => some (n, el)
    | none => none
  | some ⟨.struct [(0, u)], _, _, _⟩ => match pd.ti u with
    | some ⟨.arr n e, _, _, _⟩ => match pd.el e with
      | some el => some (n, el)
      | none => none
    | _ => none
  | _ => none
def PD.mkU (pd : PD) (t : TypeId) (cs : List C) : Option U :=
  match pd.arrLike t with
  | some (n, e) => match zd1 e n cs with
    | some l => some (.vec e l)
    | none => none
  | none => match pd.ti t with
    | some ⟨.struct _, _, _, _⟩ => some (.agg cs)
    | some ⟨.arr _ _, _, _, _⟩ => some (.agg cs)
    | some _ => match cs with
      | [c] => some (.c c)
      | _ => none
    | none => none
def zbA (n : Int) (m : Nat) : Bool := match n with | .ofNat k => Nat.blt k m | .negSucc _ => false
def zgp (v : Value) (z : C) : C :=
  match v with
  | .int .u64 n => cond (zbA n 18446744073709551616) (.u64 (UInt64.ofNat n.toNat)) .dead
  | .int .u32 n => cond (zbA n 4294967296) (.u32 (UInt32.ofNat n.toNat)) .dead
  | .int .u8 n => cond (zbA n 256) (.u8 (UInt8.ofNat n.toNat)) .dead
  | .int .i64 n => .int n
  | .bool b => .bool b
  | .string s => .str s.data.toList
  | .pointer none => .nilp
  | .slice none n c => match z with
    | .ro e [] => cond (Nat.beq n 0 && Nat.beq c 0) (.ro e []) .dead
    | _ => .dead
  | _ => .dead
def zfb : List Value -> List C -> List C
  | v :: l, z :: zs => zgp v z :: zfb l zs
  | _, _ => []
def PD.ofVal (pd : PD) (t : TypeId) (v : Value) : V :=
  match pd.ti t with
  | none => match v with
    | .int k n => .u (.c (zgp (.int k n) .dead))
    | .bool b => .u (.c (.bool b))
    | _ => .dead
  | some ti => match v with
    | .agg cs => cond (ti.k.agg && Nat.beq cs.toList.length ti.zero.length) (match pd.mkU t (zfb cs.toList ti.zero) with | some u => .u u | none => .dead) .dead
    | v => match ti.zero with
      | [z] => .u (.c (zgp v z))
      | _ => .dead
def PD.ev (pd : PD) (t : TypeId) (s : St) : Operand -> V
  | .tmp i => s.tm.getD i .dead
  | .const v => pd.ofVal t v
  | _ => .dead
def St.get (s : St) (id : Nat) : Option Ob := look id s.ob
def za5 (id : Nat) (x : Ob) : List (Nat × Ob) -> List (Nat × Ob)
  | [] => [(id, x)]
  | (m, y) :: l => cond (Nat.beq m id) ((id, x) :: l) ((m, y) :: za5 id x l)
def zbL (id : Nat) : List (Nat × Ob) -> List (Nat × Ob)
  | [] => []
  | (m, y) :: l => cond (Nat.beq m id) (zbL id l) ((m, y) :: zbL id l)
def C.men (id : Nat) : C -> Bool
  | .row j => Nat.beq j id
  | .sl j _ _ => Nat.beq j id
  | .slc j _ _ _ => Nat.beq j id
  | .ptr j _ _ => Nat.beq j id
  | .asl j _ _ _ => Nat.beq j id
  | _ => false
def anyC (p : C -> Bool) : List C -> Bool
  | [] => false
  | c :: l => cond (p c) true (anyC p l)
def U.men (id : Nat) : U -> Bool
  | .c x => x.men id
  | .agg l => anyC (C.men id) l
  | .vec _ _ => false
  | .box l => anyC (C.men id) l
def anyU (p : U -> Bool) : List U -> Bool
  | [] => false
  | c :: l => cond (p c) true (anyU p l)
def V.men (id : Nat) : V -> Bool
  | .u x => x.men id
  | .tup l => anyU (U.men id) l
  | .dead => false
def O.men (id : Nat) : O -> Bool
  | .lit l => anyC (C.men id) l
  | .vec _ _ => false
def zls (id : Nat) : List V -> List V
  | [] => []
  | v :: l => cond (v.men id) .dead v :: zls id l
def zpj (id : Nat) : List C -> List C
  | [] => []
  | c :: l => cond (c.men id) .dead c :: zpj id l
def zpk (id : Nat) : O -> O
  | .lit l => .lit (zpj id l)
  | o => o
def ziZ (id : Nat) : List (Nat × Ob) -> List (Nat × Ob)
  | [] => []
  | (m, y) :: l => (m, ⟨y.row, y.n, y.ty, zpk id y.o⟩) :: ziZ id l
def St.kill (s : St) (id : Nat) : St := ⟨zls id s.tm, ziZ id (zbL id s.ob)⟩
def St.kills (s : St) : List Nat -> St
  | [] => s
  | id :: l => (s.kill id).kills l
def setV : List V -> Nat -> V -> List V
  | [], _, _ => []
  | _ :: l, 0, v => v :: l
  | x :: l, n + 1, v => x :: setV l n v
structure Eff where
  dst : Option Nat
  v : V
  put : List (Nat × Ob)
  del : List Nat
  new : List Nat
  rd : List Nat
def C.solid : C -> Bool
  | .dead => false
  | _ => true
def zbB : List C -> Bool
  | [] => true
  | c :: l => cond c.solid (zbB l) false
def U.solid : U -> Bool
  | .c x => x.solid
  | .agg l => zbB l
  | .vec _ _ => true
  | .box _ => false
def St.puts (s : St) : List (Nat × Ob) -> St
  | [] => s
  | (id, x) :: l => St.puts ⟨s.tm, za5 id x s.ob⟩ l
def St.dels (s : St) : List Nat -> St
  | [] => s
  | id :: l => St.dels ⟨s.tm, zbL id s.ob⟩ l
def Eff.app (f : Eff) (s : St) : St :=
  let s1 := (s.dels f.del).puts f.put
  match f.dst with
  | some d => ⟨setV s1.tm d f.v, s1.ob⟩
  | none => s1
theorem zvn : Acc (fun _ _ : Unit => False) () := Classical.choice ⟨⟨_, fun _ h => h.elim⟩⟩
def hide {α : Type} (x : α) : α := Acc.casesOn (motive := fun _ _ => α) zvn fun _ _ => x
theorem hide_eq {α : Type} (x : α) : hide x = x := by
  have : ∀ (u : Unit) (h : Acc (fun _ _ : Unit => False) u), Acc.casesOn (motive := fun _ _ => α) h (fun _ _ => x) = x := fun u h => by cases h; rfl
  exact this () zvn
def zv7 : C -> C
  | .u64 x => .u64 (hide x)
  | .u32 x => .u32 (hide x)
  | .u8 x => .u8 (hide x)
  | .int x => .int (hide x)
  | .bool x => .bool (hide x)
  | c => c
theorem zs8 (c : C) : zv7 c = c := by cases c <;> simp only [zv7, hide_eq]
def zv8 : V -> V
  | .u (.c x) => .u (.c (zv7 x))
  | v => v
theorem zs9 (v : V) : zv8 v = v := by
  unfold zv8
  split
  . rw [zs8]
  . rfl
def Eff.hide (f : Eff) : Eff := ⟨f.dst, zv8 f.v, f.put, f.del, f.new, f.rd⟩
theorem Eff.hide_eq (f : Eff) : f.hide = f := by simp only [Eff.hide, zs9]
def zf9 (x : UInt64) (n : Nat) : UInt64 := UInt64.ofNat (x.toNat * 2 ^ n)
def za6 (x : UInt64) (n : Nat) : UInt64 := UInt64.ofNat (x.toNat / 2 ^ n)
def zv9 (x : UInt32) (n : Nat) : UInt32 := UInt32.ofNat (x.toNat * 2 ^ n)
def zwa (x : UInt32) (n : Nat) : UInt32 := UInt32.ofNat (x.toNat / 2 ^ n)
def shl8 (x : UInt8) (n : Nat) : UInt8 := UInt8.ofNat (x.toNat * 2 ^ n)
def shr8 (x : UInt8) (n : Nat) : UInt8 := UInt8.ofNat (x.toNat / 2 ^ n)
def wr (n : Int) : Int := IntKind.i64.wrap n
def shlI (x : Int) (n : Nat) : Int := wr (x * 2 ^ n)
def shrI (x : Int) (n : Nat) : Int := x.fdiv (2 ^ min n 64)
def bitI (op : BinOp) (x y : Int) : Int :=
  match op with
  | .and => wr (BitVec.ofInt 64 x &&& BitVec.ofInt 64 y).toNat
  | .or => wr (BitVec.ofInt 64 x ||| BitVec.ofInt 64 y).toNat
  | .xor => wr (BitVec.ofInt 64 x ^^^ BitVec.ofInt 64 y).toNat
  | _ => 0
def u64I (n : Int) : UInt64 := UInt64.ofNat (n % 18446744073709551616).toNat
def u32I (n : Int) : UInt32 := UInt32.ofNat (n % 4294967296).toNat
def u8I (n : Int) : UInt8 := UInt8.ofNat (n % 256).toNat
def ltN (a b : Nat) : Bool := decide (a < b)
def leN (a b : Nat) : Bool := decide (a <= b)
def ltI (a b : Int) : Bool := decide (a < b)
def leI (a b : Int) : Bool := decide (a <= b)
def eqI (a b : Int) : Bool := decide (a = b)
def eqB : List UInt8 -> List UInt8 -> Bool := fun a b => decide (a = b)
def binC (op : BinOp) (a b : C) : Option C :=
  match a, b with
  | .u64 x, .u64 y => match op with
    | .add => some (.u64 (x + y))
    | .sub => some (.u64 (x - y))
    | .mul => some (.u64 (x * y))
    | .and => some (.u64 (x &&& y))
    | .or => some (.u64 (x ||| y))
    | .xor => some (.u64 (x ^^^ y))
    | .shl => some (.u64 (zf9 x y.toNat))
    | .shr => some (.u64 (za6 x y.toNat))
    | .eql => some (.bool (x == y))
    | .neq => some (.bool (!(x == y)))
    | .lss => some (.bool (ltN x.toNat y.toNat))
    | .leq => some (.bool (leN x.toNat y.toNat))
    | .gtr => some (.bool (ltN y.toNat x.toNat))
    | .geq => some (.bool (leN y.toNat x.toNat))
    | _ => none
  | .u32 x, .u32 y => match op with
    | .add => some (.u32 (x + y))
    | .sub => some (.u32 (x - y))
    | .mul => some (.u32 (x * y))
    | .and => some (.u32 (x &&& y))
    | .or => some (.u32 (x ||| y))
    | .xor => some (.u32 (x ^^^ y))
    | .eql => some (.bool (x == y))
    | .neq => some (.bool (!(x == y)))
    | .lss => some (.bool (ltN x.toNat y.toNat))
    | .leq => some (.bool (leN x.toNat y.toNat))
    | .gtr => some (.bool (ltN y.toNat x.toNat))
    | .geq => some (.bool (leN y.toNat x.toNat))
    | _ => none
  | .u8 x, .u8 y => match op with
    | .add => some (.u8 (x + y))
    | .sub => some (.u8 (x - y))
    | .mul => some (.u8 (x * y))
    | .and => some (.u8 (x &&& y))
    | .or => some (.u8 (x ||| y))
    | .xor => some (.u8 (x ^^^ y))
    | .eql => some (.bool (x == y))
    | .neq => some (.bool (!(x == y)))
    | .lss => some (.bool (ltN x.toNat y.toNat))
    | .leq => some (.bool (leN x.toNat y.toNat))
    | .gtr => some (.bool (ltN y.toNat x.toNat))
    | .geq => some (.bool (leN y.toNat x.toNat))
    | _ => none
  | .int x, .int y => match op with
    | .add => some (.int (wr (x + y)))
    | .sub => some (.int (wr (x - y)))
    | .mul => some (.int (wr (x * y)))
    | .and => some (.int (bitI .and x y))
    | .or => some (.int (bitI .or x y))
    | .xor => some (.int (bitI .xor x y))
    | .eql => some (.bool (eqI x y))
    | .neq => some (.bool (!eqI x y))
    | .lss => some (.bool (ltI x y))
    | .leq => some (.bool (leI x y))
    | .gtr => some (.bool (ltI y x))
    | .geq => some (.bool (leI y x))
    | _ => none
  | .bool x, .bool y => match op with
    | .eql => some (.bool (x == y))
    | .neq => some (.bool (!(x == y)))
    | _ => none
  | .str x, .str y => match op with
    | .eql => some (.bool (eqB x y))
    | .neq => some (.bool (!eqB x y))
    | _ => none
  | .u32 x, .u64 y => match op with
    | .shl => some (.u32 (zv9 x y.toNat))
    | .shr => some (.u32 (zwa x y.toNat))
    | _ => none
  | .u8 x, .u64 y => match op with
    | .shl => some (.u8 (shl8 x y.toNat))
    | .shr => some (.u8 (shr8 x y.toNat))
    | _ => none
  | .int x, .u64 y => match op with
    | .shl => some (.int (shlI x y.toNat))
    | .shr => some (.int (shrI x y.toNat))
    | _ => none
  | _, _ => none
def C.isInt : C -> Option Int
  | .int n => some n
  | .u64 x => some x.toNat
  | .u32 x => some x.toNat
  | .u8 x => some x.toNat
  | _ => none
def zta (k : IntKind) (c : C) : Option C :=
  match k, c with
  | .u64, .u64 x => some (.u64 x)
  | .u64, .u32 x => some (.u64 (UInt64.ofNat x.toNat))
  | .u64, .u8 x => some (.u64 (UInt64.ofNat x.toNat))
  | .u64, .int n => some (.u64 (u64I n))
  | .u32, .u64 x => some (.u32 (UInt32.ofNat x.toNat))
  | .u32, .u32 x => some (.u32 x)
  | .u32, .u8 x => some (.u32 (UInt32.ofNat x.toNat))
  | .u32, .int n => some (.u32 (u32I n))
  | .u8, .u64 x => some (.u8 (UInt8.ofNat x.toNat))
  | .u8, .u32 x => some (.u8 (UInt8.ofNat x.toNat))
  | .u8, .u8 x => some (.u8 x)
  | .u8, .int n => some (.u8 (u8I n))
  | .i64, .u64 x => some (.int (wr x.toNat))
  | .i64, .u32 x => some (.int x.toNat)
  | .i64, .u8 x => some (.int x.toNat)
  | .i64, .int n => some (.int (wr n))
  | _, _ => none
end
section
def PIN : Nat := 1000000
def reC (s : St) : C -> Option C
  | .row id => match s.get id with
    | some ⟨true, _, _, .vec e l⟩ => some (.ro e l)
    | _ => none
  | .sl id i n => match s.get id with
    | some ⟨_, _, _, .vec e l⟩ => some (.ro e ((l.drop i).take n))
    | _ => none
  | .slc id i n _ => match s.get id with
    | some ⟨_, _, _, .vec e l⟩ => some (.ro e ((l.drop i).take n))
    | _ => none
  | .ro e l => some (.ro e l)
  | .rt l => some (.rt l)
  | .u64 x => some (.u64 x)
  | .u32 x => some (.u32 x)
  | .u8 x => some (.u8 x)
  | .int x => some (.int x)
  | .bool x => some (.bool x)
  | .str x => some (.str x)
  | .nilp => some .nilp
  | _ => none
def reCs (s : St) : List C -> Option (List C)
  | [] => some []
  | c :: l => match reC s c with
    | some d => match reCs s l with
      | some r => some (d :: r)
      | none => none
    | none => none
def reU (s : St) : U -> Option U
  | .c x => match reC s x with
    | some y => some (.c y)
    | none => none
  | .agg l => match reCs s l with
    | some r => some (.agg r)
    | none => none
  | .vec e l => some (.vec e l)
  | .box _ => none
def zb2 (pd : PD) (s : St) : List Operand -> List TypeId -> Option (List U)
  | [], _ => some []
  | x :: l, ts => match pd.ev (ts.headD 0) s x with
    | .u u => match reU s u with
      | some y => match zb2 pd s l ts.tail with
        | some r => some (y :: r)
        | none => none
      | none => none
    | _ => none
def idC : C -> List Nat
  | .row id => [id]
  | .sl id _ _ => [id]
  | .slc id _ _ _ => [id]
  | .ptr id _ _ => [id]
  | .asl id _ _ _ => [id]
  | _ => []
def idCs : List C -> List Nat
  | [] => []
  | c :: l => idC c ++ idCs l
def U.ids : U -> List Nat
  | .c x => idC x
  | .agg l => idCs l
  | .vec _ _ => []
  | .box _ => []
def idUs : List U -> List Nat
  | [] => []
  | u :: l => u.ids ++ idUs l
def V.ids : V -> List Nat
  | .u x => x.ids
  | .tup l => idUs l
  | .dead => []
def O.ids : O -> List Nat
  | .lit l => idCs l
  | .vec _ _ => []
def St.deep (s : St) : List Nat -> List Nat
  | [] => []
  | id :: l => id :: ((match s.get id with | some x => x.o.ids | none => []) ++ s.deep l)
def El.idx : El -> Nat
  | .u64 => 0 | .u32 => 1 | .u8 => 2 | .int => 3 | .bool => 4 | .fr => 5 | .row => 6 | .pair => 7 | .step => 8
def elTy (e : El) : List (Nat × El) -> Option Nat
  | [] => none
  | (t, f) :: l => cond (Nat.beq e.idx f.idx) (some t) (elTy e l)
def abC (pd : PD) (n : Nat) : C -> Option (C × List (Nat × Ob) × Nat)
  | .ro e l => match elTy e pd.els with
    | some t => some (.row n, [(n, ⟨true, 0, t, .vec e l⟩)], n + 1)
    | none => none
  | .rop e l 0 0 => some (.sl n 0 l.length, [(n, ⟨false, 0, 0, .vec e l⟩)], n + 1)
  | .rop e l 1 m => some (.slc n 0 m l.length, [(n, ⟨false, 0, 0, .vec e l⟩)], n + 1)
  | .row _ | .sl _ _ _ | .slc _ _ _ _ | .ptr _ _ _ | .rop _ _ _ _ | .asl _ _ _ _ | .rt _ | .rtp _ _ _ | .nilp | .dead => none
  | c => some (c, [], n)
def abCs (pd : PD) (n : Nat) : List C -> Option (List C × List (Nat × Ob) × Nat)
  | [] => some ([], [], n)
  | c :: l => match abC pd n c with
    | some (d, o, m) => match abCs pd m l with
      | some (r, p, k) => some (d :: r, o ++ p, k)
      | none => none
    | none => none
def abU (pd : PD) (n : Nat) : U -> Option (U × List (Nat × Ob) × Nat)
  | .c x => match abC pd n x with
    | some (y, o, m) => some (.c y, o, m)
    | none => none
  | .agg l => match abCs pd n l with
    | some (r, o, m) => some (.agg r, o, m)
    | none => none
  | .vec e l => some (.vec e l, [], n)
  | .box _ => none
def abUs (pd : PD) (n : Nat) : List U -> Option (List U × List (Nat × Ob) × Nat)
  | [] => some ([], [], n)
  | c :: l => match abU pd n c with
    | some (d, o, m) => match abUs pd m l with
      | some (r, p, k) => some (d :: r, o ++ p, k)
      | none => none
    | none => none
def abP (pd : PD) (n : Nat) (m : List C) : U -> Option (V × List (Nat × Ob) × Nat)
  | .agg l => match abCs pd (n + 1) l with
    | some (ds, o, k) => some (.u (.c (.ptr n 0 0)), (n, ⟨false, 0, 0, .lit (List.replicate l.length .dead)⟩) :: (o ++ [(n, ⟨false, 0, 0, .lit ds⟩)]), k)
    | none => none
  | .vec e l => match m with
    | [.len j] => some (.u (.c (.ptr n 0 0)), [(n, ⟨false, j, 0, .vec e l⟩)], n + 1)
    | _ => none
  | _ => none
def abV (pd : PD) (n : Nat) : V -> Option (V × List (Nat × Ob) × Nat)
  | .u x => match abU pd n x with
    | some (y, o, m) => some (.u y, o, m)
    | none => none
  | .tup l => match l with
    | [.box m, u] => abP pd n m u
    | l => match abUs pd n l with
      | some (r, o, m) => some (.tup r, o, m)
      | none => none
  | .dead => some (.dead, [], n)
structure Sg where
  R : Type
  mode : Nat
  run : List U -> Option R
  res : R -> V
def PD.arrOf (pd : PD) (t : TypeId) (e : El) : Option Nat :=
  match pd.arrLike t with
  | some (n, f) => cond (Nat.beq e.idx f.idx) (some n) none
  | none => none
def zn6 (e : El) (l : List e.T) : Nat -> Nat -> List e.T
  | _, 0 => []
  | i, n + 1 => l.getD i e.zero :: zn6 e l (i + 1) n
def few : (e : El) -> List e.T -> Nat -> Nat -> List e.T
  | .int, l, i, n => cond (Nat.ble n 4) (zn6 .int l i n) ((l.drop i).take n)
  | _, l, i, n => (l.drop i).take n
def zdB (pd : PD) (t : TypeId) (whole : Nat) (e : El) (l : List e.T) (i sub : Nat) : Option (Bool × U) :=
  match pd.ti t with
  | none => none
  | some ti =>
    match cond (Nat.beq sub 0) (pd.arrOf t e) none with
    | some n => cond (Nat.beq n whole && (Nat.beq i 0 && Nat.blt 0 n)) (some (true, .vec e l)) (some (leN (i + n) l.length, .vec e (few e l i n)))
    | none => cond (Nat.ble (sub + ti.size) e.size)
      (match pd.mkU t (((e.toC (l.getD i e.zero)).drop sub).take ti.size) with
        | some u => some (true, u)
        | none => none)
      none
def zgq (pd : PD) (t : TypeId) (x : Ob) (i sub : Nat) : Option (Bool × U) :=
  match x.o with
  | .lit l => match pd.ti t with
    | some ti => cond (Nat.beq i 0 && Nat.ble (sub + ti.size) l.length) (match pd.mkU t ((l.drop sub).take ti.size) with | some u => some (true, u) | none => none) none
    | none => none
  | .vec e l => zdB pd t x.n e l i sub
def zan {α : Type} (l : List α) (sub : Nat) (cs : List α) : List α := l.take sub ++ (cs ++ l.drop (sub + cs.length))
def setL {α : Type} : List α -> Nat -> α -> List α
  | [], _, _ => []
  | _ :: l, 0, y => y :: l
  | x :: l, n + 1, y => x :: setL l n y
def zdC (pd : PD) (t : TypeId) (x : Ob) (i sub : Nat) (u : U) : Option (Bool × O) :=
  match pd.ti t with
  | none => none
  | some ti => match x.o with
    | .lit l => cond (Nat.beq i 0 && (Nat.ble (sub + ti.size) l.length && Nat.beq u.cells.length ti.size)) (some (true, .lit (zan l sub u.cells))) none
    | .vec e l =>
      match cond (Nat.beq sub 0) (pd.arrOf t e) none with
      | some n => match u with
        | .vec f m => match zbK f e m with
          | some m => cond (Nat.beq n x.n && (Nat.beq i 0 && (Nat.blt 0 n && !x.row))) (some (Nat.beq m.length n, .vec e m)) (some (leN (i + n) l.length && Nat.beq m.length n, .vec e (zan l i m)))
          | none => none
        | _ => none
      | none => cond (Nat.ble (sub + ti.size) e.size && Nat.beq u.cells.length ti.size)
        (match e.ofC (zan (e.toC (l.getD i e.zero)) sub u.cells) with
          | some y => some (true, .vec e (setL l i y))
          | none => none)
        none
def PD.newOb (pd : PD) (t : TypeId) (u : U) : Option (Bool × Ob) :=
  match pd.ti t with
  | none => none
  | some ti => match pd.arrLike t with
    | some (n, e) => match u with
      | .vec f m => match zbK f e m with
        | some m => some (Nat.blt t PIN && Nat.beq m.length n, ⟨false, n, t, .vec e m⟩)
        | none => none
      | _ => none
    | none => cond (Nat.blt t PIN && Nat.beq u.cells.length ti.size) (some (true, ⟨false, 0, t, .lit u.cells⟩)) none
def PD.zero (pd : PD) (t : TypeId) : Option U :=
  match pd.ti t with
  | none => none
  | some ti => pd.mkU t ti.zero
def PD.pos (pd : PD) (t : TypeId) : Bool := match pd.ti t with
  | some ti => Nat.blt 0 ti.size
  | none => false
def zpl : El -> TK -> Bool
  | .u64, .int _ | .u32, .int _ | .u8, .int _ | .int, .int _ | .bool, .bool => true
  | _, _ => false
def eq64 (x y : UInt64) : Bool := x == y
def eq32 (x y : UInt32) : Bool := x == y
def eq8 (x y : UInt8) : Bool := x == y
def eqBo (x y : Bool) : Bool := x == y
def eqE : (e : El) -> e.T -> e.T -> Bool
  | .u64, x, y => eq64 x y
  | .u32, x, y => eq32 x y
  | .u8, x, y => eq8 x y
  | .int, x, y => eqI x y
  | .bool, x, y => eqBo x y
  | _, _, _ => false
def eqL (e : El) : List e.T -> List e.T -> Bool
  | [], [] => true
  | x :: l, y :: m => eqE e x y && eqL e l m
  | _, _ => false
def eqS : TK -> C -> C -> Option Bool
  | .int _, .u64 x, .u64 y => some (x == y)
  | .int _, .u32 x, .u32 y => some (x == y)
  | .int _, .u8 x, .u8 y => some (x == y)
  | .int _, .int x, .int y => some (eqI x y)
  | .bool, .bool x, .bool y => some (x == y)
  | .str, .str x, .str y => some (eqB x y)
  | _, _, _ => none
def eqFs (pd : PD) (f : TypeId -> List C -> List C -> Option Bool) (xs ys : List C) : List (Nat × TypeId) -> Option Bool
  | [] => some true
  | (off, ft) :: fs => match pd.ti ft with
    | some fi => match f ft ((xs.drop off).take fi.size) ((ys.drop off).take fi.size) with
      | some r => match eqFs pd f xs ys fs with
        | some q => some (r && q)
        | none => none
      | none => none
    | none => none
def eqIs (f : List C -> List C -> Option Bool) (z : Nat) : Nat -> List C -> List C -> Option Bool
  | 0, _, _ => some true
  | n + 1, xs, ys => match f (xs.take z) (ys.take z) with
    | some r => match eqIs f z n (xs.drop z) (ys.drop z) with
      | some q => some (r && q)
      | none => none
    | none => none
def eqT (pd : PD) : Nat -> TypeId -> List C -> List C -> Option Bool
  | 0, _, _, _ => none
  | d + 1, t, xs, ys => match pd.ti t with
    | some ⟨.struct fs, _, _, _⟩ => eqFs pd (eqT pd d) xs ys fs
    | some ⟨.arr n e, _, _, _⟩ => match pd.ti e with
      | some ei => eqIs (eqT pd d e) ei.size n xs ys
      | none => none
    | some ti => match xs, ys with
      | [a], [b] => eqS ti.k a b
      | _, _ => none
    | none => none
def eqV (pd : PD) (t : TypeId) (e : El) (l m : List e.T) : Option (Bool × Bool) :=
  match pd.ti t with
  | some ⟨.arr n et, _, _, _⟩ => match pd.ti et with
    | some ei => cond (zpl e ei.k) (some (Nat.beq l.length n && Nat.beq m.length n, eqL e l m)) none
    | none => none
  | _ => none
def eqA (pd : PD) (t : TypeId) (l m : List C) : Option Bool :=
  match pd.ti t with
  | some ti => cond (ti.k.agg && (Nat.beq l.length ti.size && Nat.beq m.length ti.size)) (eqT pd 9 t l m) none
  | none => none
def mxI (x y : Int) : Int := cond (ltI x y) y x
def mnI (x y : Int) : Int := cond (ltI y x) y x
def PD.elIs (pd : PD) (t : TypeId) (e : El) : Bool := match pd.el t with
  | some g => Nat.beq g.idx e.idx
  | none => false
def PD.slIs (pd : PD) (t : TypeId) (e : El) : Bool := match pd.ti t with
  | some ⟨.slice et, _, _, _⟩ => pd.elIs et e
  | _ => false
def O.isVec (pd : PD) (t : TypeId) : O -> Bool
  | .vec e _ => pd.elIs t e
  | _ => false
def O.sz : O -> Nat
  | .lit l => l.length
  | .vec e _ => e.size
def O.len : O -> Nat
  | .lit _ => 1
  | .vec _ l => l.length
def PD.isTn (pd : PD) (t : TypeId) : Bool := match pd.ti t with
  | some ⟨.struct _, 3, _, _⟩ => true
  | _ => false
def PD.slTn (pd : PD) (t : TypeId) : Bool := match pd.ti t with
  | some ⟨.slice et, _, _, _⟩ => pd.isTn et
  | _ => false
def PD.idx (pd : PD) (t : TypeId) (s : St) (x : C) (n : Int) : Option (Bool × C) :=
  match x with
  | .ptr id i sub => match pd.ti t, s.get id with
    | some ⟨.arr m e, _, _, _⟩, some y => match pd.ti e with
      | some ei => cond (y.o.isVec pd e && (Nat.beq sub 0 && (Nat.beq i 0 && (Nat.ble m y.n && !y.row))))
          (some (leI 0 n && ltI n m, .ptr id n.toNat 0))
          (cond (Nat.ble (sub + m * ei.size) y.o.sz && Nat.blt 0 ei.size) (some (leI 0 n && ltI n m, .ptr id i (sub + n.toNat * ei.size))) none)
      | none => none
    | _, _ => none
  | .rop f l i sub => match pd.ti t with
    | some ⟨.arr m e, _, _, _⟩ => match pd.ti e with
      | some ei => cond (Nat.ble (sub + m * ei.size) f.size && Nat.blt 0 ei.size) (some (leI 0 n && ltI n m, .rop f l i (sub + n.toNat * ei.size))) none
      | none => none
    | _ => none
  | .row id => match s.get id with
    | some ⟨true, _, _, .vec e l⟩ => cond (pd.slIs t e) (some (leI 0 n && ltI n l.length, .ptr id n.toNat 0)) none
    | _ => none
  | .sl id i m => match s.get id with
    | some ⟨_, _, _, .vec e _⟩ => cond (pd.slIs t e) (some (leI 0 n && ltI n m, .ptr id (i + n.toNat) 0)) none
    | _ => none
  | .slc id i m _ => match s.get id with
    | some ⟨_, _, _, .vec e _⟩ => cond (pd.slIs t e) (some (leI 0 n && ltI n m, .ptr id (i + n.toNat) 0)) none
    | _ => none
  | .ro e l => cond (pd.slIs t e) (some (leI 0 n && ltI n l.length, .rop e l n.toNat 0)) none
  | .rt l => cond (pd.slTn t) (some (leI 0 n && ltI n l.length, .rtp l n.toNat 0)) none
  | .asl id off _ m => match pd.ti t, s.get id with
    | some ⟨.slice e, _, _, _⟩, some ⟨_, _, _, .lit l⟩ => match pd.ti e with
      | some ei => cond (Nat.blt 0 ei.size && Nat.ble (off + m * ei.size) l.length) (some (leI 0 n && ltI n m, .ptr id 0 (off + n.toNat * ei.size))) none
      | none => none
    | _, _ => none
  | _ => none
def bndc (lo hi : Option Int) (n c : Int) : Bool := leI 0 (lo.getD 0) && (leI (lo.getD 0) (hi.getD n) && leI (hi.getD n) c)
def bnds (lo hi : Option Int) (n : Int) : Bool := leI 0 (lo.getD 0) && (leI (lo.getD 0) (hi.getD n) && leI (hi.getD n) n)
def PD.partLit (pd : PD) (t : TypeId) (s : St) (id sub : Nat) (lo hi : Option Int) : Option (Bool × C) :=
  match lo, hi with
  | none, none => match pd.ti t with
    | some ⟨.arr m et, _, _, _⟩ => match s.get id with
      | some ⟨false, _, _, .lit l⟩ => match pd.el et with
        | some e => cond (Nat.blt 0 m && (Nat.ble m 4294967296 && Nat.ble (sub + m * e.size) l.length)) (some (true, .asl id sub e m)) none
        | none => none
      | _ => none
    | _ => none
  | _, _ => none
def PD.part (pd : PD) (t : TypeId) (s : St) (x : C) (lo hi : Option Int) : Option (Bool × C) :=
  match x with
  | .row id => match s.get id with
    | some ⟨true, _, _, .vec e l⟩ => cond (pd.slIs t e) (some (bnds lo hi l.length, .sl id (lo.getD 0).toNat ((hi.getD l.length) - (lo.getD 0)).toNat)) none
    | _ => none
  | .sl id i m => match s.get id with
    | some ⟨_, _, _, .vec e _⟩ => cond (pd.slIs t e) (some (bnds lo hi m, .sl id (i + (lo.getD 0).toNat) ((hi.getD m) - (lo.getD 0)).toNat)) none
    | _ => none
  | .slc id 0 m c => match s.get id with
    | some ⟨_, _, _, .vec e _⟩ => match lo with
      | none => cond (pd.slIs t e) (some (bndc none hi m c && ltN 0 c, .slc id 0 (hi.getD m).toNat c)) none
      | _ => none
    | _ => none
  | .ro e l => cond (pd.slIs t e) (some (bnds lo hi l.length, .ro e ((l.drop (lo.getD 0).toNat).take ((hi.getD l.length) - (lo.getD 0)).toNat))) none
  | .ptr id 0 0 => match pd.ti t, s.get id with
    | some ⟨.arr m e, _, _, _⟩, some y => cond (y.o.isVec pd e && (Nat.beq y.n m && (Nat.ble m 4294967296 && !y.row))) (some (bnds lo hi m, .sl id (lo.getD 0).toNat ((hi.getD m) - (lo.getD 0)).toNat)) (pd.partLit t s id 0 lo hi)
    | _, _ => none
  | .ptr id 0 sub => pd.partLit t s id sub lo hi
  | _ => none
def St.list (s : St) : C -> Option ((e : El) × List e.T)
  | .row id => match s.get id with
    | some ⟨true, _, _, .vec e l⟩ => some ⟨e, l⟩
    | _ => none
  | .sl id i n => match s.get id with
    | some ⟨_, _, _, .vec e l⟩ => some ⟨e, (l.drop i).take n⟩
    | _ => none
  | .slc id i n _ => match s.get id with
    | some ⟨_, _, _, .vec e l⟩ => some ⟨e, (l.drop i).take n⟩
    | _ => none
  | .ro e l => some ⟨e, l⟩
  | .str l => some ⟨.u8, l⟩
  | _ => none
def lenC (s : St) : C -> Option Int
  | .row id => match s.get id with
    | some ⟨true, _, _, .vec _ l⟩ => some l.length
    | _ => none
  | .sl _ _ n => some n
  | .slc _ _ n _ => some n
  | .ro _ l => some l.length
  | .str l => some l.length
  | .len n => some n
  | .rt l => some l.length
  | .asl _ _ _ n => some n
  | _ => none
def V.bool? : V -> Option Bool
  | .u (.c (.bool b)) => some b
  | _ => none
def V.c? : V -> Option C
  | .u (.c x) => some x
  | _ => none
def V.int? : V -> Option Int
  | .u (.c x) => x.isInt
  | _ => none
def optI (pd : PD) (s : St) : Option Operand -> Option (Option Int)
  | none => some none
  | some x => match (pd.ev 3 s x).int? with
    | some n => some (some n)
    | none => none
def zdY (l : List C) : List (Nat × List C) -> List C
  | [] => l
  | (off, cs) :: r => zdY (zan l off cs) r
def zaR (pd : PD) (s : St) (n : Nat) (place : Nat -> Option (Nat × TypeId)) : List (Nat × Operand) -> Option (List (Nat × List C))
  | [] => some []
  | (i, x) :: l => match place i with
    | none => none
    | some (off, t) => match pd.ti t, pd.ev t s x with
      | some ti, .u u => cond (Nat.beq u.cells.length ti.size && (u.solid && Nat.ble (off + ti.size) n)) (match zaR pd s n place l with | some r => some ((off, u.cells) :: r) | none => none) none
      | _, _ => none
def oneV (pd : PD) (t : TypeId) (s : St) (sz : Nat) (fs : List (Nat × TypeId)) (zl : Nat) (parts : List (Nat × Operand)) : Option (Bool × U) :=
  match parts, fs with
  | [(0, x)], [(0, ft)] => match pd.arrLike t, pd.ti ft with
    | some (n, e), some ti => match pd.ev ft s x with
      | .u (.vec f l) => match zbK f e l with
        | some l => some (Nat.beq l.length n && (Nat.beq (n * e.size) ti.size && (Nat.beq zl ti.size && Nat.ble ti.size sz)), .vec e l)
        | none => none
      | _ => none
    | _, _ => none
  | _, _ => none
def zwb (pd : PD) (t : TypeId) (op : BinOp) (a b : C) : Option C :=
  match b with
  | .nilp => match pd.ti t with
    | some ⟨.ptr _, _, _, _⟩ => match a, op with
      | .ptr _ _ _, .eql => some (.bool false)
      | .ptr _ _ _, .neq => some (.bool true)
      | .nilp, .eql => some (.bool true)
      | .nilp, .neq => some (.bool false)
      | _, _ => none
    | _ => none
  | _ => none
def zyA (pd : PD) (t : TypeId) (a b : C) : Bool :=
  match a, b with
  | .bool _, .bool _ => match pd.ti t with
    | some ⟨.bool, _, _, _⟩ => true
    | _ => false
  | _, _ => true
def zgr {R : Type} : Nat -> Nat -> Int -> (Nat -> Option R) -> Option R
  | 0, _, _, _ => none
  | m + 1, i, j, k => cond (eqI j i) (k i) (zgr m (i + 1) j k)
def PD.brn (pd : PD) (t : TypeId) (s : St) (c : C) : Option Nat :=
  match c with
  | .ptr id i sub => match pd.ti t, s.get id with
    | some ⟨.arr m e, _, _, _⟩, some y => cond (y.o.isVec pd e && (Nat.beq sub 0 && (Nat.beq i 0 && (Nat.ble m y.n && !y.row)))) none (some m)
    | _, _ => none
  | .rop _ _ _ _ => match pd.ti t with
    | some ⟨.arr m _, _, _, _⟩ => some m
    | _ => none
  | .asl _ _ _ m => some m
  | _ => none
def memN (n : Nat) : List Nat -> Bool
  | [] => false
  | m :: l => cond (Nat.beq m n) true (memN n l)
def anyN (p : Nat -> Bool) : List Nat -> Bool
  | [] => false
  | m :: l => cond (p m) true (anyN p l)
section
variable {R : Type} (pd : PD) (env : Nat -> Option Sg) (dr : Bool)
def val (o : Oper) (v : V) (rd : List Nat) (k : Eff -> Option R) : Option R := k ⟨o.dst, v, [], [], [], rd⟩
def must (g : Bool) (x : Option R) : Option R := cond g x none
def site (o : Oper) : Nat := match o.dst with | some d => 64 * (d + 1) | none => 0
def zdu : St -> List Operand -> List TypeId -> List Nat
  | _, [], _ => []
  | s, x :: l, ts => (pd.ev (ts.headD 0) s x).ids ++ zdu s l ts.tail
def zgs : List Nat -> Bool
  | [] => true
  | n :: l => cond (memN n l) false (zgs l)
def rsC (s : St) : C -> Option (Bool × C)
  | .row id => match s.get id with
    | some ⟨true, _, ty, .vec e l⟩ => match elTy e pd.els with
      | some t => cond (Nat.beq t ty) (some (true, .ro e l)) none
      | none => none
    | _ => none
  | .sl id 0 n => match s.get id with
    | some ⟨_, _, _, .vec e l⟩ => some (ltN 0 n, .rop e (l.take n) 0 0)
    | _ => none
  | .slc id 0 n c => match s.get id with
    | some ⟨false, _, _, .vec e l⟩ => some (leN c l.length && leN l.length c, .rop e l 1 n)
    | _ => none
  | .u64 x => some (true, .u64 x)
  | .u32 x => some (true, .u32 x)
  | .u8 x => some (true, .u8 x)
  | .int x => some (true, .int x)
  | .bool x => some (true, .bool x)
  | .str x => some (true, .str x)
  | .len n => some (true, .len n)
  | _ => none
def rsR (s : St) : C -> Option (Bool × C)
  | .ro _ l => some (true, .len l.length)
  | c => rsC pd s c
def zfc (s : St) : List C -> (List C -> Option R) -> Option R
  | [], k => k []
  | c :: l, k => match rsC pd s c with
    | some (g, d) => must g (zfc s l fun r => k (d :: r))
    | none => none
def zi0 (s : St) (mode : Nat) (c : C) (k : Nat -> List Nat -> U -> Option R) : Option R :=
  match c with
  | .row id => match s.get id with
    | some ⟨true, _, _, .vec e l⟩ => cond (Nat.beq mode 1) (must (ltN 0 l.length) (k id [] (.vec e l))) none
    | _ => none
  | .ptr id 0 0 => match s.get id with
    | some ⟨false, n, _, .vec e l⟩ => cond (Nat.beq mode 2) (must (ltN 0 l.length) (k id [] (.vec e l))) (cond (Nat.blt 100 mode && Nat.beq n (mode - 100)) (k id [] (.vec e l)) none)
    | some ⟨false, _, _, .lit l⟩ => cond (Nat.beq mode 3) (cond (Nat.blt 0 l.length && zgs (id :: idCs l)) (zfc pd s l fun m => k id (idCs l) (.agg m)) none) none
    | _ => none
  | _ => none
def zwc (y : O) (u : U) : Option (Bool × O) :=
  match y, u with
  | .lit l, .agg m => some (Nat.beq m.length l.length, .lit m)
  | .vec e l, .vec f m => match zbK f e m with
    | some m => some (Nat.beq m.length l.length, .vec e m)
    | none => none
  | _, _ => none
def tupV : List U -> V
  | [] => .dead
  | [x] => .u x
  | l => .tup l
def zbm (o : Oper) (id : Nat) (rows : List Nat) : Nat :=
  match o.dst with
  | some d => 64 * (d + 1)
  | none => cond (anyN (fun i => Nat.ble 2000000000000 i) rows) (1000000000000 + 64 * id) (2000000000000 + 64 * id)
def zcu (g : Sg) (args : List Operand) (ts : List TypeId) (o : Oper) (s : St) (k : Eff -> Option R) : Option R :=
  match args with
  | x :: rest => match (pd.ev (ts.headD 0) s x).c? with
    | some c => zi0 pd s g.mode c fun id rows u0 => match zb2 pd (s.dels (id :: rows)) rest ts.tail with
      | some us => (g.run (u0 :: us)).bind fun r => match g.res r, s.get id with
        | .tup l, some y => match abUs pd (zbm o id rows) l with
          | some (u3 :: rs, obs, n) => match zwc y.o u3 with
            | some (gd, o') => must gd (k ⟨o.dst, tupV rs, obs ++ [(id, ⟨y.row, y.n, y.ty, o'⟩)], rows, List.range' (zbm o id rows) (n - zbm o id rows), id :: (rows ++ zdu pd s args ts)⟩)
            | none => none
          | _ => none
        | _, _ => none
      | none => none
    | none => none
  | [] => none
def zhP (s : St) (args : List Operand) (ts : List TypeId) : Bool :=
  match args with
  | x :: _ => match pd.ev (ts.headD 0) s x with
    | .u (.c .nilp) => true
    | _ => false
  | [] => false
def zdD (g : Sg) (args : List Operand) (ts : List TypeId) (o : Oper) (s : St) (k : Eff -> Option R) : Option R :=
  match zb2 pd s args ts with
  | some us => (g.run us).bind fun r => match abV pd (site o) (g.res r) with
    | some (v, obs, n) => k ⟨o.dst, v, obs, [], List.range' (site o) (n - site o), zdu pd s args ts⟩
    | none => none
  | none => none
def isM (mode : Nat) : Bool := cond (Nat.beq mode 4) true (cond (Nat.beq mode 5) true (cond (Nat.beq mode 6) true (Nat.beq mode 7)))
def zn7 : List C -> Option C
  | [] => none
  | [c] => some c
  | _ :: l => zn7 l
def zlt (c : C) : List C -> List C
  | [] => []
  | [_] => [c]
  | x :: l => x :: zlt c l
def fixL (l : List U) : List U :=
  match l with
  | [.agg m, .agg q] => match zn7 q with
    | some (.row d) => [.agg (zlt (.row d) m), .agg q]
    | _ => [.agg m, .agg q]
  | l => l
def cntM (mode : Nat) : Nat := cond (Nat.beq mode 5) 2 1
def zn8 {A : Type} : List A -> List A
  | x :: y :: l => y :: x :: l
  | l => l
def zbC {A : Type} (mode : Nat) (l : List A) : List A := cond (Nat.beq mode 4) (zn8 l) l
def zes (s : St) : Nat -> List Operand -> List TypeId -> Option (List Nat)
  | 0, _, _ => some []
  | _ + 1, [], _ => none
  | n + 1, x :: l, ts => match (pd.ev (ts.headD 0) s x).c? with
    | some (.ptr id 0 0) => match zes s n l ts.tail with
      | some r => some (id :: r)
      | none => none
    | _ => none
def zbf (s : St) : List Nat -> List Nat
  | [] => []
  | id :: l => (match s.get id with | some ⟨false, _, _, .lit l⟩ => idCs l | _ => []) ++ zbf s l
def zbN (s : St) : List Nat -> List (Nat × Ob)
  | [] => []
  | id :: l => match s.get id with
    | some ⟨false, n, ty, .lit m⟩ => (id, ⟨false, n, ty, .lit (List.replicate m.length .dead)⟩) :: zbN s l
    | _ => zbN s l
def zdE (s : St) : List Nat -> (List U -> Option R) -> Option R
  | [], k => k []
  | id :: ids, k => match s.get id with
    | some ⟨false, _, _, .lit l⟩ => cond (Nat.blt 0 l.length) (zfc pd s l fun m => zdE s ids fun us => k (.agg m :: us)) none
    | _ => none
def zlu (s : St) : List Nat -> List U -> Option (Bool × List (Nat × Ob) × List U)
  | [], us => some (true, [], us)
  | id :: ids, us => match us with
    | .agg m :: us => match s.get id with
      | some ⟨false, n, ty, .lit l⟩ => match zlu s ids us with
        | some (g, ps, rs) => some (cond (Nat.beq m.length l.length) g false, (id, ⟨false, n, ty, .lit m⟩) :: ps, rs)
        | none => none
      | _ => none
    | _ => none
def zc8 (g : Sg) (args : List Operand) (ts : List TypeId) (o : Oper) (s : St) (k : Eff -> Option R) : Option R :=
  match zes pd s (cntM g.mode) (zbC g.mode args) (zbC g.mode ts) with
  | some ids => cond (zgs (ids ++ zbf s ids)) (zdE pd s ids fun us0 =>
      match zb2 pd (s.dels (ids ++ zbf s ids)) ((zbC g.mode args).drop (cntM g.mode)) ((zbC g.mode ts).drop (cntM g.mode)) with
      | some us => (g.run (us0 ++ us)).bind fun r => match g.res r with
        | .tup l => match abUs pd (zbm o (ids.headD 0) (zbf s ids)) l with
          | some (l2, obs, n) => match zlu s ids (cond (Nat.beq g.mode 7) (fixL l2) l2) with
            | some (gd, ps, rs) => must gd (k ⟨o.dst, tupV rs, zbN s ids ++ (obs ++ ps), zbf s ids, List.range' (zbm o (ids.headD 0) (zbf s ids)) (n - zbm o (ids.headD 0) (zbf s ids)), ids ++ (zbf s ids ++ zdu pd s args ts)⟩)
            | none => none
          | none => none
        | _ => none
      | none => none) none
  | none => none
def zc9 (g : Sg) (args : List Operand) (ts : List TypeId) (o : Oper) (s : St) (k : Eff -> Option R) : Option R :=
  match args with
  | [x] => match (pd.ev (ts.headD 0) s x).c? with
    | some (.asl id 0 _ n) => match s.get id with
      | some ⟨false, _, _, .lit l⟩ => cond (Nat.beq l.length n && (Nat.blt 0 n && Nat.ble n 4096)) (match reCs (s.dels [id]) l with
        | some ds => (g.run [.agg ds]).bind fun r => match abV pd (site o) (g.res r) with
          | some (v, obs, m) => k ⟨o.dst, v, obs, [id], List.range' (site o) (m - site o), id :: idCs l⟩
          | none => none
        | none => none) none
      | _ => none
    | _ => none
  | _ => none
def zda (g : Sg) (args : List Operand) (ts : List TypeId) (o : Oper) (s : St) (k : Eff -> Option R) : Option R :=
  match args with
  | .const (.slice none 0 0) :: rest => match zb2 pd s rest ts.tail with
    | some us => (g.run us).bind fun r => match abV pd (site o) (g.res r) with
      | some (v, obs, n) => k ⟨o.dst, v, obs, [], List.range' (site o) (n - site o), zdu pd s args ts⟩
      | none => none
    | none => none
  | _ => none
def zdb (g : Sg) (args : List Operand) (ts : List TypeId) (o : Oper) (s : St) (k : Eff -> Option R) : Option R :=
  match args with
  | x :: rest => match (pd.ev (ts.headD 0) s x).c? with
    | some (.slc id 0 n c) => match s.get id with
      | some ⟨false, _, _, .vec e l⟩ => must (leN c l.length && leN l.length c) (match zb2 pd (s.dels [id]) rest ts.tail with
        | some us => (g.run (.c (.rop e l 1 n) :: us)).bind fun r => match abV pd (site o) (g.res r) with
          | some (v, obs, m) => k ⟨o.dst, v, obs, [id], List.range' (site o) (m - site o), id :: zdu pd s args ts⟩
          | none => none
        | none => none)
      | _ => none
    | _ => none
  | [] => none
def C.heldb : C -> Bool
  | .ro _ _ => true
  | .u64 _ | .u32 _ | .u8 _ | .int _ | .bool _ => true
  | _ => false
def zet : List C -> Bool
  | [] => true
  | c :: l => cond c.heldb (zet l) false
def C.scalb : C -> Bool
  | .u64 _ | .u32 _ | .u8 _ | .int _ | .bool _ => true
  | _ => false
def zm7 : List U -> Bool
  | [] => true
  | u :: l => match u with
    | .c x => cond x.scalb (zm7 l) false
    | _ => false
def errC (m : List C) : Bool := match zn7 m with
  | some (.int n) => eqI n 0
  | _ => false
def zcR (tk : Bool) (g : Sg) (args : List Operand) (ts : List TypeId) (o : Oper) (s : St) (k : Eff -> Option R) : Option R :=
  match args with
  | x :: rest => match (pd.ev (ts.headD 0) s x).c? with
    | some (.ptr id 0 0) => match s.get id with
      | some ⟨false, n, ty, .lit l⟩ => cond (zet l && Nat.blt 0 l.length) (match zb2 pd (s.dels [id]) rest ts.tail with
        | some us => cond (zm7 us) ((g.run (.agg l :: us)).bind fun r => match g.res r with
          | .tup (.agg m :: us2) => cond (zet m && Nat.beq m.length l.length)
            (cond tk (match us2 with
              | [.c (.ro e q)] => cond (errC m) (k ⟨o.dst, .u (.c (.ro e q)), [(id, ⟨false, n, ty, .lit m⟩)], [], [], id :: zdu pd s args ts⟩)
                (match abC pd (zbm o id []) (.ro e q) with
                  | some (c, obs, k2) => k ⟨o.dst, .u (.c c), (id, ⟨false, n, ty, .lit m⟩) :: obs, [], List.range' (zbm o id []) (k2 - zbm o id []), id :: zdu pd s args ts⟩
                  | none => none)
              | _ => none)
            (match abUs pd (zbm o id []) us2 with
              | some (rs, obs, k2) => k ⟨o.dst, tupV rs, (id, ⟨false, n, ty, .lit m⟩) :: obs, [], List.range' (zbm o id []) (k2 - zbm o id []), id :: zdu pd s args ts⟩
              | none => none)) none
          | _ => none) none
        | none => none) none
      | _ => none
    | _ => none
  | [] => none
def zdc (f : Nat) (args : List Operand) (ts : List TypeId) (o : Oper) (s : St) (k : Eff -> Option R) : Option R :=
  cond (Nat.blt f 1000000) (match env (f + 2000000) with
    | some g => zc9 pd g args ts o s k
    | none => match env (f + 3000000) with
      | some g => zda pd g args ts o s k
      | none => match env (f + 4000000) with
        | some g => zdb pd g args ts o s k
        | none => match env (f + 6000000) with
          | some g => zcR pd false g args ts o s k
          | none => match env (f + 7000000) with
            | some g => zcR pd true g args ts o s k
            | none => none) none
def zeu (f : Nat) (args : List Operand) (ts : List TypeId) (o : Oper) (s : St) (k : Eff -> Option R) : Option R :=
  match env f with
  | some g => cond (Nat.blt f 1000000) (cond (Nat.beq g.mode 0) (zdD pd g args ts o s k)
      (cond (zhP pd s args ts) (match env (f + 1000000) with
        | some g2 => cond (Nat.beq g2.mode 0) (zdD pd g2 args ts o s k) none
        | none => none) (cond (isM g.mode) (zc8 pd g args ts o s k) (zcu pd g args ts o s k)))) none
  | none => zdc pd env f args ts o s k
def zjX (et : TypeId) (k : TK) (c : C) : Bool :=
  match k, c with
  | .slice _, .str _ => false
  | .slice e, _ => Nat.beq e et
  | .str, .str _ => true
  | _, _ => false
def zpm : C -> Bool
  | .str _ => true
  | _ => false
def lenI : Option C -> Option Int
  | some (.int n) => some n
  | some (.u8 x) => some x.toNat
  | _ => none
def zpn : C -> Bool
  | .u64 _ | .u32 _ | .u8 _ | .int _ | .bool _ => true
  | _ => false
def zgt : List C -> Bool
  | [] => true
  | c :: l => cond (zpn c) (zgt l) false
def zbu (b : Builtin) (args : List Operand) (ts : List TypeId) (o : Oper) (s : St) (k : Eff -> Option R) : Option R :=
  match b, args, ts with
  | .len, [x], [t] => match pd.ti t with
    | some ⟨.arr n _, _, _, _⟩ => val o (.u (.c (.int n))) [] k
    | some ⟨.slice _, _, _, _⟩ => match (pd.ev t s x).c? with
      | some c => cond (zpm c) none (match lenC s c with
        | some n => val o (.u (.c (.int n))) (idC c) k
        | none => none)
      | none => none
    | some ⟨.str, _, _, _⟩ => match (pd.ev t s x).c? with
      | some c => cond (zpm c) (match lenC s c with
        | some n => val o (.u (.c (.int n))) (idC c) k
        | none => none) none
      | none => none
    | _ => none
  | .cap, [x], [t] => match pd.ti t with
    | some ⟨.slice _, _, _, _⟩ => match (pd.ev t s x).c? with
      | some (.slc _ _ _ c) => val o (.u (.c (.int c))) [] k
      | _ => none
    | _ => none
  | .max, [x, y], _ => match (pd.ev 3 s x).c?, (pd.ev 3 s y).c? with
    | some (.int a), some (.int b) => val o (.u (.c (.int (mxI a b)))) [] k
    | _, _ => none
  | .min, [x, y], _ => match (pd.ev 3 s x).c?, (pd.ev 3 s y).c? with
    | some (.int a), some (.int b) => val o (.u (.c (.int (mnI a b)))) [] k
    | _, _ => none
  | .min, [x, y, z], _ => match (pd.ev 3 s x).c?, (pd.ev 3 s y).c?, (pd.ev 3 s z).c? with
    | some (.int a), some (.int b), some (.int c) => val o (.u (.c (.int (mnI (mnI a b) c)))) [] k
    | _, _, _ => none
  | .append, [x, y], [t, u] => match pd.ti t, pd.ti u with
    | some ⟨.slice et, _, _, _⟩, some ⟨.int _, _, _, _⟩ => match pd.ti et, (pd.ev t s x).c?, lenI (pd.ev u s y).c? with
      | some ei, some (.row id), some n => match s.get id with
        | some ⟨true, m, ty, .vec e l⟩ => cond (Nat.beq ty et && (pd.elIs et e && Nat.blt 0 ei.bytes))
            (must (leI 0 n && leN ((l.length + n.toNat) * ei.bytes) 140737488355328) (k ⟨o.dst, .u (.c (.row (site o))), [(site o, ⟨true, m, ty, .vec e (l ++ List.replicate n.toNat e.zero)⟩)], [id], [site o], [id]⟩)) none
        | _ => none
      | _, _, _ => none
    | some ⟨.slice et, _, _, _⟩, some tu => match pd.ti et, (pd.ev t s x).c?, (pd.ev u s y).c? with
      | some ei, some (.sl id 0 n), some c => match s.get id, s.list c with
        | some ⟨false, m, _, .vec e l⟩, some ⟨f, l2⟩ => match zbK f e l2 with
          | some l2 => cond (Nat.beq n m && (Nat.blt 0 n && (pd.elIs et e && (Nat.blt 0 ei.bytes && zjX et tu.k c))))
              (must (ltN 0 l2.length && leN ((n + l2.length) * ei.bytes) 140737488355328) (k ⟨o.dst, .u (.c (.row (site o))), [(site o, ⟨true, 0, et, .vec e (l ++ l2)⟩)], [], [site o], id :: idC c⟩)) none
          | none => none
        | _, _ => none
      | some ei, some (.row id), some c => match s.get id, s.list c with
        | some ⟨true, m, ty, .vec e l⟩, some ⟨f, l2⟩ => match zbK f e l2 with
          | some l2 => cond (Nat.beq ty et && (pd.elIs et e && (Nat.blt 0 ei.bytes && zjX et tu.k c)))
              (must (leN ((l.length + l2.length) * ei.bytes) 140737488355328) (k ⟨o.dst, .u (.c (.row (site o))), [(site o, ⟨true, m, ty, .vec e (l ++ l2)⟩)], [id], [site o], id :: idC c⟩)) none
          | none => none
        | _, _ => none
      | _, _, _ => none
    | _, _ => none
  | .copy, [x, y], [t, u] => match pd.ti t, pd.ti u with
    | some ⟨.slice et, _, _, _⟩, some tu => match (pd.ev t s x).c?, (pd.ev u s y).c? with
      | some (.sl id i n), some c => match s.get id, s.list c with
        | some ⟨rw, m, ty, .vec e l⟩, some ⟨f, l2⟩ => match zbK f e l2 with
          | some l2 => cond (pd.elIs et e && zjX et tu.k c) (k ⟨o.dst, .u (.c (.int (min l2.length n : Nat))), [(id, ⟨rw, m, ty, .vec e (zan l i (l2.take n))⟩)], [], [], id :: idC c⟩) none
          | none => none
        | _, _ => none
      | some (.slc id i n _), some c => match s.get id, s.list c with
        | some ⟨rw, m, ty, .vec e l⟩, some ⟨f, l2⟩ => match zbK f e l2 with
          | some l2 => cond (pd.elIs et e && zjX et tu.k c) (k ⟨o.dst, .u (.c (.int (min l2.length n : Nat))), [(id, ⟨rw, m, ty, .vec e (zan l i (l2.take n))⟩)], [], [], id :: idC c⟩) none
          | none => none
        | _, _ => none
      | some (.row id), some c => match s.get id, s.list c with
        | some ⟨true, m, ty, .vec e l⟩, some ⟨f, l2⟩ => match zbK f e l2 with
          | some l2 => cond (pd.elIs et e && zjX et tu.k c) (k ⟨o.dst, .u (.c (.int (min l2.length l.length : Nat))), [(id, ⟨true, m, ty, .vec e (zan l 0 (l2.take l.length))⟩)], [], [], id :: idC c⟩) none
          | none => none
        | _, _ => none
      | some (.asl i1 o1 e n1), some (.asl i2 o2 f n2) => match s.get i1, s.get i2 with
        | some ⟨rw, m, ty, .lit l1⟩, some ⟨_, _, _, .lit l2⟩ => cond (pd.elIs et e && (Nat.beq e.idx f.idx && (zjX et tu.k (.asl i2 o2 f n2) && (Nat.blt 0 (min n2 n1) && (Nat.ble (o1 + n1 * e.size) l1.length && (Nat.ble (o2 + n2 * e.size) l2.length && zgt ((l2.drop o2).take (min n2 n1 * e.size))))))))
            (k ⟨o.dst, .u (.c (.int (min n2 n1 : Nat))), [(i1, ⟨rw, m, ty, .lit (zan l1 o1 ((l2.drop o2).take (min n2 n1 * e.size)))⟩)], [], [], [i1, i2]⟩) none
        | _, _ => none
      | _, _ => none
    | _, _ => none
  | _, _, _ => none
def zm8 (t : TypeId) (x : Operand) : Option (El × TypeId) :=
  match x with
  | .const (.slice none 0 0) => match pd.ti t with
    | some ⟨.slice et, _, _, _⟩ => match pd.el et with
      | some e => some (e, et)
      | none => none
    | _ => none
  | _ => none
def opK1 (o : Oper) (s : St) (k : Eff -> Option R) : Option R :=
  match o.op with
  | .move x | .assign x => match zm8 pd o.type x with
    | some (e, et) => k ⟨o.dst, .u (.c (.row (site o))), [(site o, ⟨true, 0, et, .vec e []⟩)], [], [site o], []⟩
    | none => val o (pd.ev o.type s x) [] k
  | .pick c a b => match (pd.ev 4 s c).bool? with
    | some t => cond t (val o (pd.ev o.type s a) [] k) (val o (pd.ev o.type s b) [] k)
    | none => none
  | .alloc t => match cond (pd.pos t) (pd.zero t) none with
    | some u => match abU pd (site o + 1) u with
      | some (u', obs, n) => match pd.newOb t u' with
        | some (g, x) => must g (k ⟨o.dst, .u (.c (.ptr (site o) 0 0)), obs ++ [(site o, x)], [], List.range' (site o) (n - site o), []⟩)
        | none => none
      | none => none
    | none => none
  | .box t x => match pd.ev t s x with
    | .u u => match cond (u.solid && pd.pos t) (pd.newOb t u) none with
      | some (g, x) => must g (k ⟨o.dst, .u (.c (.ptr (site o) 0 0)), [(site o, x)], [], [site o], []⟩)
      | none => none
    | _ => none
  | .load t a => match (pd.ev 0 s a).c? with
    | some (.ptr id i sub) => match s.get id with
      | some x => match zgq pd t x i sub with
        | some (g, u) => must g (val o (.u u) [id] k)
        | none => none
      | none => none
    | some (.rop e l i sub) => match zdB pd t 0 e l i sub with
      | some (g, u) => must g (val o (.u u) [] k)
      | none => none
    | some (.rtp l i sub) => match pd.ti t with
      | some ti => cond (Nat.ble (sub + ti.size) 3) (match pd.mkU t (((l.getD i Tn.zero).c.drop sub).take ti.size) with
        | some u => val o (.u u) [] k
        | none => none) none
      | none => none
    | _ => none
  | .store t a x => match (pd.ev 0 s a).c?, pd.ev t s x with
    | some (.ptr id i sub), .u u => match s.get id with
      | some y => match cond u.solid (zdC pd t y i sub u) none with
        | some (g, o') => must g (k ⟨o.dst, .dead, [(id, ⟨y.row, y.n, y.ty, o'⟩)], [], [], [id]⟩)
        | none => none
      | none => none
    | _, _ => none
  | .nilCheck x => match pd.ev o.type s x with
    | .u (.c (.ptr id i sub)) => val o (.u (.c (.ptr id i sub))) [] k
    | .u (.c (.rop e l i sub)) => val o (.u (.c (.rop e l i sub))) [] k
    | .u (.c (.rtp l i sub)) => val o (.u (.c (.rtp l i sub))) [] k
    | _ => none
  | .binOp op t x y t' => match pd.ev t s x, pd.ev t' s y with
    | .u (.c a), .u (.c b) => match op with
      | .quo => match a, b with
        | .int a, .int b => must (!eqI b 0) (val o (.u (.c (.int (wr (a.tdiv b))))) [] k)
        | .u64 a, .u64 b => must (!(b == 0)) (val o (.u (.c (.u64 (a / b)))) [] k)
        | .u8 a, .u8 b => must (!(b == 0)) (val o (.u (.c (.u8 (a / b)))) [] k)
        | _, _ => none
      | .rem => match a, b with
        | .int a, .int b => must (!eqI b 0) (val o (.u (.c (.int (a.tmod b)))) [] k)
        | .u64 a, .u64 b => must (!(b == 0)) (val o (.u (.c (.u64 (a % b)))) [] k)
        | .u8 a, .u8 b => must (!(b == 0)) (val o (.u (.c (.u8 (a % b)))) [] k)
        | _, _ => none
      | .shl => match b with
        | .int n => must (leI 0 n) (match binC .shl a (.u64 (UInt64.ofNat n.toNat)) with | some c => must (ltI n 18446744073709551616) (val o (.u (.c c)) [] k) | none => none)
        | b => match binC .shl a b with | some c => val o (.u (.c c)) [] k | none => none
      | .shr => match b with
        | .int n => must (leI 0 n) (match binC .shr a (.u64 (UInt64.ofNat n.toNat)) with | some c => must (ltI n 18446744073709551616) (val o (.u (.c c)) [] k) | none => none)
        | b => match binC .shr a b with | some c => val o (.u (.c c)) [] k | none => none
      | op => match zwb pd t op a b with
        | some c => val o (.u (.c c)) [] k
        | none => cond (zyA pd t a b) (match binC op a b with | some c => val o (.u (.c c)) [] k | none => none) none
    | .u (.vec e l), .u (.vec f m) => match zbK f e m with
      | some m => match eqV pd t e l m with
        | some (g, b) => match op with
          | .eql => must g (val o (.u (.c (.bool b))) [] k)
          | .neq => must g (val o (.u (.c (.bool (!b)))) [] k)
          | _ => none
        | none => none
      | none => none
    | .u (.agg l), .u (.agg m) => match eqA pd t l m with
      | some b => match op with
        | .eql => val o (.u (.c (.bool b))) [] k
        | .neq => val o (.u (.c (.bool (!b)))) [] k
        | _ => none
      | none => none
    | _, _ => none
  | .unOp op t x => match op, (pd.ev t s x).c? with
    | .not, some (.bool b) => val o (.u (.c (.bool (!b)))) [] k
    | .xor, some (.u64 a) => val o (.u (.c (.u64 (~~~a)))) [] k
    | .xor, some (.u32 a) => val o (.u (.c (.u32 (~~~a)))) [] k
    | .neg, some (.int a) => val o (.u (.c (.int (wr (0 - a))))) [] k
    | .neg, some (.u64 a) => val o (.u (.c (.u64 (0 - a)))) [] k
    | _, _ => none
  | .convert src dst x => match pd.ti src, pd.ti dst, (pd.ev src s x).c? with
    | some _, some ⟨.int kd, _, _, _⟩, some c => match zta kd c with
      | some d => val o (.u (.c d)) [] k
      | none => none
    | some ⟨.slice et, _, _, _⟩, some ⟨.str, _, _, _⟩, some c => match pd.ti et with
      | some ⟨.int .u8, _, _, _⟩ => match s.list c with
        | some ⟨.u8, l⟩ => cond (zpm c) none (val o (.u (.c (.str l))) (idC c) k)
        | _ => none
      | _ => none
    | _, _, _ => none
  | .sliceToArrayPointer t x => match pd.ti t, (pd.ev 0 s x).c? with
    | some ⟨.arr n _, _, _, _⟩, some c => match c with
      | .row id => match s.get id with
        | some ⟨true, _, _, .vec _ l⟩ => cond (Nat.blt 0 n) (must (leI n l.length) (val o (.u (.c (.ptr id 0 0))) [id] k)) none
        | _ => none
      | .sl id i m => match s.get id with
        | some ⟨_, _, _, .vec _ _⟩ => cond (Nat.blt 0 n) (must (leI n m) (val o (.u (.c (.ptr id i 0))) [id] k)) none
        | _ => none
      | .ro e l => cond (Nat.blt 0 n) (must (leI n l.length) (val o (.u (.c (.rop e l 0 0))) [] k)) none
      | _ => none
    | _, _ => none
  | .makeSlice t n m => match pd.ti t, lenI (pd.ev 3 s n).c?, lenI (pd.ev 3 s m).c? with
    | some ⟨.slice et, _, _, _⟩, some n, some m => match pd.ti et, pd.el et with
      | some ei, some e => must (leI 0 n && (eqI n m && (Nat.blt 0 ei.bytes && leN (n.toNat * ei.bytes) 140737488355328)))
          (match env 5000000 with
            | none => k ⟨o.dst, .u (.c (.row (site o))), [(site o, ⟨true, 0, et, .vec e (List.replicate n.toNat e.zero)⟩)], [], [site o], []⟩
            | some _ => k ⟨o.dst, .u (.c (.slc (site o) 0 n.toNat n.toNat)), [(site o, ⟨false, 0, 0, .vec e (List.replicate n.toNat e.zero)⟩)], [], [site o], []⟩)
      | _, _ => none
    | _, _, _ => none
  | .slice t x lo hi none => match (pd.ev t s x).c?, optI pd s lo, optI pd s hi with
    | some c, some l, some h => match pd.part t s c l h with
      | some (g, d) => must g (val o (.u (.c d)) (idC c) k)
      | none => none
    | _, _, _ => none
  | .fieldAddr t x f => match pd.ti t, (pd.ev 0 s x).c? with
    | some ⟨.struct fs, _, _, _⟩, some c => match fs[f]? with
      | some (off, ft) => match pd.ti ft with
        | some fi => match c with
          | .ptr id i sub => match s.get id with
            | some y => cond (Nat.blt 0 fi.size && Nat.blt (sub + off) y.o.sz) (val o (.u (.c (.ptr id i (sub + off)))) [id] k) none
            | none => none
          | .rop e l i sub => cond (Nat.blt 0 fi.size && Nat.blt (sub + off) e.size) (val o (.u (.c (.rop e l i (sub + off)))) [] k) none
          | .rtp l i sub => cond (Nat.blt 0 fi.size && Nat.blt (sub + off) 3) (val o (.u (.c (.rtp l i (sub + off)))) [] k) none
          | _ => none
        | none => none
      | none => none
    | _, _ => none
  | .field t x f => match pd.ti t, pd.ev t s x with
    | some ⟨.struct fs, _, _, _⟩, .u (.agg l) => match fs[f]? with
      | some (off, ft) => match pd.ti ft with
        | some fi => match pd.mkU ft ((l.drop off).take fi.size) with
          | some u => cond (Nat.ble (off + fi.size) l.length) (val o (.u u) [] k) none
          | none => none
        | none => none
      | none => none
    | _, _ => none
  | .indexAddr t x i => match (pd.ev t s x).c?, (pd.ev 3 s i).int? with
    | some c, some n => match pd.brn t s c with
      | some m => zgr m 0 n fun j => match pd.idx t s c j with
        | some (g, d) => must g (val o (.u (.c d)) (idC c) k)
        | none => none
      | none => match pd.idx t s c n with
        | some (g, d) => must g (val o (.u (.c d)) (idC c) k)
        | none => none
    | _, _ => none
  | .index t x i => match pd.ti t, pd.ev t s x, (pd.ev 3 s i).int? with
    | some ⟨.arr n et, _, _, _⟩, .u (.vec e l), some j => match cond (pd.elIs et e) (pd.mkU et (e.toC (l.getD j.toNat e.zero))) none with
      | some u => must (leI 0 j && (ltI j n && ltI j l.length)) (val o (.u u) [] k)
      | none => none
    | some ⟨.arr n et, _, _, _⟩, .u (.agg l), some j => match pd.ti et with
      | some ei => cond (Nat.ble (n * ei.size) l.length) (zgr n 0 j fun c => match pd.mkU et ((l.drop (c * ei.size)).take ei.size) with
        | some u => val o (.u u) [] k
        | none => none) none
      | none => none
    | some ⟨.str, _, _, _⟩, .u (.c (.str l)), some j => must (leI 0 j && ltI j l.length) (val o (.u (.c (.u8 (l.getD j.toNat 0)))) [] k)
    | _, _, _ => none
  | .build t parts => match pd.ti t with
    | some ⟨.struct fs, sz, _, z⟩ => match abCs pd (site o) z with
      | some (z', obs, n) => match oneV pd t s sz fs z'.length parts.toList with
        | some (g, u) => must g (k ⟨o.dst, .u u, obs, [], List.range' (site o) (n - site o), []⟩)
        | none => match zaR pd s sz (fun i => fs[i]?) parts.toList with
          | some ps => match pd.mkU t (zdY z' ps) with
            | some u => k ⟨o.dst, .u u, obs, [], List.range' (site o) (n - site o), []⟩
            | none => none
          | none => none
      | none => none
    | some ⟨.arr _ et, sz, _, z⟩ => match pd.ti et with
      | some ei => match abCs pd (site o) z with
        | some (z', obs, n) => match zaR pd s sz (fun i => some (i * ei.size, et)) parts.toList with
          | some ps => match pd.mkU t (zdY z' ps) with
            | some u => k ⟨o.dst, .u u, obs, [], List.range' (site o) (n - site o), []⟩
            | none => none
          | none => none
        | none => none
      | none => none
    | _ => none
  | .buildSlice t n parts => match pd.ti t with
    | some ⟨.slice et, _, _, _⟩ => match pd.ti et, pd.el et with
      | some ei, some e => match zaR pd s (n * ei.size) (fun i => some (i * ei.size, et)) parts.toList with
        | some ps => match zd1 e n (zdY (flat e (List.replicate n e.zero)) ps) with
          | some l => cond (Nat.ble (n * ei.size) 4096) (k ⟨o.dst, .u (.c (.row (site o))), [(site o, ⟨true, 0, et, .vec e l⟩)], [], [site o], []⟩) none
          | none => none
        | none => none
      | some ei, none => match zaR pd s (n * ei.size) (fun i => some (i * ei.size, et)) parts.toList with
        | some ps => cond (Nat.beq ei.size 1 && (Nat.blt et PIN && (Nat.blt 0 n && Nat.ble n 4096))) (k ⟨o.dst, .u (.c (.asl (site o) 0 .u64 n)), [(site o, ⟨false, 0, et, .lit (zdY (List.replicate n .dead) ps)⟩)], [], [site o], []⟩) none
        | none => none
      | _, _ => none
    | _ => none
  | .extract x i => match pd.ev 0 s x with
    | .tup l => match l[i]? with
      | some u => val o (.u u) [] k
      | none => none
    | _ => none
  | .call ⟨.builtin b, args, ts⟩ => zbu pd b args.toList ts.toList o s k
  | .call ⟨.value (.func f), args, ts⟩ => zeu pd env f args.toList ts.toList o s k
  | _ => none
def opK (o : Oper) (s : St) (k : Eff -> Option R) : Option R :=
  match o.op with
  | .binOp _ _ _ _ _ => opK1 pd env o s fun f => k f.hide
  | .unOp _ _ _ => opK1 pd env o s fun f => k f.hide
  | .convert _ _ _ => opK1 pd env o s fun f => k f.hide
  | _ => opK1 pd env o s k
theorem zau (o : Oper) (s : St) (k : Eff -> Option R) : opK pd env o s k = opK1 pd env o s k := by
  unfold opK
  split <;> simp only [Eff.hide_eq]
end
end
section
def zcC : List Operand -> List Nat
  | [] => []
  | .tmp t :: l => t :: zcC l
  | _ :: l => zcC l
def Oper.slots (ops : List Oper) (o : Oper) : List Nat :=
  match o.guard with
  | none => zcC o.op.operands.toList
  | some (j, _) => match ops[j]? with
    | some ⟨some d, _, _, _, _, _⟩ => d :: zcC o.op.operands.toList
    | _ => zcC o.op.operands.toList
def keys : List (Nat × Ob) -> List Nat
  | [] => []
  | (id, _) :: l => id :: keys l
def zbr (id : Nat) : List (Nat × Ob) -> Bool
  | [] => false
  | (j, x) :: l => cond (Nat.beq j id) true (cond (x.o.men id) true (zbr id l))
def zb3 (id : Nat) : List V -> Bool
  | [] => false
  | v :: l => cond (v.men id) true (zb3 id l)
def St.men (s : St) (id : Nat) : Bool := cond (zb3 id s.tm) true (zbr id s.ob)
def Eff.men (f : Eff) (id : Nat) : Bool := cond (f.v.men id) true (zbr id f.put)
def Eff.writes (f : Eff) : List Nat := keys f.put ++ (f.del ++ f.new)
def zwd (d : Option Nat) (l : List Nat) : Bool := match d with | some d => memN d l | none => false
def zlv : Option Nat -> Option Nat -> Bool
  | some a, some b => Nat.beq a b
  | _, _ => false
def isAd (o : Oper) : Bool := match o.op with
  | .move _ => true
  | .assign _ => true
  | .fieldAddr _ _ _ => true
  | .indexAddr _ _ _ => true
  | .slice _ _ _ _ none => true
  | .call ⟨.builtin .len, _, _⟩ => true
  | _ => false
def zd7 (o : Oper) : Bool := match o.op with
  | .store _ _ _ => true
  | _ => false
def zgu (id : Nat) : List Oper -> List Eff -> Bool
  | o :: os, f :: fs => cond (memN id (f.del ++ f.new)) false (cond (memN id (keys f.put)) (cond (zd7 o) (zgu id os fs) false) (zgu id os fs))
  | _, _ => true
def zi1 (ops : List Oper) (s : St) (fs : List Eff) (id : Nat) : Bool := match s.get id with
  | some _ => zgu id ops fs
  | none => false
def zjY (wk : Nat -> Bool) (ad : Bool) (f g : Eff) (gs : List Nat) : Bool :=
  cond (zwd f.dst gs) true (cond (anyN (fun i => cond (memN i g.writes) true (cond (memN i g.rd) (cond ad (!wk i) true) false)) f.writes) true (anyN g.men f.new))
def zpo (wk : Nat -> Bool) (ops : List Oper) (o p : Oper) (f g : Eff) : Bool :=
  cond (zlv f.dst g.dst) true (cond (zjY wk (isAd p) f g (Oper.slots ops p)) true (zjY wk (isAd o) g f (Oper.slots ops o)))
def zi2 (done : List Nat) : List Edge -> Nat
  | [] => 0
  | e :: l => cond (Region.binds .any e) (Nat.lor (Nat.lor (2 ^ e.on) (done.getD e.on 0)) (zi2 done l)) (zi2 done l)
def befs (done : List Nat) : List Oper -> List Nat
  | [] => done
  | o :: l => befs (done ++ [zi2 done o.after.toList]) l
def zcV (i : Nat) : List Edge -> Bool
  | [] => true
  | e :: l => cond (Region.binds .any e) (cond (Nat.blt e.on i) (zcV i l) false) (zcV i l)
def zgv (i : Nat) : List Oper -> Bool
  | [] => true
  | o :: l => cond (zcV i o.after.toList) (zgv (i + 1) l) false
def zhQ (wk : Nat -> Bool) (ops : List Oper) (i : Nat) (o : Oper) (f : Eff) : List Oper -> List Eff -> List Nat -> Bool
  | p :: ps, g :: gs, b :: bs => cond (Nat.testBit b i) (cond (anyN f.men g.new) false (zhQ wk ops i o f ps gs bs)) (cond (zpo wk ops o p f g) false (zhQ wk ops i o f ps gs bs))
  | _, _, _ => true
def pairs (wk : Nat -> Bool) (ops : List Oper) (i : Nat) : List Oper -> List Eff -> List Nat -> Bool
  | o :: ps, f :: gs, _ :: bs => cond (zhQ wk ops i o f ps gs bs) (pairs wk ops (i + 1) ps gs bs) false
  | _, _, _ => true
def zjZ (s : St) : List Eff -> Bool
  | [] => true
  | f :: l => cond (anyN s.men f.new) false (zjZ s l)
def zi3 (ops : List Oper) (s : St) (fs : List Eff) : Bool :=
  cond (zgv 0 ops) (cond (zjZ s fs) (pairs (zi1 ops s fs) ops 0 ops fs (befs [] ops)) false) false
section
variable {R : Type} (pd : PD) (env : Nat -> Option Sg)
def zpp (o : Oper) (s : St) : Option (Nat × Nat × Int) :=
  match o.op with
  | .indexAddr t x (.tmp ti) => match (pd.ev t s x).c?, s.tm.getD ti .dead with
    | some c, .u (.c (.int n)) => match pd.brn t s c with
      | some m => some (ti, m, n)
      | none => none
    | _, _ => none
  | .index t x (.tmp ti) => match pd.ti t, pd.ev t s x, s.tm.getD ti .dead with
    | some ⟨.arr n _, _, _, _⟩, .u (.agg _), .u (.c (.int j)) => some (ti, n, j)
    | _, _, _ => none
  | _ => none
def zlw (ti : Nat) : List Oper -> Option Nat
  | [] => none
  | o :: l => match o.dst, o.op with
    | some d, .move (.tmp tj) => cond (Nat.beq d ti) (some tj) (zlw ti l)
    | _, _ => zlw ti l
def zpq (ops : List Oper) (s : St) (ti : Nat) : Option (Nat × Int) :=
  match zlw ti ops with
  | some tj => match s.tm.getD tj .dead with
    | .u (.c (.int n)) => some (tj, n)
    | _ => none
  | none => none
def zpr (ti : Nat) : List Oper -> Option Op
  | [] => none
  | o :: l => match o.dst with
    | some d => cond (Nat.beq d ti) (some o.op) (zpr ti l)
    | none => zpr ti l
def zvo (ops : List Oper) (x : Nat) : Nat := match zpr x ops with
  | some (.move (.tmp y)) => y
  | _ => x
def zwe (ops : List Oper) (a b : Op) : Bool :=
  match a, b with
  | .binOp .quo _ (.tmp x) (.const (.int _ n)) _, .binOp .quo _ (.tmp y) (.const (.int _ m)) _ => Nat.beq (zvo ops x) (zvo ops y) && decide (n = m)
  | _, _ => false
def zm9 (op : Op) (ops : List Oper) (stop : Option Nat) : List Oper -> Option Nat
  | [] => none
  | p :: l => cond (match p.dst, stop with | some a, some b => Nat.beq a b | _, _ => false) none
    (match p.op with
      | .indexAddr _ _ (.tmp tj) => match zpr tj ops with
        | some q => cond (zwe ops op q) (some tj) (zm9 op ops stop l)
        | none => zm9 op ops stop l
      | _ => zm9 op ops stop l)
def zBC (ops : List Oper) (o : Oper) (s : St) (ti : Nat) : Option Int :=
  match zpr ti ops with
  | some op => match zm9 op ops o.dst ops with
    | some tj => match s.tm.getD tj .dead with
      | .u (.c (.int n)) => some n
      | _ => none
    | none => none
  | none => none
def opS (ops : List Oper) (o : Oper) (s : St) (k : St -> Eff -> Option R) : Option R :=
  match zpp pd o s with
  | some (ti, m, n) => match zBC ops o s ti with
   | some n2 => must (eqI n n2) (opK pd env o ⟨setV s.tm ti (.u (.c (.int n2))), s.ob⟩ (k ⟨setV s.tm ti (.u (.c (.int n2))), s.ob⟩))
   | none => match zpq ops s ti with
    | some (tj, n2) => zgr m 0 n fun c => must (eqI n2 c) (opK pd env o ⟨setV (setV s.tm ti (.u (.c (.int c)))) tj (.u (.c (.int c))), s.ob⟩ (k ⟨setV (setV s.tm ti (.u (.c (.int c)))) tj (.u (.c (.int c))), s.ob⟩))
    | none => zgr m 0 n fun c => opK pd env o ⟨setV s.tm ti (.u (.c (.int c))), s.ob⟩ (k ⟨setV s.tm ti (.u (.c (.int c))), s.ob⟩)
  | none => opK pd env o s (k s)
def opG (ops : List Oper) (o : Oper) (s : St) (k : St -> Eff -> Option R) : Option R :=
  match o.guard with
  | none => opS pd env ops o s k
  | some (j, want) => match ops[j]? with
    | some ⟨some d, _, _, _, _, _⟩ => match (s.tm.getD d .dead).bool? with
      | some b => cond b
          (cond want (opS pd env ops o ⟨setV s.tm d (.u (.c (.bool true))), s.ob⟩ k)
            (k ⟨setV s.tm d (.u (.c (.bool true))), s.ob⟩ ⟨o.dst, .tup [], [], [], [], []⟩))
          (cond want (k ⟨setV s.tm d (.u (.c (.bool false))), s.ob⟩ ⟨o.dst, .tup [], [], [], [], []⟩)
            (opS pd env ops o ⟨setV s.tm d (.u (.c (.bool false))), s.ob⟩ k))
      | none => match s.tm.getD d .dead with
        | .tup [] => k s ⟨o.dst, .tup [], [], [], [], []⟩
        | _ => none
    | _ => none
def zi4 (s : St) : List Nat -> List Nat
  | [] => []
  | t :: l => s.deep (s.tm.getD t .dead).ids ++ zi4 s l
def rdOf (s : St) (o : Oper) : List Nat := match o.op with
  | .move _ => []
  | op => zi4 s (zcC op.operands.toList)
def opsK (ops : List Oper) : List Oper -> St -> List Eff -> (St -> List Eff -> Option R) -> Option R
  | [], s, acc, k => k s acc.reverse
  | o :: l, s, acc, k => opG pd env ops o s fun s f => cond (anyN s.men f.new) none (opsK ops l (f.app s) (⟨f.dst, f.v, f.put, f.del, f.new, rdOf s o⟩ :: acc) k)
def zna (o p : Oper) : Option (TypeId × Nat × Nat × Nat) :=
  match o.guard, p.guard, o.dst, o.op, p.op with
  | none, none, some d, .convert t u (.tmp x), .call ⟨.value (.func f), args, _⟩ => match args.toList with
    | [.tmp e] => cond (Nat.beq t u && Nat.beq d e) (some (t, x, d, f)) none
    | _ => none
  | _, _, _, _, _ => none
def fzAt : List Oper -> Nat -> Option Nat
  | o :: l, i => match l with
    | p :: _ => match zna o p with
      | some _ => some i
      | none => fzAt l (i + 1)
    | [] => none
  | [], _ => none
def fzK (t : TypeId) (x d f : Nat) (p : Oper) (s : St) (k : St -> Option R) : Option R :=
  match pd.ti t with
  | some ⟨.slice et, _, _, _⟩ => match pd.ti et, s.tm.getD x .dead with
    | some ⟨.int .u8, _, _, _⟩, .u (.c (.row id)) => match s.get id with
      | some ⟨true, _, _, .vec .u8 l⟩ => must (ltN 0 l.length) (match env f with
        | some g => cond (Nat.blt f 1000000 && (Nat.beq g.mode 0 && Nat.blt d s.tm.length)) ((g.run [.c (.ro .u8 l)]).bind fun r => match abV pd (site p) (g.res r) with
          | some (v, obs, n) =>
            cond (anyN (St.men ⟨setV (St.kill ⟨s.tm, zbL id s.ob⟩ id).tm d .dead, (St.kill ⟨s.tm, zbL id s.ob⟩ id).ob⟩) (List.range' (site p) (n - site p))) none
              (k ((⟨p.dst, v, obs, [], List.range' (site p) (n - site p), []⟩ : Eff).app ⟨setV (St.kill ⟨s.tm, zbL id s.ob⟩ id).tm d .dead, (St.kill ⟨s.tm, zbL id s.ob⟩ id).ob⟩))
          | none => none) none
        | none => none)
      | _ => none
    | _, _ => none
  | _ => none
def zps (ops : List Oper) (i : Nat) (s : St) (k : St -> Option R) : Option R :=
  opsK pd env ops (ops.take i) s [] fun s _ => match ops.drop i with
    | o :: p :: rest => match zna o p with
      | some (t, x, d, f) => fzK pd env t x d f p s fun s => opsK pd env ops rest s [] fun s _ => k s
      | none => none
    | _ => none
def zpt (ops : List Oper) (draw : Bool) (s : St) (k : St -> Option R) : Option R :=
  match cond draw none (fzAt ops 0) with
  | some i => zps pd env ops i s k
  | none => opsK pd env ops ops s [] fun s' fs => cond draw (cond (zi3 ops s fs) (k s') none) (k s')
def zdd (s : St) : List Oper -> List Nat
  | [] => []
  | o :: l => match o.op with
    | .move x | .assign x => (match zm8 pd o.type x with
      | some _ => cond (s.men (site o)) (site o :: zdd s l) (zdd s l)
      | none => zdd s l)
    | _ => zdd s l
def zlx (ops : List Oper) (draw : Bool) (s : St) (k : St -> Option R) : Option R :=
  zpt pd env ops draw (s.kills (zdd pd s ops)) k
inductive Ex where
  | normal
  | exit (id : Nat)
  | goto (l : Nat)
  | fall
def zi5 : Code -> Nat
  | .region id _ _ => id
  | .seq a _ => zi5 a
  | .block _ c => zi5 c
  | .scope c => zi5 c
  | .cond _ a _ => zi5 a
  | .loop c => zi5 c
  | .label _ => 0
  | _ => 999
abbrev Kn (R : Type) := Ex -> St -> Option R
abbrev Lp (R : Type) := Nat -> Code -> St -> Kn R -> Option R
def ztb (l : Nat) : List Code -> Bool
  | [] => true
  | c :: r => match findLabel c l with
    | none => ztb l r
    | some _ => false
def Kn.seq (f : St -> Option R) (k : Kn R) : Kn R := fun e s => match e with
  | .normal => f s
  | e => k e s
def Kn.block (id : Nat) (k : Kn R) : Kn R := fun e s => match e with
  | .exit j => cond (Nat.beq j id) (k .normal s) (k (.exit j) s)
  | e => k e s
def Kn.again (l : Nat) (k : Kn R) : Kn R := fun e s => match e with
  | .goto m => cond (Nat.beq m l) (k .normal s) (k (.goto m) s)
  | .normal => k .fall s
  | e => k e s
def Kn.fall (k : Kn R) : Kn R := fun e s => match e with
  | .fall => k .normal s
  | e => k e s
def zcW : List Code -> Code -> Option Nat
  | pre, .seq a b => match a with
    | .label l => cond (ztb l pre) (some l) none
    | a' => zcW (a' :: pre) b
  | _, _ => none
def Kn.noGoto (k : Kn R) : Kn R := fun e s => match e with
  | .goto _ => none
  | e => k e s
abbrev Sm (R : Type) := St -> Kn R -> Option R
def ex2 (ret : St -> Option R) (lp : Lp R) : Code -> Sm R × Sm R
  | .skip => (fun s k => k .normal s, fun _ _ => none)
  | .region _ ops draw => (fun s k => zlx pd env ops.toList draw s (k .normal), fun _ _ => none)
  | .seq a b => (fun s k => (ex2 ret lp a).1 s (Kn.seq (fun s => (ex2 ret lp b).1 s k) k),
      fun s k => match a with
        | .label l => lp (1000 + l) b s (Kn.fall k)
        | _ => (ex2 ret lp a).1 s (Kn.seq (fun s => (ex2 ret lp b).2 s k) k))
  | .cond c x y => (fun s k => match (pd.ev 4 s c).bool? with
      | some t => cond t ((ex2 ret lp x).1 s k) ((ex2 ret lp y).1 s k)
      | none => none, fun _ _ => none)
  | .block id c => (fun s k => (ex2 ret lp c).1 s (Kn.block id k), fun _ _ => none)
  | .loop c => (fun s k => cond (Nat.blt (zi5 c) 1000) (lp (zi5 c) c s k) none, fun _ _ => none)
  | .exit id => (fun s k => k (.exit id) s, fun _ _ => none)
  | .goto l => (fun s k => k (.goto l) s, fun _ _ => none)
  | .label _ => (fun s k => k .normal s, fun _ _ => none)
  | .ret => (fun s _ => ret s, fun _ _ => none)
  | .scope c => (fun s k => match zcW [] c with
      | some _ => (ex2 ret lp c).2 s (Kn.noGoto k)
      | none => none, fun _ _ => none)
  | .rangeFunc _ _ _ _ => (fun _ _ => none, fun _ _ => none)
  | .refuse _ => (fun _ _ => none, fun _ _ => none)
def exec (ret : St -> Option R) (lp : Lp R) (c : Code) : Sm R := (ex2 pd env ret lp c).1
def zcJ (keep : List Nat) : Nat -> List V -> List V
  | _, [] => []
  | i, v :: l => cond (memN i keep) v .dead :: zcJ keep (i + 1) l
def addN : List Nat -> List Nat -> List Nat
  | acc, [] => acc
  | acc, n :: l => cond (memN n acc) (addN acc l) (addN (acc ++ [n]) l)
def zly (acc : List Nat) : List V -> List Nat
  | [] => acc
  | v :: l => zly (addN acc v.ids) l
def zde (ob : List (Nat × Ob)) : List Nat -> List Nat -> List Nat
  | acc, [] => acc
  | acc, id :: l => match look id ob with
    | some x => zde ob (addN acc x.o.ids) l
    | none => zde ob acc l
def zd2 (ob : List (Nat × Ob)) (base : Nat) : List Nat -> List (Nat × Nat)
  | [] => []
  | id :: l => match look id ob with
    | some _ => (id, base) :: zd2 ob (base + 1) l
    | none => zd2 ob base l
def renC (m : List (Nat × Nat)) : C -> C
  | .row id => match look id m with | some j => .row j | none => .dead
  | .sl id i n => match look id m with | some j => .sl j i n | none => .dead
  | .slc id i n c => match look id m with | some j => .slc j i n c | none => .dead
  | .ptr id i n => match look id m with | some j => .ptr j i n | none => .dead
  | .asl id i e n => match look id m with | some j => .asl j i e n | none => .dead
  | c => c
def zn9 (m : List (Nat × Nat)) : List C -> List C
  | [] => []
  | c :: l => renC m c :: zn9 m l
def renU (m : List (Nat × Nat)) : U -> U
  | .c x => .c (renC m x)
  | .agg l => .agg (zn9 m l)
  | u => u
def zwf (m : List (Nat × Nat)) : List U -> List U
  | [] => []
  | c :: l => renU m c :: zwf m l
def renV (m : List (Nat × Nat)) : V -> V
  | .u x => .u (renU m x)
  | .tup l => .tup (zwf m l)
  | .dead => .dead
def zj0 (m : List (Nat × Nat)) : List V -> List V
  | [] => []
  | c :: l => renV m c :: zj0 m l
def renO (m : List (Nat × Nat)) : O -> O
  | .lit l => .lit (zn9 m l)
  | o => o
def zj1 (ob : List (Nat × Ob)) (m : List (Nat × Nat)) : List (Nat × Nat) -> List (Nat × Ob)
  | [] => []
  | (i, j) :: l => match look i ob with
    | some x => (j, ⟨x.row, x.n, x.ty, renO m x.o⟩) :: zj1 ob m l
    | none => zj1 ob m l
def zev : List (Nat × Ob) -> List Nat
  | [] => []
  | (id, x) :: l => cond (!x.row && Nat.ble PIN x.ty) (addN (zev l) [id]) (zev l)
def norm (kp : List Nat) (key : Nat) (s : St) : St :=
  let tm := zcJ kp 0 s.tm
  let i0 := zly (zev s.ob) tm
  let i1 := zde s.ob i0 i0
  let i2 := zde s.ob i1 i1
  let m := zd2 s.ob (1000000 * (key + 1)) i2
  ⟨zj0 m tm, zj1 s.ob m m⟩
def zar {X : Type} (b : (X -> Option R) -> X -> Option R) : Nat -> X -> Option R
  | 0, _ => none
  | n + 1, x => b (zar b n) x
def Kc {X : Type} (dec : St -> Option X) (nm : St -> St) (out : Ex -> Bool) (A E : X -> Option R) : Kn R := fun e s => match e with
  | .normal => (match dec (nm s) with | some x => A x | none => none)
  | e => cond (out e) (match dec (nm s) with | some x => E x | none => none) none
def rsUK (s : St) (u : U) (k : U -> Option R) : Option R :=
  match u with
  | .c x => match rsR pd s x with
    | some (g, y) => must g (k (.c y))
    | none => none
  | .agg l => zfc pd s l fun r => k (.agg r)
  | .vec e l => k (.vec e l)
  | .box _ => none
def zi6 (s : St) : List U -> (List U -> Option R) -> Option R
  | [], k => k []
  | u :: l, k => rsUK pd s u fun d => zi6 s l fun r => k (d :: r)
def endV (s : St) : List ResultVar -> Option (List U)
  | [] => some []
  | x :: l => match (match x with
      | .tmp t => (match s.tm.getD t .dead with | .u u => some u | _ => none)
      | .cell a t => (match s.tm.getD a .dead with
        | .u (.c (.ptr id i sub)) => (match s.get id with
          | some y => (match zgq pd t y i sub with | some (g, u) => cond g (some u) none | none => none)
          | none => none)
        | _ => none)) with
    | some u => match endV s l with
      | some r => some (u :: r)
      | none => none
    | none => none
def zdv (fn : Func) (prj : List U -> Option R) (s : St) : Option R :=
  match endV pd s fn.results.toList with
  | some us => match us with
    | [.c (.ptr id 0 0)] => match s.get id with
      | some ⟨false, n, _, o⟩ => match o with
        | .lit l => cond (Nat.blt 0 l.length && zgs (id :: idCs l)) (zfc pd s l fun r => prj [.box [], .agg r]) none
        | .vec e l => cond (Nat.blt 0 n) (prj [.box [.len n], .vec e l]) none
      | _ => none
    | us => cond (zgs (idUs us)) (zi6 pd s us prj) none
  | none => none
def endK (ret : St -> Option R) : Kn R := fun e s => match e with
  | .normal => ret s
  | _ => none
def znb : List (Nat × Ob) -> Option Nat
  | [] => none
  | (id, x) :: l => cond (!x.row && Nat.ble PIN x.ty) (some id) (znb l)
def O.u : O -> U
  | .lit l => .agg l
  | .vec e l => .vec e l
def zdf (fn : Func) (prj : List U -> Option R) (s : St) : Option R :=
  match znb s.ob with
  | some id => match s.get id with
    | some ⟨false, _, ty, o⟩ => cond (Nat.ble PIN ty) (match endV pd s fn.results.toList with
      | some us => cond (zgs (idUs (o.u :: us)) && !memN id (idUs (o.u :: us))) (zi6 pd s (o.u :: us) prj) none
      | none => none) none
    | _ => none
  | none => none
def zj2 (mode : Nat) (u : U) : Option (C × Nat × O × List (Nat × Ob)) :=
  match u with
  | .vec e l => cond (Nat.beq mode 1) (some (.sl 0 0 l.length, 0, .vec e l, [])) (cond (Nat.beq mode 2) (some (.ptr 0 0 0, l.length, .vec e l, [])) (cond (Nat.blt 100 mode) (some (.ptr 0 0 0, mode - 100, .vec e l, [])) none))
  | .agg l => cond (Nat.beq mode 3) (match abCs pd 1 l with
    | some (ds, obs, _) => some (.ptr 0 0 0, 0, .lit ds, obs)
    | none => none) none
  | _ => none
def zlz (mode : Nat) (u : U) (us : List U) (n : Nat) : Option St :=
  match zj2 pd mode u with
  | some (c, k, o, obs) => some ⟨setV ((.dead :: us.map .u) ++ List.replicate (n - (us.length + 1)) .dead) 0 (.u (.c c)),
      za5 0 ⟨false, k, PIN, o⟩ (St.puts ⟨(.dead :: us.map .u) ++ List.replicate (n - (us.length + 1)) .dead, []⟩ obs).ob⟩
  | none => none
def zlA (fn : Func) (mode : Nat) (prj : List U -> Option R) (lp : Lp R) (args : List U) : Option R :=
  match args with
  | u :: us => match fn.body with
    | some c => match zlz pd mode u us fn.ntmps with
      | some s => exec pd env (zdf pd fn prj) lp c s (endK (zdf pd fn prj))
      | none => none
    | none => none
  | [] => none
def lenD (s : St) (ids : List Nat) : List C -> List C
  | [] => []
  | c :: l => (match c with
    | .row id => cond (memN id ids) (match s.get id with
      | some ⟨true, _, _, .vec _ m⟩ => .len m.length
      | _ => .row id) (.row id)
    | c => c) :: lenD s ids l
def zyB (ty : Nat) : List (Nat × Ob) -> Option Nat
  | [] => none
  | (id, x) :: l => cond (!x.row && Nat.beq ty x.ty) (some id) (zyB ty l)
def zfI (s : St) : Nat -> Nat -> Option (List (Nat × List C))
  | _, 0 => some []
  | i, n + 1 => match zyB (PIN + i) s.ob with
    | some id => match s.get id with
      | some ⟨false, _, ty, .lit l⟩ => cond (Nat.beq ty (PIN + i)) (match zfI s (i + 1) n with
        | some r => some ((id, l) :: r)
        | none => none) none
      | _ => none
    | none => none
def zj3 (s : St) (ids : List Nat) : List (Nat × List C) -> List U
  | [] => []
  | p :: l => .agg (lenD s ids p.2) :: zj3 s ids l
def disj (l : List (Nat × List C)) (m : List Nat) : Bool := match l with
  | [] => true
  | p :: l => cond (memN p.1 m) false (disj l m)
def zew (fn : Func) (n : Nat) (prj : List U -> Option R) (s : St) : Option R :=
  match zfI s 0 n, endV pd s fn.results.toList with
  | some ps, some us => cond (zgs (idUs (zj3 s (idUs us) ps ++ us)) && disj ps (idUs (zj3 s (idUs us) ps ++ us))) (zi6 pd s (zj3 s (idUs us) ps ++ us) prj) none
  | _, _ => none
def zex (fn : Func) (s : St) : Bool :=
  match zfI s 0 1, endV pd s fn.results.toList with
  | some [(_, m)], some [.agg q] => match zn7 m, zn7 q with
    | some (.row i), some (.row j) => Nat.beq i j
    | _, _ => false
  | _, _ => false
def zd8 (fn : Func) (mode : Nat) (prj : List U -> Option R) (s : St) : Option R :=
  cond (Nat.beq mode 7) (cond (zex pd fn s) (zew pd fn (cntM mode) prj s) none) (zew pd fn (cntM mode) prj s)
def ztc : Nat -> List U -> Option (List (List C) × List U)
  | 0, us => some ([], us)
  | n + 1, us => match us with
    | .agg l :: us => match ztc n us with
      | some (r, q) => some (l :: r, q)
      | none => none
    | _ => none
def zj4 : Nat -> Nat -> List V
  | _, 0 => []
  | i, n + 1 => .u (.c (.ptr i 0 0)) :: zj4 (i + 1) n
def catC : List (List C) -> List C
  | [] => []
  | l :: r => l ++ catC r
def zbv : Nat -> List (List C) -> List C -> List (Nat × Ob)
  | _, [], _ => []
  | i, l :: r, ds => (i, ⟨false, 0, PIN + i, .lit (ds.take l.length)⟩) :: zbv (i + 1) r (ds.drop l.length)
def zlB (mode : Nat) (args : List U) (n : Nat) : Option St :=
  match ztc (cntM mode) args with
  | some (ls, us) => match abCs pd (cntM mode) (catC ls) with
    | some (ds, obs, _) => some (St.puts ⟨zbC mode (zj4 0 (cntM mode) ++ us.map .u) ++ List.replicate (n - (cntM mode + us.length)) .dead, []⟩ (obs ++ zbv 0 ls ds))
    | none => none
  | none => none
def zlC (fn : Func) (mode : Nat) (prj : List U -> Option R) (lp : Lp R) (args : List U) : Option R :=
  match fn.body with
  | some c => match zlB pd mode args fn.ntmps with
    | some s => exec pd env (zd8 pd fn mode prj) lp c s (endK (zd8 pd fn mode prj))
    | none => none
  | none => none
def zpu (args : List U) (n : Nat) : Option St :=
  match args with
  | .agg l :: us => some ⟨setV ((.dead :: us.map .u) ++ List.replicate (n - (us.length + 1)) .dead) 0 (.u (.c (.ptr 0 0 0))), za5 0 ⟨false, 0, PIN, .lit l⟩ []⟩
  | _ => none
def zcp (fn : Func) (tk : Bool) (prj : List U -> Option R) (s : St) : Option R :=
  match zfI s 0 1, endV pd s fn.results.toList with
  | some [(id, m)], some us => cond (zet m && !memN id (idUs us)) (cond tk (match us with
      | [.c (.ro e q)] => must (errC m) (prj [.agg m, .c (.ro e q)])
      | [.c (.row id2)] => must (!errC m) (match rsC pd s (.row id2) with
        | some (g, .ro e q) => must g (prj [.agg m, .c (.ro e q)])
        | _ => none)
      | _ => none) (cond (zgs (idUs us)) (zi6 pd s us fun rs => prj (.agg m :: rs)) none)) none
  | _, _ => none
def zhR (fn : Func) (tk : Bool) (prj : List U -> Option R) (lp : Lp R) (args : List U) : Option R :=
  match fn.body with
  | some c => match zpu args fn.ntmps with
    | some s => exec pd env (zcp pd fn tk prj) lp c s (endK (zcp pd fn tk prj))
    | none => none
  | none => none
def zj5 (fn : Func) (prj : List U -> Option R) (lp : Lp R) (args : List U) : Option R :=
  match fn.body with
  | some c => exec pd env (zdv pd fn prj) lp c ⟨args.map .u ++ List.replicate (fn.ntmps - args.length) .dead, []⟩ (endK (zdv pd fn prj))
  | none => none
end
end
section
inductive CS where
  | u64 | u32 | u8 | int | bool | str
  | ro (e : El)
  | rt
  | row (id : Nat)
  | sl (id : Nat)
  | slc (id : Nat)
  | asl (id off n : Nat)
  | ptr (id sub : Nat)
  | ptr0 (id sub : Nat)
  | nilp | dead
inductive US where
  | c (x : CS)
  | agg (l : List CS)
  | vec (e : El)
  | fr
  | st (e : El)
inductive VS where
  | u (x : US)
  | dead
inductive OS where
  | lit (l : List CS)
  | vec (e : El)
  | fr
  | st (e : El)
def ztd : List UInt64 -> Option Fr
  | [a, b, c, d] => some ⟨a, b, c, d⟩
  | _ => none
def frL (x : Fr) : List UInt64 := [x.a0, x.a1, x.a2, x.a3]
theorem zpv {l : List UInt64} {x : Fr} (h : ztd l = some x) : l = frL x := by
  unfold ztd at h
  split at h
  . cases h; rfl
  . cases h
structure ObS where
  (row : Bool) (n : Nat) (ty : TypeId) (o : OS)
structure Shape where
  (n : Nat) (tm : List (Nat × VS)) (ob : List (Nat × ObS))
def CS.T : CS -> Type
  | .u64 => UInt64
  | .u32 => UInt32
  | .u8 => UInt8
  | .int => Int
  | .bool => Bool
  | .str => List UInt8
  | .ro e => List e.T
  | .rt => List Tn
  | .row _ => Unit
  | .sl _ => Nat × Nat
  | .slc _ => Nat × Nat
  | .asl _ _ _ => Unit
  | .ptr _ _ => Nat
  | .ptr0 _ _ => Unit
  | .nilp => Unit
  | .dead => Unit
def TCs : List CS -> Type
  | [] => Unit
  | c :: l => c.T × TCs l
def US.T : US -> Type
  | .c x => x.T
  | .agg l => TCs l
  | .vec e => List e.T
  | .fr => Fr
  | .st e => e.T
def VS.T : VS -> Type
  | .u x => x.T
  | .dead => Unit
def TVs : List (Nat × VS) -> Type
  | [] => Unit
  | v :: l => v.2.T × TVs l
def OS.T : OS -> Type
  | .lit l => TCs l
  | .vec e => List e.T
  | .fr => Fr
  | .st e => e.T
def TObs : List (Nat × ObS) -> Type
  | [] => Unit
  | x :: l => x.2.o.T × TObs l
def Shape.T (sh : Shape) : Type := TVs sh.tm × TObs sh.ob
def CS.enc : (c : CS) -> c.T -> C
  | .u64, x => .u64 x
  | .u32, x => .u32 x
  | .u8, x => .u8 x
  | .int, x => .int x
  | .bool, x => .bool x
  | .str, x => .str x
  | .ro e, x => .ro e x
  | .rt, x => .rt x
  | .row id, _ => .row id
  | .sl id, x => .sl id x.1 x.2
  | .slc id, x => .slc id 0 x.1 x.2
  | .asl id off n, _ => .asl id off .u64 n
  | .ptr id sub, x => .ptr id x sub
  | .ptr0 id sub, _ => .ptr id 0 sub
  | .nilp, _ => .nilp
  | .dead, _ => .dead
def zi7 : (l : List CS) -> TCs l -> List C
  | [], _ => []
  | c :: l, x => c.enc x.1 :: zi7 l x.2
def US.enc : (u : US) -> u.T -> U
  | .c y, x => .c (y.enc x)
  | .agg l, x => .agg (zi7 l x)
  | .vec e, x => .vec e x
  | .fr, x => .vec .u64 (frL x)
  | .st e, x => .agg (e.toC x)
def VS.enc : (v : VS) -> v.T -> V
  | .u y, x => .u (y.enc x)
  | .dead, _ => .dead
def zoa (b : List V) : (l : List (Nat × VS)) -> TVs l -> List V
  | [], _ => b
  | c :: l, x => setV (zoa b l x.2) c.1 (c.2.enc x.1)
def OS.enc : (o : OS) -> o.T -> O
  | .lit l, x => .lit (zi7 l x)
  | .vec e, x => .vec e x
  | .fr, x => .vec .u64 (frL x)
  | .st e, x => .lit (e.toC x)
def znc : (l : List (Nat × ObS)) -> TObs l -> List (Nat × Ob)
  | [], _ => []
  | (id, y) :: l, x => (id, ⟨y.row, y.n, y.ty, y.o.enc x.1⟩) :: znc l x.2
def Shape.enc (sh : Shape) (x : sh.T) : St := ⟨zoa (List.replicate sh.n .dead) sh.tm x.1, znc sh.ob x.2⟩
def C.u64? : C -> Option UInt64 | .u64 x => some x | _ => none
def C.u32? : C -> Option UInt32 | .u32 x => some x | _ => none
def C.u8? : C -> Option UInt8 | .u8 x => some x | _ => none
def C.int? : C -> Option Int | .int x => some x | _ => none
def C.bool? : C -> Option Bool | .bool x => some x | _ => none
def C.str? : C -> Option (List UInt8) | .str x => some x | _ => none
def C.ro? (e : El) : C -> Option (List e.T) | .ro f l => zbK f e l | _ => none
def C.rt? : C -> Option (List Tn) | .rt l => some l | _ => none
def C.row? (id : Nat) : C -> Option Unit | .row j => cond (Nat.beq j id) (some ()) none | _ => none
def C.sl? (id : Nat) : C -> Option (Nat × Nat) | .sl j a b => cond (Nat.beq j id) (some (a, b)) none | _ => none
def C.slc? (id : Nat) : C -> Option (Nat × Nat) | .slc j a b c => cond (Nat.beq j id && Nat.beq a 0) (some (b, c)) none | _ => none
def C.asl? (id off n : Nat) : C -> Option Unit | .asl j o e m => cond (Nat.beq j id && (Nat.beq o off && (Nat.beq m n && Nat.beq e.idx 0))) (some ()) none | _ => none
def C.ptr? (id sub : Nat) : C -> Option Nat | .ptr j i sub' => cond (Nat.beq j id && Nat.beq sub' sub) (some i) none | _ => none
def C.ptr0? (id sub : Nat) : C -> Option Unit | .ptr j i sub' => cond (Nat.beq j id && (Nat.beq i 0 && Nat.beq sub' sub)) (some ()) none | _ => none
def C.nilp? : C -> Option Unit | .nilp => some () | _ => none
def CS.dec (c : CS) (x : C) : Option c.T :=
  match c with
  | .u64 => x.u64?
  | .u32 => x.u32?
  | .u8 => x.u8?
  | .int => x.int?
  | .bool => x.bool?
  | .str => x.str?
  | .ro e => x.ro? e
  | .rt => x.rt?
  | .row id => x.row? id
  | .sl id => x.sl? id
  | .slc id => x.slc? id
  | .asl id off n => x.asl? id off n
  | .ptr id sub => x.ptr? id sub
  | .ptr0 id sub => x.ptr0? id sub
  | .nilp => x.nilp?
  | .dead => some ()
def zey : (l : List CS) -> List C -> Option (TCs l)
  | [], r => match r with
    | [] => some ()
    | _ :: _ => none
  | c :: l, r => match r with
    | [] => none
    | x :: r => match c.dec x with
      | some a => match zey l r with
        | some b => some (a, b)
        | none => none
      | none => none
def U.c? : U -> Option C | .c x => some x | _ => none
def U.agg? : U -> Option (List C) | .agg l => some l | _ => none
def U.vec? (e : El) : U -> Option (List e.T) | .vec f l => zbK f e l | _ => none
def US.dec (u : US) (x : U) : Option u.T :=
  match u with
  | .c y => match x.c? with
    | some x => y.dec x
    | none => none
  | .agg l => match x.agg? with
    | some r => zey l r
    | none => none
  | .vec e => x.vec? e
  | .fr => match x.vec? .u64 with
    | some l => ztd l
    | none => none
  | .st e => match x.agg? with
    | some r => e.ofC r
    | none => none
def V.u? : V -> Option U | .u x => some x | _ => none
def VS.dec (v : VS) (x : V) : Option v.T :=
  match v with
  | .u y => match x.u? with
    | some x => y.dec x
    | none => none
  | .dead => some ()
def zob (tm : List V) : (l : List (Nat × VS)) -> Option (TVs l)
  | [] => some ()
  | c :: l => match c.2.dec (tm.getD c.1 .dead) with
    | some a => match zob tm l with
      | some b => some (a, b)
      | none => none
    | none => none
def O.lit? : O -> Option (List C) | .lit l => some l | _ => none
def O.vec? (e : El) : O -> Option (List e.T) | .vec f l => zbK f e l | _ => none
def OS.dec (o : OS) (x : O) : Option o.T :=
  match o with
  | .lit l => match x.lit? with
    | some r => zey l r
    | none => none
  | .vec e => x.vec? e
  | .fr => match x.vec? .u64 with
    | some l => ztd l
    | none => none
  | .st e => match x.lit? with
    | some r => e.ofC r
    | none => none
def zhS : (l : List (Nat × ObS)) -> List (Nat × Ob) -> Option (TObs l)
  | [], r => match r with
    | [] => some ()
    | _ :: _ => none
  | (id, y) :: l, r => match r with
    | [] => none
    | (j, z) :: r => cond (Nat.beq j id && ((y.row == z.row) && (Nat.beq y.n z.n && Nat.beq y.ty z.ty))) (match y.o.dec z.o with
      | some a => match zhS l r with
        | some b => some (a, b)
        | none => none
      | none => none) none
def Shape.dec (sh : Shape) (s : St) : Option sh.T :=
  cond (Nat.beq s.tm.length sh.n) (match zob s.tm sh.tm with
    | some a => match zhS sh.ob s.ob with
      | some b => some (a, b)
      | none => none
    | none => none) none
def zlD : List (Nat × VS) -> List Nat
  | [] => []
  | p :: l => p.1 :: zlD l
def zwg (s : St) : V -> V
  | .u (.c (.row id)) => match s.get id with
    | some ⟨true, _, _, .vec _ l⟩ => .u (.c (.sl id 0 l.length))
    | _ => .u (.c (.row id))
  | v => v
def VS.isSl : VS -> Bool
  | .u (.c (.sl _)) => true
  | _ => false
def znd (s : St) : List (Nat × VS) -> List V -> List V
  | [], tm => tm
  | p :: l, tm => znd s l (cond p.2.isSl (setV tm p.1 (zwg s (tm.getD p.1 .dead))) tm)
def zBD (sh : Shape) (s : St) : St := ⟨znd s sh.tm s.tm, s.ob⟩
def Shape.norm (sh : Shape) (key : Nat) (s : St) : St := zBD sh (V.norm (zlD sh.tm) key s)
structure Head where
  sh : Shape
  out : Ex
def Ex.is : Ex -> Ex -> Bool
  | .exit i, .exit j => Nat.beq i j
  | .fall, .fall => true
  | _, _ => false
def zoc {R : Type} (key : Nat) (k : Kn R) : Kn R := cond (Nat.blt key 1000) k (Kn.again (key - 1000) k)
def zwh {R : Type} (L : (X : Type) -> ((X -> Option R) -> X -> Option R) -> Nat -> X -> Option R) (pd : PD) (env : Nat -> Option Sg) (ret : St -> Option R) (N : Nat) (lp : Lp R) (h : Head) (key : Nat) (c : Code) (s : St) (k : Kn R) : Option R :=
  match h.sh.dec (h.sh.norm key s) with
  | some x => L h.sh.T (fun A x => exec pd env ret lp c (h.sh.enc x) (zoc key (Kc h.sh.dec (h.sh.norm key) h.out.is A fun y => k h.out (h.sh.enc y)))) N x
  | none => none
def zyC {R : Type} (L : (X : Type) -> ((X -> Option R) -> X -> Option R) -> Nat -> X -> Option R) (pd : PD) (env : Nat -> Option Sg) (ret : St -> Option R) (N : Nat) (tab : List (Nat × Head)) : Nat -> Lp R
  | 0 => fun _ _ _ _ => none
  | d + 1 => fun key c s k => match look key tab with
    | some h => zwh L pd env ret N (zyC L pd env ret N tab d) h key c s k
    | none => none
def mkLp {R : Type} (pd : PD) (env : Nat -> Option Sg) (ret : St -> Option R) (N : Nat) (tab : List (Nat × Head)) (d : Nat) : Lp R := zyC (fun _ => zar) pd env ret N tab d
end
end Go.Proofs.Ytgimohchocjgcaa.V
