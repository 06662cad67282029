/- The evaluator's regions, loops, functions. -/
import Derived.Test.YtgimohchocjgcaaVB
namespace Go.Proofs.Ytgimohchocjgcaa.V

/-! ### Orders -/

def slotsOf : List Operand → List Nat
  | [] => []
  | .tmp t :: l => t :: slotsOf l
  | _ :: l => slotsOf l

/-- The slots that an operation reads. -/
def Oper.slots (ops : List Oper) (o : Oper) : List Nat :=
  match o.guard with
  | none => slotsOf o.op.operands.toList
  | some (j, _) => match ops[j]? with
    | some ⟨some d, _, _, _, _, _⟩ => d :: slotsOf o.op.operands.toList
    | _ => slotsOf o.op.operands.toList

def keys : List (Nat × Ob) → List Nat
  | [] => []
  | (id, _) :: l => id :: keys l

def menObs (id : Nat) : List (Nat × Ob) → Bool
  | [] => false
  | (j, x) :: l => cond (Nat.beq j id) true (cond (x.o.men id) true (menObs id l))

def menVs (id : Nat) : List V → Bool
  | [] => false
  | v :: l => cond (v.men id) true (menVs id l)

def St.men (s : St) (id : Nat) : Bool := cond (menVs id s.tm) true (menObs id s.ob)

def Eff.men (f : Eff) (id : Nat) : Bool := cond (f.v.men id) true (menObs id f.put)

def Eff.writes (f : Eff) : List Nat := keys f.put ++ (f.del ++ f.new)

def dstIn (d : Option Nat) (l : List Nat) : Bool := match d with | some d => memN d l | none => false

def sameDst : Option Nat → Option Nat → Bool
  | some a, some b => Nat.beq a b
  | _, _ => false

/-- What the one does is nothing to the other. -/
def clash1 (f : Eff) (g : Eff) (gs : List Nat) : Bool :=
  cond (dstIn f.dst gs) true (cond (anyN (fun i => memN i (g.rd ++ g.writes)) f.writes) true (anyN g.men f.new))

def clash (ops : List Oper) (o p : Oper) (f g : Eff) : Bool :=
  cond (sameDst f.dst g.dst) true (cond (clash1 f g (Oper.slots ops p)) true (clash1 g f (Oper.slots ops o)))

/-- Which operations come ahead of one, as bits. -/
def befOf (done : List Nat) : List Edge → Nat
  | [] => 0
  | e :: l => cond (Region.binds .any e) (Nat.lor (Nat.lor (2 ^ e.on) (done.getD e.on 0)) (befOf done l)) (befOf done l)

def befs (done : List Nat) : List Oper → List Nat
  | [] => done
  | o :: l => befs (done ++ [befOf done o.after.toList]) l

/-- All edges lead back. -/
def edgesBack (i : Nat) : List Edge → Bool
  | [] => true
  | e :: l => cond (Region.binds .any e) (cond (Nat.blt e.on i) (edgesBack i l) false) (edgesBack i l)

def allBack (i : Nat) : List Oper → Bool
  | [] => true
  | o :: l => cond (edgesBack i o.after.toList) (allBack (i + 1) l) false

/-- One operation against all behind it. -/
def pairs1 (ops : List Oper) (i : Nat) (o : Oper) (f : Eff) : List Oper → List Eff → List Nat → Bool
  | p :: ps, g :: gs, b :: bs => cond (Nat.testBit b i) (cond (anyN f.men g.new) false (pairs1 ops i o f ps gs bs)) (cond (clash ops o p f g) false (pairs1 ops i o f ps gs bs))
  | _, _, _ => true

def pairs (ops : List Oper) (i : Nat) : List Oper → List Eff → List Nat → Bool
  | o :: ps, f :: gs, _ :: bs => cond (pairs1 ops i o f ps gs bs) (pairs ops (i + 1) ps gs bs) false
  | _, _, _ => true

def noSel : List Oper → Bool
  | [] => true
  | o :: l => match o.op with | .select _ _ => false | _ => noSel l

def newsOK (s : St) : List Eff → Bool
  | [] => true
  | f :: l => cond (anyN s.men f.new) false (newsOK s l)

def orderOK (ops : List Oper) (s : St) (fs : List Eff) : Bool :=
  cond (allBack 0 ops) (cond (newsOK s fs) (pairs ops 0 ops fs (befs [] ops)) false) false

/-! ### Regions -/

section
variable {R : Type} (pd : PD) (env : Nat → Option Sg)

def opG (ops : List Oper) (o : Oper) (s : St) (k : St → Eff → Option R) : Option R :=
  match o.guard with
  | none => opK pd env o s (k s)
  | some (j, want) => match ops[j]? with
    | some ⟨some d, _, _, _, _, _⟩ => match (s.tm.getD d .dead).bool? with
      | some b => cond b
          (cond want (opK pd env o ⟨setV s.tm d (.u (.c (.bool true))), s.ob⟩ (k ⟨setV s.tm d (.u (.c (.bool true))), s.ob⟩))
            (k ⟨setV s.tm d (.u (.c (.bool true))), s.ob⟩ ⟨o.dst, .tup [], [], [], [], []⟩))
          (cond want (k ⟨setV s.tm d (.u (.c (.bool false))), s.ob⟩ ⟨o.dst, .tup [], [], [], [], []⟩)
            (opK pd env o ⟨setV s.tm d (.u (.c (.bool false))), s.ob⟩ (k ⟨setV s.tm d (.u (.c (.bool false))), s.ob⟩)))
      | none => match s.tm.getD d .dead with
        | .tup [] => k s ⟨o.dst, .tup [], [], [], [], []⟩
        | _ => none
    | _ => none

/-- The objects that the values in slots lead to. -/
def slotIds (s : St) : List Nat → List Nat
  | [] => []
  | t :: l => s.deep (s.tm.getD t .dead).ids ++ slotIds s l

def opsK (ops : List Oper) : List Oper → St → List Eff → (St → List Eff → Option R) → Option R
  | [], s, acc, k => k s acc.reverse
  | o :: l, s, acc, k => opG pd env ops o s fun s f => cond (anyN s.men f.new) none (opsK ops l (f.app s) (⟨f.dst, f.v, f.put, f.del, f.new, slotIds s (slotsOf o.op.operands.toList)⟩ :: acc) k)

def regionD (ops : List Oper) (draw : Bool) (s : St) (k : St → Option R) : Option R :=
  opsK pd env ops ops s [] fun s' fs => cond draw (cond (orderOK ops s fs) (k s') none) (k s')

/-- New lists that begin as nil, whose numbers are in use. -/
def nilSites (s : St) : List Oper → List Nat
  | [] => []
  | o :: l => match o.op with
    | .move x | .assign x => (match nilRow pd o.type x with
      | some _ => cond (s.men (site o)) (site o :: nilSites s l) (nilSites s l)
      | none => nilSites s l)
    | _ => nilSites s l

def regionK (ops : List Oper) (draw : Bool) (s : St) (k : St → Option R) : Option R :=
  regionD pd env ops draw (s.kills (nilSites pd s ops)) k

/-! ### Code -/

inductive Ex where
  | normal
  | exit (id : Nat)
  | goto (l : Nat)
  | fall

/-- A number that tells a loop. -/
def keyOf : Code → Nat
  | .region id _ _ => id
  | .seq a _ => keyOf a
  | .block _ c => keyOf c
  | .scope c => keyOf c
  | .cond _ a _ => keyOf a
  | .loop c => keyOf c
  | .label _ => 0
  | _ => 999

abbrev Kn (R : Type) := Ex → St → Option R
/-- What is known of loops: a loop's number and code, where it begins, what is behind it. -/
abbrev Lp (R : Type) := Nat → Code → St → Kn R → Option R

/-- Is a label on none of these spines? -/
def noLab (l : Nat) : List Code → Bool
  | [] => true
  | c :: r => match findLabel c l with
    | none => noLab l r
    | some _ => false

def Kn.seq (f : St → Option R) (k : Kn R) : Kn R := fun e s => match e with
  | .normal => f s
  | e => k e s

def Kn.block (id : Nat) (k : Kn R) : Kn R := fun e s => match e with
  | .exit j => cond (Nat.beq j id) (k .normal s) (k (.exit j) s)
  | e => k e s

/-- Of the body of a label: a jump to it goes round, its end falls out. -/
def Kn.again (l : Nat) (k : Kn R) : Kn R := fun e s => match e with
  | .goto m => cond (Nat.beq m l) (k .normal s) (k (.goto m) s)
  | .normal => k .fall s
  | e => k e s

def Kn.fall (k : Kn R) : Kn R := fun e s => match e with
  | .fall => k .normal s
  | e => k e s

/-- The label of a scope's code, if it has one of its own. -/
def spine : List Code → Code → Option Nat
  | pre, .seq a b => match a with
    | .label l => cond (noLab l pre) (some l) none
    | a' => spine (a' :: pre) b
  | _, _ => none

def Kn.noGoto (k : Kn R) : Kn R := fun e s => match e with
  | .goto _ => none
  | e => k e s

abbrev Sm (R : Type) := St → Kn R → Option R

/-- Code, as it runs; and as it runs as what is left of a scope's body. -/
def ex2 (ret : St → Option R) (lp : Lp R) : Code → Sm R × Sm R
  | .skip => (fun s k => k .normal s, fun _ _ => none)
  | .region _ ops draw => (fun s k => regionK pd env ops.toList draw s (k .normal), fun _ _ => none)
  | .seq a b => (fun s k => (ex2 ret lp a).1 s (Kn.seq (fun s => (ex2 ret lp b).1 s k) k),
      fun s k => match a with
        | .label l => lp (1000 + l) b s (Kn.fall k)
        | _ => (ex2 ret lp a).1 s (Kn.seq (fun s => (ex2 ret lp b).2 s k) k))
  | .cond c x y => (fun s k => match (pd.ev 4 s c).bool? with
      | some t => cond t ((ex2 ret lp x).1 s k) ((ex2 ret lp y).1 s k)
      | none => none, fun _ _ => none)
  | .block id c => (fun s k => (ex2 ret lp c).1 s (Kn.block id k), fun _ _ => none)
  | .loop c => (fun s k => cond (Nat.blt (keyOf c) 1000) (lp (keyOf c) c s k) none, fun _ _ => none)
  | .exit id => (fun s k => k (.exit id) s, fun _ _ => none)
  | .goto l => (fun s k => k (.goto l) s, fun _ _ => none)
  | .label _ => (fun s k => k .normal s, fun _ _ => none)
  | .ret => (fun s _ => ret s, fun _ _ => none)
  | .scope c => (fun s k => match spine [] c with
      | some _ => (ex2 ret lp c).2 s (Kn.noGoto k)
      | none => none, fun _ _ => none)
  | .rangeFunc _ _ _ _ => (fun _ _ => none, fun _ _ => none)
  | .refuse _ => (fun _ _ => none, fun _ _ => none)

def exec (ret : St → Option R) (lp : Lp R) (c : Code) : Sm R := (ex2 pd env ret lp c).1

/-! ### Loops -/

def clearV (keep : List Nat) : Nat → List V → List V
  | _, [] => []
  | i, v :: l => cond (memN i keep) v .dead :: clearV keep (i + 1) l

def addN : List Nat → List Nat → List Nat
  | acc, [] => acc
  | acc, n :: l => cond (memN n acc) (addN acc l) (addN (acc ++ [n]) l)

def idsOf (acc : List Nat) : List V → List Nat
  | [] => acc
  | v :: l => idsOf (addN acc v.ids) l

def moreIds (ob : List (Nat × Ob)) : List Nat → List Nat → List Nat
  | acc, [] => acc
  | acc, id :: l => match look id ob with
    | some x => moreIds ob (addN acc x.o.ids) l
    | none => moreIds ob acc l

def number (ob : List (Nat × Ob)) (base : Nat) : List Nat → List (Nat × Nat)
  | [] => []
  | id :: l => match look id ob with
    | some _ => (id, base) :: number ob (base + 1) l
    | none => number ob base l

def renC (m : List (Nat × Nat)) : C → C
  | .row id => match look id m with | some j => .row j | none => .dead
  | .sl id i n => match look id m with | some j => .sl j i n | none => .dead
  | .ptr id i n => match look id m with | some j => .ptr j i n | none => .dead
  | c => c

def renCs (m : List (Nat × Nat)) : List C → List C
  | [] => []
  | c :: l => renC m c :: renCs m l

def renU (m : List (Nat × Nat)) : U → U
  | .c x => .c (renC m x)
  | .agg l => .agg (renCs m l)
  | u => u

def renUs (m : List (Nat × Nat)) : List U → List U
  | [] => []
  | c :: l => renU m c :: renUs m l

def renV (m : List (Nat × Nat)) : V → V
  | .u x => .u (renU m x)
  | .tup l => .tup (renUs m l)
  | .dead => .dead

def renVs (m : List (Nat × Nat)) : List V → List V
  | [] => []
  | c :: l => renV m c :: renVs m l

def renO (m : List (Nat × Nat)) : O → O
  | .lit l => .lit (renCs m l)
  | o => o

def renObs (ob : List (Nat × Ob)) (m : List (Nat × Nat)) : List (Nat × Nat) → List (Nat × Ob)
  | [] => []
  | (i, j) :: l => match look i ob with
    | some x => (j, ⟨x.row, x.n, x.ty, renO m x.o⟩) :: renObs ob m l
    | none => renObs ob m l

/-- Objects that were handed over. -/
def pinIds : List (Nat × Ob) → List Nat
  | [] => []
  | (id, x) :: l => cond (!x.row && Nat.ble PIN x.ty) (addN (pinIds l) [id]) (pinIds l)

/-- What is known at a loop's head: these slots, and the objects that they lead to, numbered anew. -/
def norm (kp : List Nat) (key : Nat) (s : St) : St :=
  let tm := clearV kp 0 s.tm
  let i0 := idsOf (pinIds s.ob) tm
  let i1 := moreIds s.ob i0 i0
  let i2 := moreIds s.ob i1 i1
  let m := number s.ob (1000000 * (key + 1)) i2
  ⟨renVs m tm, renObs s.ob m m⟩

/-- Rounds, at most so many. -/
def loopN {X : Type} (b : (X → Option R) → X → Option R) : Nat → X → Option R
  | 0, _ => none
  | n + 1, x => b (loopN b n) x

/-- Behind a round of a loop: its head again, or the way out by 'id'. -/
def Kc {X : Type} (dec : St → Option X) (nm : St → St) (out : Ex → Bool) (A E : X → Option R) : Kn R := fun e s => match e with
  | .normal => (match dec (nm s) with | some x => A x | none => none)
  | e => cond (out e) (match dec (nm s) with | some x => E x | none => none) none

def isExit (id : Nat) : Ex → Bool
  | .exit j => Nat.beq j id
  | _ => false

def isFall : Ex → Bool
  | .fall => true
  | _ => false

/-! ### Functions -/

def rsUK (s : St) (u : U) (k : U → Option R) : Option R :=
  match u with
  | .c x => match rsC pd s x with
    | some (g, y) => must g (k (.c y))
    | none => none
  | .agg l => rsCsK pd s l fun r => k (.agg r)
  | .vec e l => k (.vec e l)
  | .box _ => none

def rsUsK (s : St) : List U → (List U → Option R) → Option R
  | [], k => k []
  | u :: l, k => rsUK pd s u fun d => rsUsK s l fun r => k (d :: r)

/-- The results, as they stand. -/
def endV (s : St) : List ResultVar → Option (List U)
  | [] => some []
  | x :: l => match (match x with
      | .tmp t => (match s.tm.getD t .dead with | .u u => some u | _ => none)
      | .cell a t => (match s.tm.getD a .dead with
        | .u (.c (.ptr id i sub)) => (match s.get id with
          | some y => (match readOb pd t y i sub with | some (g, u) => cond g (some u) none | none => none)
          | none => none)
        | _ => none)) with
    | some u => match endV s l with
      | some r => some (u :: r)
      | none => none
    | none => none

/-- A function's end: its results. -/
def finish (fn : Func) (prj : List U → Option R) (s : St) : Option R :=
  match endV pd s fn.results.toList with
  | some us => cond (noDup (idUs us)) (rsUsK pd s us prj) none
  | none => none

def endK (ret : St → Option R) : Kn R := fun e s => match e with
  | .normal => ret s
  | _ => none

/-- Where the object is that was handed over. -/
def firstPin : List (Nat × Ob) → Option Nat
  | [] => none
  | (id, x) :: l => cond (!x.row && Nat.ble PIN x.ty) (some id) (firstPin l)

def O.u : O → U
  | .lit l => .agg l
  | .vec e l => .vec e l

/-- A function's end, if something was handed over to it: what that is now, and the results. -/
def finishIO (fn : Func) (prj : List U → Option R) (s : St) : Option R :=
  match firstPin s.ob with
  | some id => match s.get id with
    | some ⟨false, _, ty, o⟩ => cond (Nat.ble PIN ty) (match endV pd s fn.results.toList with
      | some us => cond (noDup (idUs (o.u :: us)) && !memN id (idUs (o.u :: us))) (rsUsK pd s (o.u :: us) prj) none
      | none => none) none
    | _ => none
  | none => none

/-- What was handed over, as the callee has it: the first argument, the object, the lists in it. -/
def handIn (mode : Nat) (u : U) : Option (C × Nat × O × List (Nat × Ob)) :=
  match u with
  | .vec e l => cond (Nat.beq mode 1) (some (.sl 0 0 l.length, 0, .vec e l, [])) (cond (Nat.beq mode 2) (some (.ptr 0 0 0, l.length, .vec e l, [])) none)
  | .agg l => cond (Nat.beq mode 3) (match abCs pd 1 l with
    | some (ds, obs, _) => some (.ptr 0 0 0, 0, .lit ds, obs)
    | none => none) none
  | _ => none

def startIO (mode : Nat) (u : U) (us : List U) (n : Nat) : Option St :=
  match handIn pd mode u with
  | some (c, k, o, obs) => some ⟨setV ((.dead :: us.map .u) ++ List.replicate (n - (us.length + 1)) .dead) 0 (.u (.c c)),
      putOb 0 ⟨false, k, PIN, o⟩ (St.puts ⟨(.dead :: us.map .u) ++ List.replicate (n - (us.length + 1)) .dead, []⟩ obs).ob⟩
  | none => none

def runFnIO (fn : Func) (mode : Nat) (prj : List U → Option R) (lp : Lp R) (args : List U) : Option R :=
  match args with
  | u :: us => match fn.body with
    | some c => match startIO pd mode u us fn.ntmps with
      | some s => exec pd env (finishIO pd fn prj) lp c s (endK (finishIO pd fn prj))
      | none => none
    | none => none
  | [] => none

def runFn (fn : Func) (prj : List U → Option R) (lp : Lp R) (args : List U) : Option R :=
  match fn.body with
  | some c => exec pd env (finish pd fn prj) lp c ⟨args.map .u ++ List.replicate (fn.ntmps - args.length) .dead, []⟩ (endK (finish pd fn prj))
  | none => none

end
end Go.Proofs.Ytgimohchocjgcaa.V
