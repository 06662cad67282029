/- Kinds of arguments and results, and functions that take and give them. -/
import Derived.Test.YtgimohchocjgcaaVAP
set_option linter.unusedVariables false
set_option linter.unusedSimpArgs false
namespace Go.Proofs.Ytgimohchocjgcaa.V

/-- A kind of argument or result. -/
structure K where
  T : Type
  enc : T → U
  dec : U → Option T
  ok : ∀ u x, dec u = some x → u = enc x

def K.u64 : K := ⟨UInt64, fun x => .c (.u64 x), fun u => match u with | .c (.u64 x) => some x | _ => none, fun u x h => by split at h <;> cases h <;> rfl⟩
def K.u32 : K := ⟨UInt32, fun x => .c (.u32 x), fun u => match u with | .c (.u32 x) => some x | _ => none, fun u x h => by split at h <;> cases h <;> rfl⟩
def K.u8 : K := ⟨UInt8, fun x => .c (.u8 x), fun u => match u with | .c (.u8 x) => some x | _ => none, fun u x h => by split at h <;> cases h <;> rfl⟩
def K.int : K := ⟨Int, fun x => .c (.int x), fun u => match u with | .c (.int x) => some x | _ => none, fun u x h => by split at h <;> cases h <;> rfl⟩
def K.bool : K := ⟨Bool, fun x => .c (.bool x), fun u => match u with | .c (.bool x) => some x | _ => none, fun u x h => by split at h <;> cases h <;> rfl⟩
def K.str : K := ⟨List UInt8, fun x => .c (.str x), fun u => match u with | .c (.str x) => some x | _ => none, fun u x h => by split at h <;> cases h <;> rfl⟩

theorem castL_eq {f e : El} {l : List f.T} {m : List e.T} (h : castL f e l = some m) : ∃ p : f = e, m = p ▸ l := by
  cases f <;> cases e <;> first
    | (simp only [castL, Option.some.injEq] at h; subst h; exact ⟨rfl, rfl⟩)
    | (simp [castL] at h)

/-- A list of one's own. -/
def K.ro (e : El) : K := ⟨List e.T, fun l => .c (.ro e l), fun u => match u with | .c (.ro f l) => castL f e l | _ => none, fun u x h => by
  split at h
  · obtain ⟨p, q⟩ := castL_eq h
    subst p; subst q; rfl
  · cases h⟩

/-- The beginning of a list of one's own. -/
def K.view (e : El) : K := ⟨List e.T, fun l => .c (.rop e l 0 0), fun u => match u with | .c (.rop f l 0 0) => castL f e l | _ => none, fun u x h => by
  split at h
  · obtain ⟨p, q⟩ := castL_eq h
    subst p; subst q; rfl
  · cases h⟩

/-- An array. -/
def K.vec (e : El) : K := ⟨List e.T, fun l => .vec e l, fun u => match u with | .vec f l => castL f e l | _ => none, fun u x h => by
  split at h
  · obtain ⟨p, q⟩ := castL_eq h
    subst p; subst q; rfl
  · cases h⟩

def Fr.of? (l : List UInt64) : Option Fr := cond (Nat.beq l.length 4) (some ⟨l.getD 0 0, l.getD 1 0, l.getD 2 0, l.getD 3 0⟩) none
def Fr.l (x : Fr) : List UInt64 := [x.a0, x.a1, x.a2, x.a3]

theorem Fr.of_ok {l : List UInt64} {x : Fr} (h : Fr.of? l = some x) : l = x.l := by
  unfold Fr.of? at h
  cases hb : Nat.beq l.length 4 with
  | false => rw [hb] at h; cases h
  | true =>
    rw [hb] at h
    have hl := Nat.eq_of_beq_eq_true hb
    match l, hl with
    | [a, b, c, d], _ => cases h; rfl

/-- A scalar. -/
def K.fr : K := ⟨Fr, fun x => .vec .u64 x.l, fun u => match u with | .vec f l => (castL f .u64 l).bind Fr.of? | _ => none, fun u x h => by
  split at h
  · rename_i f l
    obtain ⟨m, h1, h2⟩ := Option.bind_eq_some_iff.1 h
    obtain ⟨p, q⟩ := castL_eq h1
    subst p; subst q
    rw [Fr.of_ok h2]
  · cases h⟩

theorem pFr_some {α : Type} {k : Fr → List C → Option α} {l : List C} {r : α} (h : pFr k l = some r) : ∃ x m, l = Fr.c x ++ m ∧ k x m = some r := by
  unfold pFr at h
  split at h
  · exact ⟨_, _, rfl, h⟩
  · cases h

theorem pInt_some {α : Type} {k : Int → List C → Option α} {l : List C} {r : α} (h : pInt k l = some r) : ∃ x m, l = .int x :: m ∧ k x m = some r := by
  unfold pInt at h
  split at h
  · exact ⟨_, _, rfl, h⟩
  · cases h

theorem pEnd_some {α : Type} {x r : α} {l : List C} (h : pEnd x l = some r) : l = [] ∧ x = r := by
  unfold pEnd at h
  split at h
  · cases h; exact ⟨rfl, rfl⟩
  · cases h

theorem ofC_toC {e : El} {l : List C} {x : e.T} (h : e.ofC l = some x) : l = e.toC x := by
  cases e with
  | u64 => simp only [El.ofC] at h; split at h <;> cases h; rfl
  | u32 => simp only [El.ofC] at h; split at h <;> cases h; rfl
  | u8 => simp only [El.ofC] at h; split at h <;> cases h; rfl
  | int => simp only [El.ofC] at h; split at h <;> cases h; rfl
  | bool => simp only [El.ofC] at h; split at h <;> cases h; rfl
  | fr =>
    obtain ⟨q, m, rfl, hq⟩ := pFr_some (show pFr (fun x => pEnd x) l = some x from h)
    obtain ⟨rfl, rfl⟩ := pEnd_some hq
    simp [El.toC]
  | row =>
    simp only [El.ofC] at h
    obtain ⟨q0, m1, rfl, h1⟩ := pFr_some h
    obtain ⟨q1, m2, rfl, h2⟩ := pFr_some h1
    obtain ⟨q2, m3, rfl, h3⟩ := pFr_some h2
    obtain ⟨q3, m4, rfl, h4⟩ := pFr_some h3
    obtain ⟨q4, m5, rfl, h5⟩ := pFr_some h4
    obtain ⟨q5, m6, rfl, h6⟩ := pFr_some h5
    obtain ⟨q6, m7, rfl, h7⟩ := pFr_some h6
    obtain ⟨q7, m8, rfl, h8⟩ := pFr_some h7
    obtain ⟨w0, m9, rfl, h9⟩ := pInt_some h8
    obtain ⟨w1, m10, rfl, h10⟩ := pInt_some h9
    obtain ⟨w2, m11, rfl, h11⟩ := pInt_some h10
    obtain ⟨rfl, rfl⟩ := pEnd_some h11
    simp [El.toC]
  | pair =>
    simp only [El.ofC] at h
    obtain ⟨w1, m12, rfl, h12⟩ := pInt_some h
    obtain ⟨w2, m13, rfl, h13⟩ := pInt_some h12
    obtain ⟨rfl, rfl⟩ := pEnd_some h13
    simp [El.toC]
  | step =>
    simp only [El.ofC] at h
    obtain ⟨w0, m14, rfl, h14⟩ := pInt_some h
    obtain ⟨w1, m15, rfl, h15⟩ := pInt_some h14
    obtain ⟨w2, m16, rfl, h16⟩ := pInt_some h15
    obtain ⟨w3, m17, rfl, h17⟩ := pInt_some h16
    obtain ⟨q0, m18, rfl, h18⟩ := pFr_some h17
    obtain ⟨q1, m19, rfl, h19⟩ := pFr_some h18
    obtain ⟨q2, m20, rfl, h20⟩ := pFr_some h19
    obtain ⟨q3, m21, rfl, h21⟩ := pFr_some h20
    obtain ⟨q4, m22, rfl, h22⟩ := pFr_some h21
    obtain ⟨rfl, rfl⟩ := pEnd_some h22
    simp [El.toC]

/-- A struct of scalars and numbers. -/
def K.st (e : El) : K := ⟨e.T, fun x => .agg (e.toC x), fun u => match u with | .agg l => e.ofC l | _ => none, fun u x h => by
  split at h
  · rw [ofC_toC h]
  · cases h⟩

/-- A cell's kind. -/
def K.c? : U → Option C
  | .c x => some x
  | _ => none

theorem K.c_ok {u : U} {x : C} (h : K.c? u = some x) : u = .c x := by
  cases u <;> simp [K.c?] at h; rw [h]

def decKs : (l : List CS) → List C → Option (TCs l) := decCs

/-- A struct of cells, none of them 'dead'. -/
def liveCS : CS → Bool
  | .u64 | .u32 | .u8 | .int | .bool | .str | .ro _ => true
  | _ => false

def liveCSs : List CS → Bool
  | [] => true
  | c :: l => cond (liveCS c) (liveCSs l) false

theorem castL_enc {f e : El} {l : List f.T} {m : List e.T} (h : castL f e l = some m) : C.ro f l = C.ro e m := by
  obtain ⟨p, q⟩ := castL_eq h
  subst p; subst q; rfl

theorem live_dec {c : CS} (hl : liveCS c = true) {x : C} {y : c.T} (h : c.dec x = some y) : x = c.enc y := by
  cases c <;> simp [liveCS] at hl
  case u64 => cases x <;> simp [CS.dec, C.u64?] at h; cases h; rfl
  case u32 => cases x <;> simp [CS.dec, C.u32?] at h; cases h; rfl
  case u8 => cases x <;> simp [CS.dec, C.u8?] at h; cases h; rfl
  case int => cases x <;> simp [CS.dec, C.int?] at h; cases h; rfl
  case bool => cases x <;> simp [CS.dec, C.bool?] at h; cases h; rfl
  case str => cases x <;> simp [CS.dec, C.str?] at h; cases h; rfl
  case ro e => cases x <;> simp [CS.dec, C.ro?] at h; exact castL_enc h

theorem live_decCs {l : List CS} (hl : liveCSs l = true) {xs : List C} {y : TCs l} (h : decCs l xs = some y) : xs = encCs l y := by
  induction l generalizing xs with
  | nil => rw [decCs_nil h]; rfl
  | cons c l ih =>
    unfold liveCSs at hl
    cases h1 : liveCS c with
    | false => rw [h1] at hl; cases hl
    | true =>
      rw [h1] at hl
      obtain ⟨x, r, p, q, rfl, rfl, h2, h3⟩ := decCs_cons h
      rw [live_dec h1 h2, ih hl h3]
      rfl

def K.agg (l : List CS) (hl : liveCSs l = true) : K := ⟨TCs l, fun x => .agg (encCs l x), fun u => match u with | .agg xs => decCs l xs | _ => none, fun u x h => by
  split at h
  · rw [live_decCs hl h]
  · cases h⟩

def TKs : List K → Type
  | [] => Unit
  | k :: l => k.T × TKs l

def encKs : (l : List K) → TKs l → List U
  | [], _ => []
  | k :: l, x => k.enc x.1 :: encKs l x.2

def decUs : (l : List K) → List U → Option (TKs l)
  | [], us => match us with
    | [] => some ()
    | _ :: _ => none
  | k :: l, us => match us with
    | [] => none
    | u :: r => match k.dec u with
      | some a => match decUs l r with
        | some b => some (a, b)
        | none => none
      | none => none

theorem decUs_ok {l : List K} {us : List U} {x : TKs l} (h : decUs l us = some x) : us = encKs l x := by
  induction l generalizing us with
  | nil => cases us with
    | nil => rfl
    | cons _ _ => cases h
  | cons k l ih =>
    cases us with
    | nil => cases h
    | cons u us =>
      simp only [decUs] at h
      split at h
      · rename_i a ha
        split at h
        · rename_i b hb
          cases h
          rw [k.ok _ _ ha, ih hb]
          rfl
        · cases h
      · cases h

/-- A function of such arguments. -/
def sgK (ps rs : List K) (f : TKs ps → Option (TKs rs)) : Sg := ⟨TKs rs, 0, fun us => match decUs ps us with | some x => f x | none => none, fun r => resOf (encKs rs r)⟩

theorem sgK_ok {P : Program} {pd : PD} (hp : PDok P pd) {env : Nat → Option Sg} (henv : ∀ f g, env f = some g → SgOK P pd.els f g) {n : FuncId} {fn : Func} (hf : P.funcs[n]? = some fn) (hname : fn.name ≠ "runtime.NumGoroutine")
    (ps rs : List K) (f : TKs ps → Option (TKs rs)) (N : Nat) (tab : List (Nat × Head)) (d : Nat)
    (hrun : ∀ x, runFn pd env fn (decUs rs) (mkLp pd env (finish pd fn (decUs rs)) N tab d) (encKs ps x) = f x) : SgOK P pd.els n (sgK ps rs f) := by
  refine fn_ok hp henv hf hname (sgK ps rs f) rfl (decUs rs) (fun us r h => ?_) N tab d (fun us r h => ?_)
  · rw [decUs_ok h]; rfl
  · simp only [sgK] at h
    split at h
    · rename_i x hx
      rw [decUs_ok hx]
      exact (hrun x).trans h
    · cases h

/-- A law's call. -/
theorem sgK_calls {P : Program} {pd : PD} (hp : PDok P pd) {env : Nat → Option Sg} (henv : ∀ f g, env f = some g → SgOK P pd.els f g) {n : FuncId} {fn : Func} (hf : P.funcs[n]? = some fn) (hname : fn.name ≠ "runtime.NumGoroutine")
    (ps : List K) (f : TKs ps → Option (TKs [K.bool])) (N : Nat) (tab : List (Nat × Head)) (d : Nat)
    (hrun : ∀ x, runFn pd env fn (decUs [K.bool]) (mkLp pd env (finish pd fn (decUs [K.bool])) N tab d) (encKs ps x) = f x) (hall : ∀ x, f x = some (true, ()))
    (x : TKs ps) (w : World) (vs : List Value) (ok : Nat → Prop) (hok : ∀ b, ok b → b < w.heap.size) (hh : HoldsUs w ok (encKs ps x) vs) :
    Calls P n vs.toArray w fun e w' => e = .returned (.bool true) ∧ Kept w w' := by
  have h := fn_calls (P := P) (pd := pd) hp henv hf hname ⟨TKs [K.bool], 0, fun us => runFn pd env fn (decUs [K.bool]) (mkLp pd env (finish pd fn (decUs [K.bool])) N tab d) us, fun r => resOf (encKs [K.bool] r)⟩ rfl (decUs [K.bool])
    (fun us r h => by rw [decUs_ok h]) N tab d (fun us r h => h) (us := encKs ps x) (r := (true, ())) ((hrun x).trans (hall x)) w vs ok hok hh
  refine h.mono fun e w' he => ?_
  cases e with
  | returned v =>
    obtain ⟨⟨gs, cs, h1, h2⟩, h3⟩ := he
    refine ⟨?_, h3⟩
    cases h1 with
    | c h4 =>
      cases h4
      cases h2 with
      | sc h5 _ => simp only [C.val, Option.some.injEq] at h5; subst h5; rfl
  | panicked ch => exact he.elim
  | outgrown => exact he.elim

/-- A function that something is handed over to: 'mode': how; the first of 'ps' and of 'rs': what that is, ahead and behind. -/
def sgIO (mode : Nat) (ps rs : List K) (f : TKs ps → Option (TKs rs)) : Sg := ⟨TKs rs, mode, fun us => match decUs ps us with | some x => f x | none => none, fun r => .tup (encKs rs r)⟩

theorem sgIO_ok {P : Program} {pd : PD} (hp : PDok P pd) {env : Nat → Option Sg} (henv : ∀ f g, env f = some g → SgOK P pd.els f g) {n : FuncId} {fn : Func} (hf : P.funcs[n]? = some fn) (hname : fn.name ≠ "runtime.NumGoroutine")
    (mode : Nat) (hmode : mode ≠ 0) (ps rs : List K) (f : TKs ps → Option (TKs rs)) (N : Nat) (tab : List (Nat × Head)) (d : Nat)
    (hrun : ∀ x, runFnIO pd env fn mode (decUs rs) (mkLp pd env (finishIO pd fn (decUs rs)) N tab d) (encKs ps x) = f x) : SgOK P pd.els n (sgIO mode ps rs f) := by
  refine fnIO_ok hp henv hf hname (sgIO mode ps rs f) hmode (decUs rs) (fun us r h => ?_) N tab d (fun us r h => ?_)
  · rw [decUs_ok h]; rfl
  · simp only [sgIO] at h
    split at h
    · rename_i x hx
      rw [decUs_ok hx]
      exact (hrun x).trans h
    · cases h

/-- All that is known of callees holds. -/
def EnvOK (P : Program) (els : List (Nat × El)) : List (Nat × Sg) → Prop
  | [] => True
  | p :: l => SgOK P els p.1 p.2 ∧ EnvOK P els l

theorem env_look {P : Program} {els : List (Nat × El)} {l : List (Nat × Sg)} (h : EnvOK P els l) (f : Nat) (g : Sg) (hl : look f l = some g) : SgOK P els f g := by
  induction l with
  | nil => cases hl
  | cons p l ih =>
    obtain ⟨m, x⟩ := p
    unfold look at hl
    cases hb : Nat.beq m f with
    | true =>
      rw [hb] at hl
      obtain rfl := Nat.eq_of_beq_eq_true hb
      cases hl
      exact h.1
    | false => rw [hb] at hl; exact ih h.2 hl

theorem name_ne {s : String} (h : (s == "runtime.NumGoroutine") = false) : s ≠ "runtime.NumGoroutine" := fun e => by rw [e] at h; simp at h

end Go.Proofs.Ytgimohchocjgcaa.V
