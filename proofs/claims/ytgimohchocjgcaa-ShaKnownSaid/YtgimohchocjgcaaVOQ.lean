import Derived.Test.YtgimohchocjgcaaVLAW
set_option linter.unusedVariables false
set_option linter.unusedSimpArgs false
namespace Go.Proofs.Ytgimohchocjgcaa.V
open Go.ChangeShapes Go.WideShapes Go.ChangeAt Go.RowKit
deriving instance DecidableEq for CS
section
variable {P : Program} {els : List (Nat × El)} {W : World} {H : Type} {enc : TypeId × Value → H}
end
structure KQ where
  k : K
  q : k.T → Prop
def TKQ : (l : List KQ) → TKs (l.map KQ.k) → Prop
  | [], _ => True
  | a :: l, x => a.q x.1 ∧ TKQ l x.2
def OpensQ (P : Program) (a : KQ) (t : TypeId) : Prop :=
  ∀ (H : Type) (enc : TypeId × Value → H) (W : World) (base : Nat) (v : Value) (d : DataW H) (p : List MemPlace), Value.okWide P W .any base t v → DataW.Trod enc P W 0 (fun _ => true) true t v d p →
    ∃ x : a.k.T, a.q x ∧ HoldsU W (fun b => b < W.heap.size) (a.k.enc x) v
def OpensAllQ (P : Program) : List KQ → List TypeId → Prop
  | [], [] => True
  | k :: ks, t :: ts => OpensQ P k t ∧ OpensAllQ P ks ts
  | _, _ => False
theorem opens_argsQ {P : Program} {H : Type} {enc : TypeId × Value → H} {W : World} {base : Nat} : ∀ {ks : List KQ} {ts : List TypeId} {vs : List Value} {ds : List (DataW H)} {p : List MemPlace}, OpensAllQ P ks ts → DataW.TrodAll enc P W 0 (fun _ => true) true ts vs ds p →
    (∀ (j : Nat) t v, ts[j]? = some t → vs[j]? = some v → Value.okWide P W .any base t v) → ∃ x : TKs (ks.map KQ.k), TKQ ks x ∧ HoldsUs W (fun b => b < W.heap.size) (encKs (ks.map KQ.k) x) vs
  | [], [], [], [], _, _, _, _ => ⟨(), trivial, trivial⟩
  | k :: ks, t :: ts, v :: vs, d :: ds, p, ho, ht, hv => by
    obtain ⟨p1, q1, h1, h2, _⟩ := ht
    obtain ⟨x, hx0, hx⟩ := ho.1 H enc W base v d p1 (hv 0 t v rfl rfl) h1
    obtain ⟨y, hy0, hy⟩ := opens_argsQ ho.2 h2 fun j t v hj hw => hv (j + 1) t v (by simpa using hj) (by simpa using hw)
    exact ⟨(x, y), ⟨hx0, hy0⟩, hx, hy⟩
  | [], _ :: _, _, _, _, ho, _, _ => ho.elim
  | _ :: _, [], _, _, _, ho, _, _ => ho.elim
  | [], [], _ :: _, _, _, _, ht, _ => by cases ht
  | [], [], [], _ :: _, _, _, ht, _ => by cases ht
  | _ :: _, _ :: _, [], _, _, _, ht, _ => by cases ht
  | _ :: _, _ :: _, _ :: _, [], _, _, ht, _ => by cases ht
def KQ.any (k : K) : KQ := ⟨k, fun _ => True⟩
def isAgg : TypeDesc → Bool
  | .struct _ => true
  | .array _ _ => true
  | _ => false
def KQ.vec (e : El) (n : Nat) : KQ := ⟨K.vec e, fun l => l.length = n⟩
theorem sgK_calls1 {P : Program} {pd : PD} (hp : PDok P pd) {env : Nat → Option Sg} (henv : ∀ f g, env f = some g → SgOK P pd.els f g) {n : FuncId} {fn : Func} (hf : P.funcs[n]? = some fn) (hname : fn.name ≠ "runtime.NumGoroutine")
    (ps : List K) (f : TKs ps → Option (TKs [K.bool])) (N : Nat) (tab : List (Nat × Head)) (d : Nat)
    (hrun : ∀ x, runFn pd env fn (decUs [K.bool]) (mkLp pd env (finish pd fn (decUs [K.bool])) N tab d) (encKs ps x) = f x)
    (x : TKs ps) (hx : f x = some (true, ())) (w : World) (vs : List Value) (ok : Nat → Prop) (hok : ∀ b, ok b → b < w.heap.size) (hh : HoldsUs w ok (encKs ps x) vs) :
    Calls P n vs.toArray w fun e w' => e = .returned (.bool true) ∧ Kept w w' := by
  have h := fn_calls (P := P) (pd := pd) hp henv hf hname ⟨TKs [K.bool], 0, fun us => runFn pd env fn (decUs [K.bool]) (mkLp pd env (finish pd fn (decUs [K.bool])) N tab d) us, fun r => resOf (encKs [K.bool] r)⟩ rfl (decUs [K.bool])
    (fun us r h => by rw [decUs_ok h]) N tab d (fun us r h => h) (us := encKs ps x) (r := (true, ())) ((hrun x).trans hx) w vs ok hok hh
  refine h.mono fun e w' he => ?_
  cases e with
  | returned v =>
    obtain ⟨⟨gs, cs, h1, h2⟩, h3⟩ := he
    refine ⟨?_, h3⟩
    cases h1 with
    | c h4 =>
      cases h4
      cases h2 with
      | sc h5 _ => simp only [C.val, Option.some.injEq] at h5; subst h5; rfl
  | panicked ch => exact he.elim
  | outgrown => exact he.elim
end Go.Proofs.Ytgimohchocjgcaa.V
