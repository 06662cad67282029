/- The evaluator's operations hand what they do to what comes next, and look at nothing of it. -/
import Derived.Test.YtgimohchocjgcaaVAE
set_option linter.unusedVariables false
set_option linter.unusedSimpArgs false
namespace Go.Proofs.Ytgimohchocjgcaa.V

variable {R : Type} {pd : PD} {env : Nat → Option Sg}

theorem val_bind (o : Oper) (v : V) (rd : List Nat) (k : Eff → Option R) : val o v rd k = (val o v rd some).bind k := rfl
theorem must_bind {A : Type} (g : Bool) (x : Option A) (k : A → Option R) : must g (x.bind k) = (must g x).bind k := by cases g <;> rfl
theorem cond_bind {A : Type} (g : Bool) (x : Option A) (k : A → Option R) : cond g (x.bind k) none = (cond g x none).bind k := by cases g <;> rfl
theorem cond_bind' {A : Type} (g : Bool) (x : Option A) (k : A → Option R) : cond g none (x.bind k) = (cond g none x).bind k := by cases g <;> rfl
theorem cond_bind2 {A : Type} (g : Bool) (x y : Option A) (k : A → Option R) : cond g (x.bind k) (y.bind k) = (cond g x y).bind k := by cases g <;> rfl
theorem pickN_bind {A : Type} (j : Int) (f : Nat → Option A) (k : A → Option R) : ∀ m i, pickN m i j (fun c => (f c).bind k) = (pickN m i j f).bind k
  | 0, _ => rfl
  | m + 1, i => by
    unfold pickN
    rw [pickN_bind j f k m (i + 1)]
    cases eqI j i <;> rfl

theorem rsCsK_bind {A B : Type} (s : St) (l : List C) (j : List C → Option A) (k : A → Option B) : rsCsK pd s l (fun m => (j m).bind k) = (rsCsK pd s l j).bind k := by
  induction l generalizing j with
  | nil => rfl
  | cons c l ih =>
    simp only [rsCsK]
    split
    · rw [ih fun r => j (_ :: r)]
      cases ‹Bool› <;> rfl
    · rfl

theorem handK_bind {A B : Type} (s : St) (mode : Nat) (c : C) (j : Nat → List Nat → U → Option A) (k : A → Option B) : handK pd s mode c (fun id rows u => (j id rows u).bind k) = (handK pd s mode c j).bind k := by
  unfold handK
  split
  · split
    · cases Nat.beq mode 1 <;> (try rfl)
      exact must_bind _ _ k
    · rfl
  · split
    · cases Nat.beq mode 2 <;> (try rfl)
      exact must_bind _ _ k
    · rename_i l _
      cases Nat.beq mode 3 <;> (try rfl)
      cases (Nat.blt 0 l.length && noDup (_ :: idCs l)) <;> (try rfl)
      exact rsCsK_bind _ _ _ k
    · rfl
  · rfl

theorem opCallIO_bind (g : Sg) (args : List Operand) (ts : List TypeId) (o : Oper) (s : St) (k : Eff → Option R) : opCallIO pd g args ts o s k = (opCallIO pd g args ts o s some).bind k := by
  unfold opCallIO
  split
  · split
    · rw [← handK_bind]
      congr 1
      funext id rows u0
      split
      · rename_i us _
        cases g.run (u0 :: us) with
        | none => rfl
        | some r =>
          simp only [Option.bind_some]
          split
          · split
            · split
              · exact must_bind _ (some _) k
              · rfl
            · rfl
          · rfl
      · rfl
    · rfl
  · rfl

theorem opCall_bind (fn : Nat) (args : List Operand) (ts : List TypeId) (o : Oper) (s : St) (k : Eff → Option R) : opCall pd env fn args ts o s k = (opCall pd env fn args ts o s some).bind k := by
  unfold opCall
  split
  · rename_i g hg
    cases Nat.beq g.mode 0 with
    | false => exact opCallIO_bind ..
    | true =>
      simp only [cond_true]
      split
      · rename_i us hus
        cases g.run us with
        | none => rfl
        | some r =>
          simp only [Option.bind_some]
          split <;> rfl
      · rfl
  · rfl

theorem opBuiltin_bind (b : Builtin) (args : List Operand) (ts : List TypeId) (o : Oper) (s : St) (k : Eff → Option R) : opBuiltin pd b args ts o s k = (opBuiltin pd b args ts o s some).bind k := by
  unfold opBuiltin
  repeat' (first | rfl | exact must_bind _ (some _) k | exact cond_bind _ (some _) k | (refine Eq.trans ?_ (cond_bind _ _ k); refine congrArg (cond _ · none) ?_) | (refine Eq.trans ?_ (cond_bind' _ _ k); refine congrArg (cond _ none ·) ?_) | split)

theorem opK_bind (o : Oper) (s : St) (k : Eff → Option R) : opK pd env o s k = (opK pd env o s some).bind k := by
  cases ho : o.op with
  | call c =>
    obtain ⟨cal, args, ts⟩ := c
    cases cal with
    | builtin b => simp only [opK_eq, opK1, ho]; exact opBuiltin_bind ..
    | value x =>
      cases x with
      | func fn => simp only [opK_eq, opK1, ho]; exact opCall_bind ..
      | _ => simp only [opK_eq, opK1, ho]; rfl
    | invoke r n => simp only [opK_eq, opK1, ho]; rfl
  | slice t x lo hi mx => cases mx <;> simp only [opK_eq, opK1, ho] <;> repeat' (first | rfl | exact must_bind _ (some _) k | split)
  | _ =>
    simp only [opK_eq, opK1, ho]
    repeat' first
      | rfl
      | exact must_bind _ (some _) k
      | exact cond_bind _ (some _) k
      | (refine Eq.trans ?_ (cond_bind _ _ k); refine congrArg (cond _ · none) ?_)
      | (refine Eq.trans ?_ (cond_bind' _ _ k); refine congrArg (cond _ none ·) ?_)
      | (refine Eq.trans ?_ (must_bind _ _ k); refine congrArg (must _ ·) ?_)
      | (refine Eq.trans ?_ (cond_bind2 _ _ _ k); refine congr (congrArg (cond _) ?_) ?_)
      | (refine Eq.trans ?_ (pickN_bind _ _ k _ _); refine congrArg (pickN _ _ _) (funext fun c => ?_))
      | split

/-- What comes next is handed what is done. -/
theorem opK_some {o : Oper} {s : St} {k : Eff → Option R} {r : R} (h : opK pd env o s k = some r) : ∃ f, opK pd env o s some = some f ∧ k f = some r := by
  rw [opK_bind] at h
  exact Option.bind_eq_some_iff.1 h

end Go.Proofs.Ytgimohchocjgcaa.V
