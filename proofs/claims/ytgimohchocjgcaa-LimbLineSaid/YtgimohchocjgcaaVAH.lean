/- Regions whose operations come one behind the other. -/
import Derived.Test.YtgimohchocjgcaaVAG
import Derived.Orders
set_option linter.unusedVariables false
set_option linter.unusedSimpArgs false
namespace Go.Proofs.Ytgimohchocjgcaa.V

variable {X : Ctx} {ρ : Nat → RI} {s : St} {a : Act} {w : World}

def Eff.core (f : Eff) : Eff := ⟨f.dst, f.v, f.put, f.del, f.new, []⟩

def Eff.none (o : Oper) : Eff := ⟨o.dst, .tup [], [], [], [], []⟩

/-- What a guard's slot holds. -/
def Guard (ops : List Oper) (o : Oper) (s : St) (b : Bool) : Prop :=
  ∃ j want p d, o.guard = some (j, want) ∧ ops[j]? = some p ∧ p.dst = some d ∧ (s.tm.getD d .dead = .u (.c (.bool (if b then want else !want))) ∨ (b = false ∧ s.tm.getD d .dead = .tup []))

/-- An operation, if it is wanted. -/
inductive Acts (pd : PD) (env : Nat → Option Sg) (ops : List Oper) (o : Oper) (s : St) (f : Eff) : Prop
  | run (f0 : Eff) : (o.guard = none ∨ Guard ops o s true) → opK pd env o s some = some f0 → f.core = f0.core → Acts pd env ops o s f
  | skip : Guard ops o s false → f.core = Eff.none o → Acts pd env ops o s f

theorem setV_self {l : List V} {d : Nat} {v : V} (h : l.getD d .dead = v) (hv : v ≠ .dead) : setV l d v = l := by
  induction l generalizing d with
  | nil => rfl
  | cons x l ih =>
    cases d with
    | zero => simp at h; simp [setV, h]
    | succ d => simp only [List.getD_cons_succ] at h; simp [setV, ih h]

theorem opG_some {pd : PD} {env : Nat → Option Sg} {R : Type} {ops : List Oper} {o : Oper} {s : St} {k : St → Eff → Option R} {r : R} (h : opG pd env ops o s k = some r) : ∃ f, k s f = some r ∧ Acts pd env ops o s f := by
  unfold opG at h
  split at h
  · rename_i hg
    obtain ⟨f, h1, h2⟩ := opK_some h
    exact ⟨f, h2, .run f (.inl hg) h1 rfl⟩
  · rename_i j want hg
    split at h
    · rename_i d op' ty pos aft gd hj
      split at h
      · rename_i b hb
        have hv := bool?_spec hb
        cases b with
        | true =>
          simp only [cond_true] at h
          rw [setV_self hv (by simp)] at h
          cases want with
          | true =>
            simp only [cond_true] at h
            obtain ⟨f, h1, h2⟩ := opK_some h
            exact ⟨f, h2, .run f (.inr ⟨j, true, _, d, hg, hj, rfl, .inl (by simpa using hv)⟩) h1 rfl⟩
          | false =>
            simp only [cond_false] at h
            exact ⟨_, h, .skip ⟨j, false, _, d, hg, hj, rfl, .inl (by simpa using hv)⟩ rfl⟩
        | false =>
          simp only [cond_false] at h
          rw [setV_self hv (by simp)] at h
          cases want with
          | true =>
            simp only [cond_true] at h
            exact ⟨_, h, .skip ⟨j, true, _, d, hg, hj, rfl, .inl (by simpa using hv)⟩ rfl⟩
          | false =>
            simp only [cond_false] at h
            obtain ⟨f, h1, h2⟩ := opK_some h
            exact ⟨f, h2, .run f (.inr ⟨j, false, _, d, hg, hj, rfl, .inl (by simpa using hv)⟩) h1 rfl⟩
      · split at h
        · rename_i hv
          exact ⟨_, h, .skip ⟨j, want, _, d, hg, hj, rfl, .inr ⟨rfl, hv⟩⟩ rfl⟩
        · cases h
    · cases h

theorem Sim.slot (h : Sim X ρ s a w) {d : Nat} {b : Bool} (hd : s.tm.getD d .dead = .u (.c (.bool b))) : a.tmps[d]? = some (.bool b) := by
  have hlt : d < s.tm.length := by
    rcases Nat.lt_or_ge d s.tm.length with h1 | h1
    · exact h1
    · rw [List.getD_eq_getElem?_getD, List.getElem?_eq_none h1] at hd; cases hd
  have hg : s.tm[d]? = some (.u (.c (.bool b))) := by
    rw [List.getD_eq_getElem?_getD, List.getElem?_eq_getElem hlt, Option.getD_some] at hd
    rw [List.getElem?_eq_getElem hlt, hd]
  have hv := h.tm d _ hg
  have hv2 := val_of_RC (X := X) (ρ := ρ) (c := .bool b) rfl hv
  have hlt2 : d < a.tmps.size := by rw [← h.sz]; exact hlt
  simp [hlt2] at hv2
  simp [hlt2, hv2]

theorem Guard.wanted (h : Sim X ρ s a w) {ops : Array Oper} {o : Oper} {b : Bool} (hg : Guard ops.toList o s b) : Region.wanted o (yielded ops a.tmps) = b := by
  obtain ⟨j, want, p, d, h1, h2, h3, h4⟩ := hg
  rw [Array.getElem?_toList] at h2
  rcases h4 with h4 | ⟨rfl, h4⟩
  · have h5 := h.slot h4
    simp only [Region.wanted, h1, yielded, h2, h3, Option.bind_some, h5]
    cases b <;> cases want <;> rfl
  · have hlt : d < s.tm.length := by
      rcases Nat.lt_or_ge d s.tm.length with h1 | h1
      · exact h1
      · rw [List.getD_eq_getElem?_getD, List.getElem?_eq_none h1] at h4; cases h4
    have hg : s.tm[d]? = some (.tup []) := by
      rw [List.getD_eq_getElem?_getD, List.getElem?_eq_getElem hlt, Option.getD_some] at h4
      rw [List.getElem?_eq_getElem hlt, h4]
    obtain ⟨vs, hv, hr⟩ := h.tm d _ hg
    have hlt2 : d < a.tmps.size := by rw [← h.sz]; exact hlt
    have h5 : a.tmps[d]? = some (.tuple vs) := by
      have : a.tmps[d]? = some a.tmps[d] := Array.getElem?_eq_getElem hlt2
      rw [this]
      simpa [hlt2] using hv
    simp only [Region.wanted, h1, yielded, h2, h3, Option.bind_some, h5]
    cases want <;> rfl

theorem core_app {f g : Eff} (h : f.core = g.core) (s : St) : f.app s = g.app s := by
  obtain ⟨a1, a2, a3, a4, a5, a6⟩ := f
  obtain ⟨b1, b2, b3, b4, b5, b6⟩ := g
  simp only [Eff.core, Eff.mk.injEq, and_true] at h
  obtain ⟨rfl, rfl, rfl, rfl, rfl⟩ := h
  rfl

theorem core_new {f g : Eff} (h : f.core = g.core) : f.new = g.new := by
  have := congrArg Eff.new h
  exact this

theorem Acts.wpOp (hp : PDok X.P X.pd) {env : Nat → Option Sg} (henv : ∀ f g, env f = some g → SgOK X.P X.pd.els f g) {ops : Array Oper} {i : Nat} {o : Oper} (hi : ops[i]? = some o) {f : Eff} (h : Sim X ρ s a w) (hf : Acts X.pd env ops.toList o s f) (hnew : anyN s.men f.new = false)
    {Q : Exit → Act → World → Prop} {K : Act → World → Prop} (hK : ∀ ρ' a' w', Sim X ρ' (f.app s) a' w' → K a' w') : wpOp X.P ops Q i K a w := by
  unfold Go.wpOp
  simp only [hi]
  cases hf with
  | run f0 hg hk hc =>
    have hw : Region.wanted o (yielded ops a.tmps) = true := by
      rcases hg with hg | hg
      · simp [Region.wanted, hg]
      · exact hg.wanted h
    rw [if_pos hw]
    left
    have := opK_ok hp henv hk ρ a w Q h (by rw [← core_new hc]; exact hnew)
    exact Oper.wp_mono (fun a' w' ⟨ρ', h'⟩ => hK ρ' a' w' (by rw [core_app hc]; exact h')) this
  | skip hg hc =>
    have hw := hg.wanted h
    rw [if_neg (by rw [hw]; simp)]
    refine hK ρ _ _ ?_
    rw [core_app (g := Eff.none o) hc]
    cases hd : o.dst with
    | none => simpa [Eff.none, Eff.app, St.dels, St.puts, hd, Act.put] using h
    | some d => simpa [Eff.none, Eff.app, St.dels, St.puts, hd] using h.set d (v := .tup []) (x := undef) ⟨#[], rfl, trivial⟩

/-- All of a region, one behind the other. -/
inductive Chain (pd : PD) (env : Nat → Option Sg) (ops : List Oper) : List Oper → St → List Eff → St → Prop
  | nil {s : St} : Chain pd env ops [] s [] s
  | cons {o : Oper} {l : List Oper} {s s' : St} {f : Eff} {fs : List Eff} : Acts pd env ops o s f → anyN s.men f.new = false → f.rd = slotIds s (slotsOf o.op.operands.toList) → Chain pd env ops l (f.app s) fs s' → Chain pd env ops (o :: l) s (f :: fs) s'

theorem Acts.core {pd : PD} {env : Nat → Option Sg} {ops : List Oper} {o : Oper} {s : St} {f g : Eff} (h : Acts pd env ops o s f) (hc : f.core = g.core) : Acts pd env ops o s g := by
  cases h with
  | run f0 h1 h2 h3 => exact .run f0 h1 h2 (by rw [← hc]; exact h3)
  | skip h1 h2 => exact .skip h1 (by rw [← hc]; exact h2)

theorem opsK_some {pd : PD} {env : Nat → Option Sg} {R : Type} {ops : List Oper} {k : St → List Eff → Option R} {r : R} {l : List Oper} {s : St} {acc : List Eff} (h : opsK pd env ops l s acc k = some r) :
    ∃ fs s', k s' (acc.reverse ++ fs) = some r ∧ Chain pd env ops l s fs s' := by
  induction l generalizing s acc with
  | nil => exact ⟨[], s, by simpa [opsK] using h, .nil⟩
  | cons o l ih =>
    unfold opsK at h
    obtain ⟨f, h1, h2⟩ := opG_some h
    obtain ⟨h3, h4⟩ := cond_none h1
    obtain ⟨fs, s', h5, h6⟩ := ih h4
    refine ⟨⟨f.dst, f.v, f.put, f.del, f.new, slotIds s (slotsOf o.op.operands.toList)⟩ :: fs, s', by simpa using h5, .cons (h2.core rfl) h3 rfl h6⟩

theorem Chain.wpOps (hp : PDok X.P X.pd) {env : Nat → Option Sg} (henv : ∀ f g, env f = some g → SgOK X.P X.pd.els f g) {ops : Array Oper} {Q : Exit → Act → World → Prop} {l : List Oper} {s' : St} {fs : List Eff} (hc : Chain X.pd env ops.toList l s fs s') :
    ∀ (i : Nat) (ρ : Nat → RI) (a : Act) (w : World), ops.toList.drop i = l → Sim X ρ s a w → (∀ ρ' a' w', Sim X ρ' s' a' w' → Q .normal a' w') → wpOps X.P ops Q (List.range' i l.length) a w := by
  induction hc with
  | nil => intro i ρ a w _ h hQ; exact hQ ρ a w h
  | @cons o l s s' f fs h1 h2 _ _ ih =>
    intro i ρ a w hd h hQ
    rw [List.length_cons, List.range'_succ, wpOps_cons]
    have hi : ops[i]? = some o := by
      rw [← Array.getElem?_toList]
      have := congrArg (·[0]?) hd
      simpa using this
    refine h1.wpOp hp henv hi h h2 fun ρ' a' w' h' => ih (i + 1) ρ' a' w' ?_ h' hQ
    have := congrArg (List.drop 1) hd
    simpa [List.drop_drop] using this

end Go.Proofs.Ytgimohchocjgcaa.V
