/- Code: whatever the evaluator says of it holds of the model. -/
import Derived.Test.YtgimohchocjgcaaVAK
import Derived.ScopeJumps
set_option linter.unusedVariables false
set_option linter.unusedSimpArgs false
namespace Go.Proofs.Ytgimohchocjgcaa.V

variable {X : Ctx} {ρ : Nat → RI} {s : St} {a : Act} {w : World} {R : Type} {env : Nat → Option Sg} {ret : St → Option R} {lp : Lp R} {r : R}

def QE (Q : Exit → Act → World → Prop) (F : Prop) : Ex → Act → World → Prop
  | .normal, a, w => Q .normal a w
  | .exit id, a, w => Q (.exit id) a w
  | .goto l, a, w => Q (.goto l) a w
  | .fall, a, w => F → Q .normal a w

/-- What is told of a code's ends is what its place asks for. F: may it fall out of a label's code? -/
def Ends (X : Ctx) (k : Kn R) (r : R) (Q : Exit → Act → World → Prop) (F : Prop) : Prop :=
  ∀ e s ρ a w, k e s = some r → Sim X ρ s a w → QE Q F e a w

def Rets (X : Ctx) (ret : St → Option R) (r : R) (Q : Exit → Act → World → Prop) : Prop :=
  ∀ s ρ a w, ret s = some r → Sim X ρ s a w → Q .ret a w

/-- A label's code, from its head on: after each jump to it, nearer to the end. -/
def Rounds (P : Program) (l : Nat) (b : Code) (Q : Exit → Act → World → Prop) (I : Nat → Act → World → Prop) : Prop :=
  ∀ n a w, I n a w → b.wp P (Exit.jump l (fun a' w' => ∃ m, m < n ∧ I m a' w') Q) a w

structure LpOK (X : Ctx) (ret : St → Option R) (lp : Lp R) (r : R) : Prop where
  loop : ∀ key c s k Q ρ a w, key < 1000 → lp key c s k = some r → Sim X ρ s a w → Ends X k r Q False → Rets X ret r Q → (Code.loop c).wp X.P Q a w
  label : ∀ l c s k Q ρ a w, lp (1000 + l) c s k = some r → Sim X ρ s a w → Ends X k r Q True → Rets X ret r Q → ∃ I n, I n a w ∧ Rounds X.P l c Q I

theorem least {p : Nat → Prop} (h : ∃ n, p n) : ∃ n, p n ∧ ∀ m, p m → n ≤ m := by
  obtain ⟨n, hn⟩ := h
  induction n using Nat.strongRecOn with
  | _ n ih =>
    by_cases h : ∃ m, m < n ∧ p m
    · obtain ⟨m, hm, hp⟩ := h; exact ih m hm hp
    · exact ⟨n, hn, fun m hm => Nat.le_of_not_lt fun hlt => h ⟨m, hlt, hm⟩⟩

open Classical in
/-- How many rounds there are at most. -/
noncomputable def rank (I : Nat → Act → World → Prop) (a : Act) (w : World) : Nat := if h : ∃ n, I n a w then (least h).choose else 0

theorem rank_spec {I : Nat → Act → World → Prop} {n : Nat} {a : Act} {w : World} (h : I n a w) : I (rank I a w) a w ∧ rank I a w ≤ n := by
  have hex : ∃ n, I n a w := ⟨n, h⟩
  unfold rank
  rw [dif_pos hex]
  have := (least hex).choose_spec
  exact ⟨this.1, this.2 n h⟩

theorem wp_loop_ind {P : Program} {c : Code} {Q : Exit → Act → World → Prop} (I : Nat → Act → World → Prop) {n : Nat} (h0 : I n a w) (round : ∀ n a w, I n a w → c.wp P (Exit.then (fun a' w' => ∃ m, m < n ∧ I m a' w') Q) a w) : (Code.loop c).wp P Q a w := by
  refine wp_loop (fun a w => ∃ n, I n a w) (rank I) ⟨n, h0⟩ fun a w ⟨n, hn⟩ => ?_
  obtain ⟨h1, _⟩ := rank_spec hn
  refine wp_mono (round _ a w h1) fun e a' w' hq => ?_
  cases e with
  | normal =>
    obtain ⟨m, hm, hI⟩ := hq
    exact ⟨⟨m, hI⟩, Nat.lt_of_le_of_lt (rank_spec hI).2 hm⟩
  | _ => exact hq

theorem wp_scope_ind {P : Program} {c rest : Code} {l : Nat} {Q : Exit → Act → World → Prop} (G : Nat → Act → World → Prop) (hf : findLabel c l = some rest) (first : c.wp P (Exit.jump l (fun a w => ∃ n, G n a w) Q) a w)
    (pass : Rounds P l rest Q G) : (Code.scope c).wp P Q a w := by
  refine wp_scope_jumps l (fun a w => ∃ n, G n a w) (rank G) hf first fun a w ⟨n, hn⟩ => ?_
  obtain ⟨h1, _⟩ := rank_spec hn
  refine wp_mono (pass _ a w h1) fun e a' w' hq => ?_
  cases e with
  | goto l' =>
    obtain ⟨e1, m, hm, hI⟩ := hq
    exact ⟨e1, ⟨m, hI⟩, Nat.lt_of_le_of_lt (rank_spec hI).2 hm⟩
  | _ => exact hq

/-- The code behind a scope's label. -/
def tailOf : Code → Code
  | .seq a b => match a with
    | .label _ => b
    | _ => tailOf b
  | c => c

theorem tailOf_seq {x y : Code} (h : ∀ l, x = .label l → False) : tailOf (.seq x y) = tailOf y := by
  cases x <;> first | rfl | exact (h _ rfl).elim

theorem noLab_spec {l : Nat} {pre : List Code} (h : noLab l pre = true) : ∀ c ∈ pre, findLabel c l = none := by
  induction pre with
  | nil => intro c hc; cases hc
  | cons p pre ih =>
    unfold noLab at h
    intro c hc
    cases hp : findLabel p l with
    | some x => rw [hp] at h; cases h
    | none =>
      rw [hp] at h
      rcases List.mem_cons.1 hc with rfl | hc
      · exact hp
      · exact ih h c hc

theorem spine_spec : ∀ (c : Code) (pre : List Code) (l : Nat), spine pre c = some l → (∀ p ∈ pre, findLabel p l = none) ∧ findLabel c l = some (.seq .skip (tailOf c)) := by
  intro c
  induction c with
  | seq a b iha ihb =>
    intro pre l h
    unfold spine at h
    split at h
    · rename_i l'
      obtain ⟨h1, h2⟩ := cond_some h
      simp only [Option.some.injEq] at h2
      subst h2
      exact ⟨noLab_spec h1, by simp [findLabel, tailOf]⟩
    · rename_i hne
      obtain ⟨h1, h2⟩ := ihb _ l h
      refine ⟨fun p hp => h1 p (List.mem_cons_of_mem _ hp), ?_⟩
      have ha := h1 a List.mem_cons_self
      rw [findLabel, ha]
      simp only
      rw [h2]
      rw [tailOf_seq hne]
  | _ => intro pre l h; simp [spine] at h

theorem Ends.mono {k : Kn R} {Q Q' : Exit → Act → World → Prop} {F F' : Prop} (h : Ends X k r Q F) (hq : ∀ e a w, QE Q F e a w → QE Q' F' e a w) : Ends X k r Q' F' :=
  fun e s ρ a w hk hs => hq e a w (h e s ρ a w hk hs)

theorem Less_kill (id : Nat) (x : Ob) : Less x ⟨x.row, x.n, x.ty, killO id x.o⟩ := by
  have hl : ∀ l : List C, (killC id l).length = l.length := fun l => by
    induction l with
    | nil => rfl
    | cons c l ih => simp [killC, ih]
  have hr : ∀ (X : Ctx) (ρ : Nat → RI) (l : List C) (vs : List Value), RCs X ρ l vs → RCs X ρ (killC id l) vs := fun X ρ l => by
    induction l with
    | nil => intro vs h; exact h
    | cons c l ih =>
      intro vs h
      cases vs with
      | nil => exact h.elim
      | cons v vs =>
        refine ⟨?_, ih vs h.2⟩
        cases c.men id with
        | true => exact trivial
        | false => exact h.1
  obtain ⟨row, n, ty, o⟩ := x
  cases o with
  | lit l => exact ⟨rfl, rfl, rfl, by simp [killO, O.cells, hl], by simp [killO, O.sz, hl], rfl, (fun e l h => by cases h), (fun e l h => by cases h), fun X ρ vs h => hr X ρ l vs h⟩
  | vec e l => exact ⟨rfl, rfl, rfl, rfl, rfl, rfl, fun e l h => h, fun e l h => h, fun X ρ vs h => h⟩

theorem Sim.kill (h : Sim X ρ s a w) (id : Nat) : Sim X ρ (s.kill id) a w := by
  have hd := h.del id
  have hget : ∀ (ob : List (Nat × Ob)) (j : Nat) (y : Ob), look j (killObs id ob) = some y → ∃ x, look j ob = some x ∧ y = ⟨x.row, x.n, x.ty, killO id x.o⟩ := fun ob => by
    induction ob with
    | nil => intro j y h; cases h
    | cons p l ih =>
      obtain ⟨m, x⟩ := p
      intro j y h
      simp only [killObs, look] at h ⊢
      cases hb : Nat.beq m j with
      | true => rw [hb] at h; cases h; exact ⟨x, rfl, rfl⟩
      | false => rw [hb] at h; exact ih j y h
  have htm : ∀ (l : List V) (t : Nat) (v : V), (killV id l)[t]? = some v → ∃ x, l[t]? = some x ∧ (v = x ∨ v = .dead) := fun l => by
    induction l with
    | nil => intro t v h; cases h
    | cons x l ih =>
      intro t v h
      cases t with
      | zero =>
        simp only [killV, List.getElem?_cons_zero, Option.some.injEq] at h
        refine ⟨x, rfl, ?_⟩
        cases hb : x.men id with
        | true => rw [hb] at h; exact .inr h.symm
        | false => rw [hb] at h; exact .inl h.symm
      | succ t => simpa using ih t v (by simpa [killV] using h)
  have hlen : ∀ l : List V, (killV id l).length = l.length := fun l => by
    induction l with
    | nil => rfl
    | cons x l ih => simp [killV, ih]
  refine ⟨fun t v hv => ?_, by simp only [St.kill, hlen]; exact h.sz, h.df, fun j y hy => ?_, fun i j x y hx hy hij hbi hbj => ?_, fun j y hy hb => ?_, h.fr⟩
  · obtain ⟨x, hx, hor⟩ := htm _ _ _ hv
    rcases hor with rfl | rfl
    · exact h.tm t _ hx
    · exact trivial
  · obtain ⟨x, hx, rfl⟩ := hget _ _ _ hy
    exact (hd.ob j x hx).less (Less_kill id x)
  · obtain ⟨x', hx', rfl⟩ := hget _ _ _ hx
    obtain ⟨y', hy', rfl⟩ := hget _ _ _ hy
    exact hd.inj i j x' y' hx' hy' hij hbi hbj
  · obtain ⟨x, hx, rfl⟩ := hget _ _ _ hy
    exact hd.own j x hx hb

theorem Sim.kills (h : Sim X ρ s a w) (l : List Nat) : Sim X ρ (s.kills l) a w := by
  induction l generalizing s with
  | nil => exact h
  | cons id l ih => exact ih (h.kill id)

theorem region_ok (hp : PDok X.P X.pd) (henv : ∀ f g, env f = some g → SgOK X.P X.pd.els f g) {id : Nat} {ops : Array Oper} {draw : Bool} {k : St → Option R} {Q : Exit → Act → World → Prop} (h : regionK X.pd env ops.toList draw s k = some r) (hs : Sim X ρ s a w)
    (hk : ∀ s' ρ' a' w', k s' = some r → Sim X ρ' s' a' w' → Q .normal a' w') : (Code.region id ops draw).wp X.P Q a w := by
  unfold regionK at h
  replace hs := hs.kills (nilSites X.pd s ops.toList)
  generalize s.kills (nilSites X.pd s ops.toList) = s at h hs
  unfold regionD at h
  obtain ⟨fs, s', h1, h2⟩ := opsK_some h
  simp only [List.reverse_nil, List.nil_append] at h1
  cases draw with
  | false =>
    simp only [cond_false] at h1
    refine wp_region ?_
    have := h2.wpOps hp henv 0 ρ a w (by simp) hs (Q := Q) (fun ρ' a' w' h' => hk s' ρ' a' w' h1 h')
    rw [List.range_eq_range']
    simpa using this
  | true =>
    simp only [cond_true] at h1
    obtain ⟨h3, h4⟩ := cond_some h1
    exact wp_draw hp henv h2 h3 (fun ρ' a' w' h' => hk s' ρ' a' w' h4 h') hs id

theorem ex2_ok (hp : PDok X.P X.pd) (henv : ∀ f g, env f = some g → SgOK X.P X.pd.els f g) (hlp : LpOK X ret lp r) : ∀ (c : Code),
    (∀ s k Q ρ a w, (ex2 X.pd env ret lp c).1 s k = some r → Sim X ρ s a w → Ends X k r Q False → Rets X ret r Q → c.wp X.P Q a w) ∧
    (∀ pre l s k Q ρ a w, spine pre c = some l → (ex2 X.pd env ret lp c).2 s (Kn.noGoto k) = some r → Sim X ρ s a w → Ends X k r Q False → Rets X ret r Q →
      c.wp X.P (Exit.jump l (fun a w => ∃ n I, I n a w ∧ Rounds X.P l (tailOf c) Q I) Q) a w) := by
  intro c
  induction c with
  | skip => exact ⟨fun s k Q ρ a w h hs hk hr => wp_skip (hk _ _ _ _ _ h hs), fun pre l s k Q ρ a w hsp => by simp [spine] at hsp⟩
  | region id ops draw => exact ⟨fun s k Q ρ a w h hs hk hr => region_ok hp henv h hs fun s' ρ' a' w' h1 h2 => hk _ _ _ _ _ h1 h2, fun pre l s k Q ρ a w hsp => by simp [spine] at hsp⟩
  | seq x y ihx ihy =>
    refine ⟨fun s k Q ρ a w h hs hk hr => ?_, fun pre l s k Q ρ a w hsp h hs hk hr => ?_⟩
    · refine wp_seq (ihx.1 s _ _ ρ a w h hs ?_ ?_)
      · intro e s' ρ' a' w' he hs'
        cases e with
        | normal => exact ihy.1 s' k Q ρ' a' w' he hs' hk hr
        | exit id => exact hk (.exit id) s' ρ' a' w' he hs'
        | goto l => exact hk (.goto l) s' ρ' a' w' he hs'
        | fall => exact fun hf => hf.elim
      · exact fun s' ρ' a' w' h1 h2 => hr s' ρ' a' w' h1 h2
    · unfold spine at hsp
      split at hsp
      · rename_i l'
        obtain ⟨_, hsp⟩ := cond_some hsp
        simp only [Option.some.injEq] at hsp
        subst hsp
        obtain ⟨I, n, hI, hR⟩ := hlp.label l' y s (Kn.fall (Kn.noGoto k)) Q ρ a w h hs (by
          intro e s' ρ' a' w' he hs'
          cases e with
          | normal => exact hk .normal s' ρ' a' w' he hs'
          | exit id => exact hk (.exit id) s' ρ' a' w' he hs'
          | goto l => cases he
          | fall => exact fun _ => hk .normal s' ρ' a' w' he hs') hr
        refine wp_seq (wp_label ?_)
        refine wp_mono (hR n a w hI) fun e a' w' hq => ?_
        cases e with
        | goto l'' =>
          obtain ⟨e1, m, hm, hIm⟩ := hq
          exact ⟨e1, m, I, hIm, hR⟩
        | _ => exact hq
      · rename_i hne
        have htail : tailOf (.seq x y) = tailOf y := tailOf_seq hne
        have h' : (ex2 X.pd env ret lp x).1 s (Kn.seq (fun s => (ex2 X.pd env ret lp y).2 s (Kn.noGoto k)) (Kn.noGoto k)) = some r := by
          cases x <;> first | exact h | exact (hne _ rfl).elim
        rw [htail]
        refine wp_seq (ihx.1 s _ _ ρ a w h' hs ?_ ?_)
        · intro e s' ρ' a' w' he hs'
          cases e with
          | normal => exact ihy.2 _ l s' k Q ρ' a' w' hsp he hs' hk hr
          | exit id => exact hk (.exit id) s' ρ' a' w' he hs'
          | goto l => cases he
          | fall => exact fun hf => hf.elim
        · exact fun s' ρ' a' w' h1 h2 => hr s' ρ' a' w' h1 h2
  | cond c x y ihx ihy =>
    refine ⟨fun s k Q ρ a w h hs hk hr => ?_, fun pre l s k Q ρ a w hsp => by simp [spine] at hsp⟩
    simp only [ex2] at h
    split at h
    · rename_i t ht
      refine wp_cond (ev_bool hs ht) ?_
      cases t with
      | true => exact ihx.1 s k Q ρ a w h hs hk hr
      | false => exact ihy.1 s k Q ρ a w h hs hk hr
    · cases h
  | block id c ih =>
    refine ⟨fun s k Q ρ a w h hs hk hr => ?_, fun pre l s k Q ρ a w hsp => by simp [spine] at hsp⟩
    refine wp_block (ih.1 s _ _ ρ a w h hs ?_ ?_)
    · intro e s' ρ' a' w' he hs'
      cases e with
      | normal => exact hk .normal s' ρ' a' w' he hs'
      | exit j =>
        simp only [QE, Exit.inBlock]
        have he' : cond (Nat.beq j id) (k .normal s') (k (.exit j) s') = some r := he
        cases hb : Nat.beq j id with
        | true =>
          rw [hb] at he'
          rw [if_pos (Nat.beq_true hb)]
          exact hk .normal s' ρ' a' w' he' hs'
        | false =>
          rw [hb] at he'
          rw [if_neg (fun e => by subst e; simp at hb)]
          exact hk (.exit j) s' ρ' a' w' he' hs'
      | goto l => exact hk (.goto l) s' ρ' a' w' he hs'
      | fall => exact fun hf => hf.elim
    · exact fun s' ρ' a' w' h1 h2 => hr s' ρ' a' w' h1 h2
  | loop c ih =>
    refine ⟨fun s k Q ρ a w h hs hk hr => ?_, fun pre l s k Q ρ a w hsp => by simp [spine] at hsp⟩
    have h' : cond (Nat.blt (keyOf c) 1000) (lp (keyOf c) c s k) none = some r := h
    obtain ⟨h1, h2⟩ := cond_some h'
    exact hlp.loop _ c s k Q ρ a w (by simpa [Nat.blt_eq] using h1) h2 hs hk hr
  | exit id => exact ⟨fun s k Q ρ a w h hs hk hr => wp_exit (hk (.exit id) _ _ _ _ h hs), fun pre l s k Q ρ a w hsp => by simp [spine] at hsp⟩
  | goto l => exact ⟨fun s k Q ρ a w h hs hk hr => wp_goto (hk (.goto l) _ _ _ _ h hs), fun pre l s k Q ρ a w hsp => by simp [spine] at hsp⟩
  | label l => exact ⟨fun s k Q ρ a w h hs hk hr => wp_label (hk .normal _ _ _ _ h hs), fun pre l s k Q ρ a w hsp => by simp [spine] at hsp⟩
  | ret => exact ⟨fun s k Q ρ a w h hs hk hr => wp_ret (hr _ _ _ _ h hs), fun pre l s k Q ρ a w hsp => by simp [spine] at hsp⟩
  | scope c ih =>
    refine ⟨fun s k Q ρ a w h hs hk hr => ?_, fun pre l s k Q ρ a w hsp => by simp [spine] at hsp⟩
    have h' : (match spine [] c with
      | some _ => (ex2 X.pd env ret lp c).2 s (Kn.noGoto k)
      | none => none) = some r := h
    split at h'
    · rename_i l hl
      have h1 := ih.2 [] l s k Q ρ a w hl h' hs hk hr
      obtain ⟨_, hf⟩ := spine_spec c [] l hl
      refine wp_scope_ind (fun n a w => ∃ I, I n a w ∧ Rounds X.P l (tailOf c) Q I) hf h1 ?_
      intro n a w ⟨I, hI, hR⟩
      refine wp_seq (wp_skip ?_)
      refine wp_mono (hR n a w hI) fun e a' w' hq => ?_
      cases e with
      | goto l' =>
        obtain ⟨e1, m, hm, hIm⟩ := hq
        exact ⟨e1, m, hm, I, hIm, hR⟩
      | _ => exact hq
    · cases h'
  | rangeFunc _ _ _ _ => exact ⟨fun s k Q ρ a w h => (by cases h), fun pre l s k Q ρ a w hsp => by simp [spine] at hsp⟩
  | refuse _ => exact ⟨fun s k Q ρ a w h => (by cases h), fun pre l s k Q ρ a w hsp => by simp [spine] at hsp⟩

end Go.Proofs.Ytgimohchocjgcaa.V
