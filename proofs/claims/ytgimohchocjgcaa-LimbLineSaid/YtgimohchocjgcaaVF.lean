/- How the relation between states is kept: another world, an object more, an object less, a slot set. -/
import Derived.Test.YtgimohchocjgcaaVE
set_option linter.unusedVariables false
set_option linter.unusedSimpArgs false
namespace Go.Proofs.Ytgimohchocjgcaa.V

theorem beq_self (n : Nat) : Nat.beq n n = true := by simp

theorem beq_ne {a b : Nat} (h : a ≠ b) : Nat.beq a b = false := by
  cases hb : Nat.beq a b with
  | true => exact absurd (Nat.beq_true hb) h
  | false => rfl

/-! ### Only what is spoken of counts -/

theorem Holds.mono {w w' : World} {ok ok' : Nat → Prop} (hok : ∀ b, ok b → ok' b ∧ w'.heap[b]? = w.heap[b]?) {c : C} {v : Value} (h : Holds w ok c v) : Holds w' ok' c v := by
  induction h with
  | sc h => exact .sc h
  | ro f h1 h2 h3 h4 _ ih => exact .ro f h1 h2 (hok _ h3).1 (fun j c hc => by rw [← h4 j c hc]; exact World.cell?_of_block (hok _ h3).2) ih
  | emp => exact .emp

theorem RC_congr {X : Ctx} {ρ ρ' : Nat → RI} {c : C} {v : Value} (h : ∀ id, c.men id = true → ρ' id = ρ id) (hr : RC X ρ c v) : RC X ρ' c v := by
  cases c <;> simp only [RC] at hr ⊢ <;> first | exact hr | skip
  case row id => rw [h id (by simp [C.men])]; exact hr
  case sl id i n => rw [h id (by simp [C.men])]; exact hr
  case ptr id i n => rw [h id (by simp [C.men])]; exact hr

theorem RCs_congr {X : Ctx} {ρ ρ' : Nat → RI} {l : List C} {vs : List Value} (h : ∀ id, anyC (C.men id) l = true → ρ' id = ρ id) (hr : RCs X ρ l vs) : RCs X ρ' l vs := by
  induction l generalizing vs with
  | nil => cases vs <;> exact hr
  | cons c l ih =>
    cases vs with
    | nil => exact hr
    | cons v vs =>
      refine ⟨RC_congr (fun id hm => h id (by simp [anyC, hm])) hr.1, ih (fun id hm => h id ?_) hr.2⟩
      simp [anyC, hm]

theorem men_toC (e : El) (x : e.T) (id : Nat) : anyC (C.men id) (e.toC x) = false := by
  cases e <;> simp [El.toC, Fr.c, anyC, C.men]

theorem anyC_append (p : C → Bool) (a b : List C) : anyC p (a ++ b) = (anyC p a || anyC p b) := by
  induction a with
  | nil => rfl
  | cons x a ih => simp only [List.cons_append, anyC, ih]; cases p x <;> simp

theorem men_flat (e : El) (l : List e.T) (id : Nat) : anyC (C.men id) (flat e l) = false := by
  induction l with
  | nil => rfl
  | cons x l ih => rw [flat, anyC_append, men_toC, ih]; rfl

theorem RU_congr {X : Ctx} {ρ ρ' : Nat → RI} {u : U} {v : Value} (h : ∀ id, u.men id = true → ρ' id = ρ id) (hr : RU X ρ u v) : RU X ρ' u v := by
  cases u with
  | c x => exact RC_congr h hr
  | agg l => obtain ⟨vs, h1, h2⟩ := hr; exact ⟨vs, h1, RCs_congr h h2⟩
  | vec e l => obtain ⟨vs, h1, h2⟩ := hr; exact ⟨vs, h1, RCs_congr (fun id hm => by rw [men_flat] at hm; cases hm) h2⟩
  | box l => exact hr

theorem RUs_congr {X : Ctx} {ρ ρ' : Nat → RI} {l : List U} {vs : List Value} (h : ∀ id, anyU (U.men id) l = true → ρ' id = ρ id) (hr : RUs X ρ l vs) : RUs X ρ' l vs := by
  induction l generalizing vs with
  | nil => cases vs <;> exact hr
  | cons c l ih =>
    cases vs with
    | nil => exact hr
    | cons v vs =>
      refine ⟨RU_congr (fun id hm => h id (by simp [anyU, hm])) hr.1, ih (fun id hm => h id ?_) hr.2⟩
      simp [anyU, hm]

theorem RV_congr {X : Ctx} {ρ ρ' : Nat → RI} {u : V} {v : Value} (h : ∀ id, u.men id = true → ρ' id = ρ id) (hr : RV X ρ u v) : RV X ρ' u v := by
  cases u with
  | u x => exact RU_congr h hr
  | tup l => obtain ⟨vs, h1, h2⟩ := hr; exact ⟨vs, h1, RUs_congr h h2⟩
  | dead => exact hr

theorem O.men_cells (o : O) (id : Nat) : o.men id = anyC (C.men id) o.cells := by
  cases o with
  | lit l => rfl
  | vec e l => exact (men_flat e l id).symm

theorem RO.congr {X : Ctx} {ρ ρ' : Nat → RI} {w : World} {id : Nat} {x : Ob} (hid : ρ' id = ρ id) (h : ∀ j, x.o.men j = true → ρ' j = ρ j) (hr : RO X ρ w id x) : RO X ρ' w id x := by
  have hc : ∀ {vs}, RCs X ρ x.o.cells vs → RCs X ρ' x.o.cells vs := fun hh => by
    refine RCs_congr (fun j hm => h j ?_) hh
    rw [O.men_cells]; exact hm
  constructor
  · rw [hid]; exact hr.sz
  · rw [hid]; exact hr.len
  · exact hr.n
  · exact hr.vec
  · rw [hid]
    rcases hr.mem with h | ⟨vs, ty, cap, h1, h2, h3⟩
    · exact .inl h
    · exact .inr ⟨vs, ty, cap, h1, hc h2, h3⟩

theorem RO.world {X : Ctx} {ρ : Nat → RI} {w w' : World} {id : Nat} {x : Ob} (hr : RO X ρ w id x) (h : hasB ρ id x → w'.heap[(ρ id).blk]? = w.heap[(ρ id).blk]?) : RO X ρ w' id x := by
  constructor
  · exact hr.sz
  · exact hr.len
  · exact hr.n
  · exact hr.vec
  · rcases hr.mem with h1 | ⟨vs, ty, cap, h1, h2⟩
    · exact .inl h1
    · refine .inr ⟨vs, ty, cap, ?_, h2⟩
      rw [h ?_]; exact h1
      cases hrow : x.row with
      | false => exact .inl hrow
      | true =>
        refine .inr ?_
        rw [(h2.2.2.2 hrow).2.1]; simp

/-! ### The moves -/

section
variable {X : Ctx} {ρ : Nat → RI} {s : St} {a : Act} {w : World}

theorem men_slot {s : St} {t : Nat} {v : V} {id : Nat} (h : s.tm[t]? = some v) (hm : s.men id = false) : v.men id = false := by
  unfold St.men at hm
  have : menVs id s.tm = false := by
    cases hb : menVs id s.tm with
    | true => rw [hb] at hm; simp at hm
    | false => rfl
  generalize s.tm = l at h this
  induction l generalizing t with
  | nil => simp at h
  | cons x l ih =>
    cases hx : x.men id with
    | true => simp [menVs, hx] at this
    | false =>
      simp [menVs, hx] at this
      cases t with
      | zero => simp at h; subst h; exact hx
      | succ t => exact ih (by simpa using h) this

theorem men_get {s : St} {i : Nat} {x : Ob} {id : Nat} (h : s.get i = some x) (hm : s.men id = false) : i ≠ id ∧ x.o.men id = false := by
  unfold St.men at hm
  have : menObs id s.ob = false := by
    cases hb : menVs id s.tm with
    | true => rw [hb] at hm; simp at hm
    | false => rw [hb] at hm; simpa using hm
  unfold St.get at h
  generalize s.ob = l at h this
  induction l with
  | nil => simp [look] at h
  | cons p l ih =>
    obtain ⟨m, y⟩ := p
    simp only [menObs] at this
    cases h1 : Nat.beq m id with
    | true => simp [h1] at this
    | false =>
      cases h2 : y.o.men id with
      | true => simp [h1, h2] at this
      | false =>
        simp [h1, h2] at this
        simp only [look] at h
        cases h3 : Nat.beq m i with
        | true =>
          simp [h3] at h
          subst h
          refine ⟨?_, h2⟩
          have := Nat.beq_true h3
          subst this
          intro he
          subst he
          simp at h1
        | false =>
          simp [h3] at h
          exact ih h this

theorem Sim.world (h : Sim X ρ s a w) {w' : World} (hw : ∀ id x, s.get id = some x → hasB ρ id x → w'.heap[(ρ id).blk]? = w.heap[(ρ id).blk]?) (hf : Frm X w') : Sim X ρ s a w' :=
  ⟨h.tm, h.sz, h.df, fun id x hx => (h.ob id x hx).world (hw id x hx), h.inj, h.own, hf⟩

theorem Sim.del (h : Sim X ρ s a w) (id : Nat) : Sim X ρ ⟨s.tm, delOb id s.ob⟩ a w := by
  have hg : ∀ j x, St.get ⟨s.tm, delOb id s.ob⟩ j = some x → s.get j = some x := fun j x hx => by
    unfold St.get at *
    by_cases e : j = id
    · subst e; rw [look_del_same] at hx; cases hx
    · rwa [look_del_ne _ e] at hx
  exact ⟨h.tm, h.sz, h.df, fun j x hx => h.ob j x (hg j x hx), fun i j x y hx hy => h.inj i j x y (hg _ _ hx) (hg _ _ hy), fun j x hx => h.own j x (hg _ _ hx), h.fr⟩

def upd (ρ : Nat → RI) (id : Nat) (r : RI) : Nat → RI := fun j => if j = id then r else ρ j

theorem upd_same (ρ : Nat → RI) (id : Nat) (r : RI) : upd ρ id r id = r := by simp [upd]
theorem upd_ne {ρ : Nat → RI} {id j : Nat} {r : RI} (h : j ≠ id) : upd ρ id r j = ρ j := by simp [upd, h]

/-- An object more, under a number that nothing speaks of. -/
theorem Sim.add (h : Sim X ρ s a w) (id : Nat) (x : Ob) (r : RI) (hm : s.men id = false) (hro : RO X (upd ρ id r) w id x)
    (hd : hasB (upd ρ id r) id x → (∀ j y, s.get j = some y → hasB ρ j y → (ρ j).blk ≠ r.blk) ∧ (X.w0.heap.size ≤ r.blk ∨ X.may r.blk)) :
    Sim X (upd ρ id r) ⟨s.tm, putOb id x s.ob⟩ a w := by
  have hg : ∀ j y, j ≠ id → St.get ⟨s.tm, putOb id x s.ob⟩ j = some y → s.get j = some y := fun j y hj hy => by
    unfold St.get at *
    rwa [look_put_ne _ _ hj] at hy
  have hs : ∀ y, St.get ⟨s.tm, putOb id x s.ob⟩ id = some y → y = x := fun y hy => by
    unfold St.get at hy
    rw [look_put_same] at hy
    simpa using hy.symm
  have hB : ∀ j y, j ≠ id → hasB (upd ρ id r) j y → hasB ρ j y := fun j y hj hb => by
    unfold hasB at *; rwa [upd_ne hj] at hb
  refine ⟨fun t v hv => ?_, h.sz, h.df, fun j y hy => ?_, fun i j y z hy hz hij hbi hbj => ?_, fun j y hy hb => ?_, h.fr⟩
  · refine RV_congr (fun j hj => ?_) (h.tm t v hv)
    refine upd_ne fun e => ?_
    subst e
    rw [men_slot (s := s) hv hm] at hj; cases hj
  · by_cases e : j = id
    · subst e; rw [hs y hy]; exact hro
    · have hy' := hg j y e hy
      refine (h.ob j y hy').congr (upd_ne e) (fun i hi => upd_ne fun e' => ?_)
      subst e'
      rw [(men_get hy' hm).2] at hi; cases hi
  · by_cases ei : i = id
    · subst ei
      have hj : j ≠ i := fun e => hij e.symm
      rw [hs y hy] at hbi
      rw [upd_same, upd_ne hj]
      exact fun e => ((hd hbi).1 j z (hg j z hj hz) (hB j z hj hbj)) e.symm
    · by_cases ej : j = id
      · subst ej
        rw [hs z hz] at hbj
        rw [upd_same, upd_ne ei]
        exact (hd hbj).1 i y (hg i y ei hy) (hB i y ei hbi)
      · rw [upd_ne ei, upd_ne ej]
        exact h.inj i j y z (hg i y ei hy) (hg j z ej hz) hij (hB i y ei hbi) (hB j z ej hbj)
  · by_cases e : j = id
    · subst e
      rw [hs y hy] at hb
      rw [upd_same]
      exact (hd hb).2
    · rw [upd_ne e]; exact h.own j y (hg j y e hy) (hB j y e hb)

theorem setV_length (l : List V) (d : Nat) (v : V) : (setV l d v).length = l.length := by
  induction l generalizing d with
  | nil => rfl
  | cons x l ih => cases d <;> simp [setV, ih]

theorem setV_get (l : List V) (d : Nat) (v : V) (t : Nat) : (setV l d v)[t]? = if t = d ∧ d < l.length then some v else l[t]? := by
  induction l generalizing d t with
  | nil => simp [setV]
  | cons x l ih =>
    cases d with
    | zero => cases t <;> simp [setV]
    | succ d => cases t <;> simp [setV, ih]

theorem Sim.set (h : Sim X ρ s a w) (d : Nat) {v : V} {x : Value} (hv : RV X ρ v x) : Sim X ρ ⟨setV s.tm d v, s.ob⟩ (a.put (some d) x) w := by
  refine ⟨fun t u hu => ?_, by simp [setV_length, Act.put, h.sz], h.df, h.ob, h.inj, h.own, h.fr⟩
  simp only [setV_get] at hu
  split at hu
  · rename_i hc
    obtain ⟨rfl, hlt⟩ := hc
    cases hu
    rw [h.sz] at hlt
    simp [Act.put, hlt]
    exact hv
  · rename_i hc
    have hlt : t < a.tmps.size := by
      rw [← h.sz]
      exact (List.getElem?_eq_some_iff.1 hu).1
    have : t ≠ d := fun e => hc ⟨e, by rw [h.sz]; omega⟩
    have h2 := h.tm t u hu
    simp only [Act.put, Array.getD_eq_getD_getElem?, Array.getElem?_setIfInBounds] at h2 ⊢
    rw [if_neg (fun e => this e.symm)]
    exact h2

/-- Other content in an object's own block. -/
theorem Sim.store (h : Sim X ρ s a w) (id : Nat) (x y : Ob) (hx : s.get id = some x) {w' : World} (hb : hasB ρ id x) (hby : hasB ρ id y) (hro : RO X ρ w' id y)
    (hw : ∀ k, k ≠ (ρ id).blk → w'.heap[k]? = w.heap[k]?) (hf : w'.os = w.os ∧ w'.tape = w.tape ∧ w'.output = w.output ∧ w'.heap.size = w.heap.size) :
    Sim X ρ ⟨s.tm, putOb id y s.ob⟩ a w' := by
  have hg : ∀ j z, j ≠ id → St.get ⟨s.tm, putOb id y s.ob⟩ j = some z → s.get j = some z := fun j z hj hz => by
    unfold St.get at *
    rwa [look_put_ne _ _ hj] at hz
  have hs : ∀ z, St.get ⟨s.tm, putOb id y s.ob⟩ id = some z → z = y := fun z hz => by
    unfold St.get at hz
    rw [look_put_same] at hz
    simpa using hz.symm
  refine ⟨h.tm, h.sz, h.df, fun j z hz => ?_, fun i j u z hu hz hij hbi hbj => ?_, fun j z hz hb => ?_, ⟨hf.1.trans h.fr.os, hf.2.1.trans h.fr.tape, hf.2.2.1.trans h.fr.output, by rw [hf.2.2.2]; exact h.fr.size, fun k hk hm => ?_⟩⟩
  · by_cases e : j = id
    · subst e; rw [hs z hz]; exact hro
    · have hz' := hg j z e hz
      exact (h.ob j z hz').world fun hbj => hw _ (h.inj j id z x hz' hx e hbj hb)
  · by_cases ei : i = id
    · subst ei
      exact h.inj i j x z hx (hg j z (fun e => hij e.symm) hz) hij hb hbj
    · by_cases ej : j = id
      · subst ej
        exact h.inj i j u x (hg i u ei hu) hx hij hbi hb
      · exact h.inj i j u z (hg i u ei hu) (hg j z ej hz) hij hbi hbj
  · by_cases e : j = id
    · subst e; exact h.own j x hx (by assumption)
    · exact h.own j z (hg j z e hz) hb
  · rw [hw k ?_]; exact h.fr.block k hk hm
    intro e
    subst e
    rcases h.own id x hx (by assumption) with h1 | h1
    · omega
    · exact hm h1

theorem Sim.eval (h : Sim X ρ s a w) (t : Nat) : RV X ρ (s.tm.getD t .dead) (a.eval (.tmp t)) := by
  rw [List.getD_eq_getElem?_getD]
  cases hv : s.tm[t]? with
  | none => exact trivial
  | some v => exact h.tm t v hv

end
end Go.Proofs.Ytgimohchocjgcaa.V
