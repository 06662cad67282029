/- Regions whose operations come in any order: whatever the order, they end alike. -/
import Derived.Test.YtgimohchocjgcaaVAI
set_option linter.unusedVariables false
set_option linter.unusedSimpArgs false
namespace Go.Proofs.Ytgimohchocjgcaa.V

variable {X : Ctx} {ρ : Nat → RI} {s : St} {a : Act} {w : World}

theorem Chain.get {pd : PD} {env : Nat → Option Sg} {ops : List Oper} {l : List Oper} {s s' : St} {fs : List Eff} (h : Chain pd env ops l s fs s') :
    fs.length = l.length ∧ s' = apps s fs ∧ ∀ (i : Nat) (o : Oper) (f : Eff), l[i]? = some o → fs[i]? = some f → Acts pd env ops o (apps s (fs.take i)) f ∧ f.rd = slotIds (apps s (fs.take i)) (slotsOf o.op.operands.toList) := by
  induction h with
  | nil => exact ⟨rfl, rfl, fun i o f h => by simp at h⟩
  | @cons o l s s' f fs h1 h2 h3 h4 ih =>
    obtain ⟨e1, e2, e3⟩ := ih
    refine ⟨by simp [e1], by rw [apps_cons]; exact e2, fun i p g hp hg => ?_⟩
    cases i with
    | zero => simp at hp hg; subst hp; subst hg; exact ⟨h1, h3⟩
    | succ i => exact e3 i p g (by simpa using hp) (by simpa using hg)

theorem mem_slotsOf {l : List Operand} {t : Nat} (h : .tmp t ∈ l) : t ∈ slotsOf l := by
  induction l with
  | nil => cases h
  | cons x l ih =>
    rcases List.mem_cons.1 h with rfl | h2
    · simp [slotsOf]
    · have := ih h2
      cases x <;> simp [slotsOf, this]

theorem mem_slotIds {s : St} {l : List Nat} {t id : Nat} (ht : t ∈ l) (hid : id ∈ s.deep (s.tm.getD t .dead).ids) : id ∈ slotIds s l := by
  induction l with
  | nil => cases ht
  | cons x l ih =>
    rcases List.mem_cons.1 ht with rfl | h
    · exact List.mem_append_left _ hid
    · exact List.mem_append_right _ (ih h)

theorem slots_sub {ops : List Oper} {o : Oper} {t : Nat} (h : t ∈ slotsOf o.op.operands.toList) : t ∈ Oper.slots ops o := by
  unfold Oper.slots
  split
  · exact h
  · split
    · exact List.mem_cons_of_mem _ h
    · exact h

theorem guard_slot {ops : List Oper} {o p : Oper} {j d : Nat} {want : Bool} (h1 : o.guard = some (j, want)) (h2 : ops[j]? = some p) (h3 : p.dst = some d) : d ∈ Oper.slots ops o := by
  obtain ⟨dst, op, ty, pos, aft, gd⟩ := p
  simp only at h3
  subst h3
  unfold Oper.slots
  simp [h1, h2]

theorem Acts.same {pd : PD} {env : Nat → Option Sg} {ops : List Oper} {o : Oper} {s1 s2 : St} {f : Eff} (h : Acts pd env ops o s1 f) (hs : ∀ t ∈ Oper.slots ops o, s2.tm.getD t .dead = s1.tm.getD t .dead)
    (hg : ∀ id ∈ slotIds s1 (slotsOf o.op.operands.toList), s2.get id = s1.get id) : Acts pd env ops o s2 f := by
  have guard : ∀ b, Guard ops o s1 b → Guard ops o s2 b := fun b ⟨j, want, p, d, h1, h2, h3, h4⟩ => ⟨j, want, p, d, h1, h2, h3, by rw [hs d (guard_slot h1 h2 h3)]; exact h4⟩
  cases h with
  | run f0 h1 h2 h3 =>
    refine .run f0 (h1.imp id (guard true)) ?_ h3
    rw [opK_same (s := s1) o some fun x hx => alikeD_of (fun t ht => hs t (slots_sub (mem_slotsOf (ht ▸ hx)))) (fun t ht id hid => hg id (mem_slotIds (mem_slotsOf (ht ▸ hx)) hid))]
    exact h2
  | skip h1 h2 => exact .skip (guard false h1) h2

/-- The one and the other do not meet. -/
structure Free (ops : List Oper) (o p : Oper) (f g : Eff) : Prop where
  dst : ∀ d, f.dst = some d → g.dst ≠ some d
  s1 : ∀ d, f.dst = some d → d ∉ Oper.slots ops p
  s2 : ∀ d, g.dst = some d → d ∉ Oper.slots ops o
  w1 : ∀ id ∈ f.writes, id ∉ g.rd ∧ id ∉ g.writes
  w2 : ∀ id ∈ g.writes, id ∉ f.rd ∧ id ∉ f.writes
  n1 : anyN g.men f.new = false
  n2 : anyN f.men g.new = false

theorem Free.symm {ops : List Oper} {o p : Oper} {f g : Eff} (h : Free ops o p f g) : Free ops p o g f :=
  ⟨fun d h1 h2 => h.dst d h2 h1, h.s2, h.s1, h.w2, h.w1, h.n2, h.n1⟩

theorem clash1_spec {f g : Eff} {gs : List Nat} (h : clash1 f g gs = false) : (∀ d, f.dst = some d → d ∉ gs) ∧ (∀ id ∈ f.writes, id ∉ g.rd ∧ id ∉ g.writes) ∧ anyN g.men f.new = false := by
  unfold clash1 at h
  cases h1 : dstIn f.dst gs with
  | true => simp [h1] at h
  | false =>
    simp only [h1, cond_false] at h
    cases h2 : anyN (fun i => memN i (g.rd ++ g.writes)) f.writes with
    | true => simp [h2] at h
    | false =>
      simp only [h2, cond_false] at h
      refine ⟨fun d hd hm => ?_, fun id hid => ?_, h⟩
      · rw [hd, dstIn, memN_iff.2 hm] at h1; cases h1
      · have := anyN_false.1 h2 id hid
        have h3 : ¬ id ∈ g.rd ++ g.writes := fun hm => by rw [memN_iff.2 hm] at this; cases this
        simp only [List.mem_append, not_or] at h3
        exact h3

theorem clash_spec {ops : List Oper} {o p : Oper} {f g : Eff} (h : clash ops o p f g = false) : Free ops o p f g := by
  unfold clash at h
  cases h1 : sameDst f.dst g.dst with
  | true => simp [h1] at h
  | false =>
    simp only [h1, cond_false] at h
    cases h2 : clash1 f g (Oper.slots ops p) with
    | true => simp [h2] at h
    | false =>
      simp only [h2, cond_false] at h
      obtain ⟨a1, a2, a3⟩ := clash1_spec h2
      obtain ⟨b1, b2, b3⟩ := clash1_spec h
      refine ⟨fun d hd hg => ?_, a1, b1, a2, b2, a3, b3⟩
      rw [hd, hg, sameDst] at h1
      simp at h1

theorem bef_closed {ops : List Oper} {D : Nat → Bool} (hcl : ∀ (j : Nat) (o : Oper), ops[j]? = some o → D j = true → ∀ e ∈ o.after.toList, Region.binds .any e = true → D e.on = true) :
    ∀ (j : Nat) (o : Oper), ops[j]? = some o → (∀ e ∈ o.after.toList, Region.binds .any e = true → D e.on = true) → ∀ i, ((befs [] ops).getD j 0).testBit i = true → D i = true := by
  obtain ⟨r, h1, h2, h3⟩ := befs_spec ops []
  simp only [List.nil_append, List.length_nil, Nat.zero_add] at h1 h3
  intro j
  induction j using Nat.strongRecOn with
  | _ j ih =>
    intro o ho hr i hi
    rw [h1] at hi
    obtain ⟨e, he, hb, h⟩ := h3 j o ho i hi
    rcases h with h | ⟨hlt, h⟩
    · rw [← h]; exact hr e he hb
    · have hD := hr e he hb
      have hop : ∃ p, ops[e.on]? = some p := by
        have hjl : j < ops.length := (List.getElem?_eq_some_iff.1 ho).1
        exact ⟨_, List.getElem?_eq_getElem (by omega)⟩
      obtain ⟨p, hp⟩ := hop
      exact ih e.on hlt p hp (hcl e.on p hp hD) i (by rw [h1]; exact h)

section
variable {env : Nat → Option Sg} {ops : Array Oper} {s' : St} {fs : List Eff}

/-- Those that are done. -/
def don (l : Array Bool) (i : Nat) : Bool := l.getD i false

theorem don_set {l : Array Bool} {i j : Nat} (hi : i < l.size) : don (l.setIfInBounds i true) j = (decide (j = i) || don l j) := by
  unfold don
  by_cases h : j = i
  · subst h; simp [hi]
  · have : i ≠ j := fun e => h e.symm
    simp [h, Array.getElem?_setIfInBounds_ne this]

structure Setup (X : Ctx) (env : Nat → Option Sg) (ops : Array Oper) (s : St) (fs : List Eff) (s' : St) : Prop where
  len : fs.length = ops.size
  fin : s' = apps s fs
  acts : ∀ (i : Nat) (o : Oper) (f : Eff), ops[i]? = some o → fs[i]? = some f → Acts X.pd env ops.toList o (apps s (fs.take i)) f ∧ f.rd = slotIds (apps s (fs.take i)) (slotsOf o.op.operands.toList)
  back : ∀ (i : Nat) (o : Oper), ops[i]? = some o → ∀ e ∈ o.after, Region.binds .any e = true → e.on < i
  news : ∀ f ∈ fs, anyN s.men f.new = false
  pair : ∀ (k m : Nat) (o : Oper) (f : Eff) (p : Oper) (g : Eff), k < m → ops[k]? = some o → fs[k]? = some f → ops[m]? = some p → fs[m]? = some g →
    (((befs [] ops.toList).getD m 0).testBit k = true ∧ anyN f.men g.new = false) ∨ (((befs [] ops.toList).getD m 0).testBit k = false ∧ Free ops.toList o p f g)

theorem setup_of (hc : Chain X.pd env ops.toList ops.toList s fs s') (ho : orderOK ops.toList s fs = true) : Setup X env ops s fs s' := by
  obtain ⟨h1, h2, h3⟩ := hc.get
  unfold orderOK at ho
  cases ha : allBack 0 ops.toList with
  | false => simp [ha] at ho
  | true =>
    cases hn : newsOK s fs with
    | false => simp [ha, hn] at ho
    | true =>
      simp only [ha, hn, cond_true] at ho
      obtain ⟨r, b1, b2, _⟩ := befs_spec ops.toList []
      simp only [List.nil_append] at b1
      refine ⟨by simpa using h1, h2, fun i o f hi hf => h3 i o f (by simpa using hi) hf, fun i o hi e he hb => ?_, newsOK_spec hn, fun k m o f p g hkm hk hf hm hg => ?_⟩
      · have := allBack_spec ha i o (by simpa using hi) e (by simpa using he) hb
        omega
      · have hml : m < ops.size := (Array.getElem?_eq_some_iff.1 hm).1
        have hb : (befs [] ops.toList)[m]? = some ((befs [] ops.toList).getD m 0) := by
          rw [b1, List.getD_eq_getElem?_getD, List.getElem?_eq_getElem (by rw [b2]; simpa using hml)]; rfl
        have := pairs_spec ho k m o f p g _ hkm (by simpa using hk) hf (by simpa using hm) hg hb
        rw [Nat.zero_add] at this
        exact this.imp id fun h => ⟨h.1, clash_spec h.2⟩

variable (hp : PDok X.P X.pd) (henv : ∀ f g, env f = some g → SgOK X.P X.pd.els f g) (hS : Setup X env ops s fs s') {l : Array Bool} (hsz : l.size = ops.size)
  (hcl : ∀ (j : Nat) (o : Oper), ops.toList[j]? = some o → don l j = true → ∀ e ∈ o.after.toList, Region.binds .any e = true → don l e.on = true)
include hS hsz hcl

omit hsz in
/-- Who does not come ahead of one that is ready does not meet it. -/
theorem free_of {i : Nat} {o : Oper} {f : Eff} (hi : ops[i]? = some o) (hf : fs[i]? = some f) (hnd : don l i = false) (hr : ∀ e ∈ o.after.toList, Region.binds .any e = true → don l e.on = true)
    {j : Nat} {p : Oper} {g : Eff} (hj : ops[j]? = some p) (hg : fs[j]? = some g) (h : (j < i ∧ don l j = false) ∨ (i < j ∧ don l j = true)) : Free ops.toList p o g f := by
  have hcl' := bef_closed hcl
  rcases h with ⟨h1, h2⟩ | ⟨h1, h2⟩
  · rcases hS.pair j i p g o f h1 hj hg hi hf with ⟨h3, _⟩ | ⟨_, h3⟩
    · have := hcl' i o (by simpa using hi) hr j h3
      rw [h2] at this; cases this
    · exact h3
  · rcases hS.pair i j o f p g h1 hi hf hj hg with ⟨h3, _⟩ | ⟨_, h3⟩
    · have := hcl' j p (by simpa using hj) (hcl j p (by simpa using hj) h2) i h3
      rw [hnd] at this; cases this
    · exact h3.symm

omit hsz in
theorem acts_any {i : Nat} {o : Oper} {f : Eff} (hi : ops[i]? = some o) (hf : fs[i]? = some f) (hnd : don l i = false) (hr : ∀ e ∈ o.after.toList, Region.binds .any e = true → don l e.on = true) :
    Acts X.pd env ops.toList o (apps s (sel (don l) 0 fs)) f ∧ anyN (apps s (sel (don l) 0 fs)).men f.new = false := by
  obtain ⟨h1, h2⟩ := hS.acts i o f hi hf
  have htake : fs.take i = sel (fun j => decide (j < i)) 0 fs := by
    rw [← sel_take fs 0 i]; simp
  have get : ∀ j g, fs[j]? = some g → ∃ p, ops[j]? = some p := fun j g hg => by
    have : j < fs.length := (List.getElem?_eq_some_iff.1 hg).1
    exact ⟨_, Array.getElem?_eq_getElem (by rw [← hS.len]; exact this)⟩
  have differ : ∀ j g, fs[j]? = some g → don l (0 + j) ≠ decide (0 + j < i) → Free ops.toList (ops[j]?.getD o) o g f := by
    intro j g hg hne
    rw [Nat.zero_add] at hne
    obtain ⟨p, hp⟩ := get j g hg
    rw [hp, Option.getD_some]
    have hji : j ≠ i := fun e => by subst e; simp [hnd] at hne
    refine free_of hS hcl hi hf hnd hr hp hg ?_
    rcases Nat.lt_or_ge j i with hlt | hge
    · left; refine ⟨hlt, ?_⟩
      cases hd : don l j with
      | false => rfl
      | true => simp [hd, hlt] at hne
    · right; refine ⟨by omega, ?_⟩
      cases hd : don l j with
      | true => rfl
      | false => simp [hd, hge] at hne
  refine ⟨h1.same (fun t ht => ?_) (fun id hid => ?_), ?_⟩
  · rw [htake]
    by_cases hlt : t < s.tm.length
    · rw [apps_slot _ _ _ hlt, apps_slot _ _ _ hlt]
      refine sel_fold (fun f v => slotA f t v) _ _ fs 0 _ fun j g hg hne y => ?_
      unfold slotA
      rw [if_neg (fun hd => (differ j g hg hne).s1 t hd ht)]
    · rw [List.getD_eq_getElem?_getD, List.getD_eq_getElem?_getD, List.getElem?_eq_none (by rw [apps_len]; omega), List.getElem?_eq_none (by rw [apps_len]; omega)]
  · rw [← h2] at hid
    rw [htake, apps_get, apps_get]
    refine sel_fold (fun f x => getA f id x) _ _ fs 0 _ fun j g hg hne y => ?_
    exact keys_touch (fun hw => ((differ j g hg hne).w1 id hw).1 hid) y
  · rw [anyN_false]
    intro id hid
    refine men_apps (anyN_false.1 (hS.news f (List.mem_of_getElem? hf)) id hid) fun g hg => ?_
    obtain ⟨j, hj, hd⟩ := sel_mem hg
    rw [Nat.zero_add] at hd
    obtain ⟨p, hp⟩ := get j g hj
    have hji : j ≠ i := fun e => by subst e; rw [hnd] at hd; cases hd
    rcases Nat.lt_or_ge j i with hlt | hge
    · rcases hS.pair j i p g o f hlt hp hj hi hf with ⟨_, h3⟩ | ⟨_, h3⟩
      · exact anyN_false.1 h3 id hid
      · exact anyN_false.1 h3.n2 id hid
    · exact anyN_false.1 (free_of hS hcl hi hf hnd hr hp hj (.inr ⟨by omega, hd⟩)).n2 id hid

theorem Sim.step {i : Nat} {o : Oper} {f : Eff} (hi : ops[i]? = some o) (hf : fs[i]? = some f) (hnd : don l i = false) (hr : ∀ e ∈ o.after.toList, Region.binds .any e = true → don l e.on = true)
    (h : Sim X ρ (f.app (apps s (sel (don l) 0 fs))) a w) : Sim X ρ (apps s (sel (don (l.setIfInBounds i true)) 0 fs)) a w := by
  have hil : i < l.size := by rw [hsz]; exact (Array.getElem?_eq_some_iff.1 hi).1
  have hset : ∀ j, don (l.setIfInBounds i true) j = (decide (j = i) || don l j) := fun j => don_set hil
  have get : ∀ j g, fs[j]? = some g → ∃ p, ops[j]? = some p := fun j g hg => by
    have : j < fs.length := (List.getElem?_eq_some_iff.1 hg).1
    exact ⟨_, Array.getElem?_eq_getElem (by rw [← hS.len]; exact this)⟩
  have later : ∀ j g, i < j → fs[j]? = some g → don (l.setIfInBounds i true) (0 + j) = true → ∃ p, Free ops.toList p o g f := by
    intro j g hij hg hd
    rw [Nat.zero_add, hset] at hd
    obtain ⟨p, hp⟩ := get j g hg
    have hji : j ≠ i := by omega
    exact ⟨p, free_of hS hcl hi hf hnd hr hp hg (.inr ⟨hij, by simpa [hji] using hd⟩)⟩
  have differ : ∀ j g, fs[j]? = some g → don (l.setIfInBounds i true) (0 + j) ≠ don l (0 + j) → g = f := by
    intro j g hg hne
    rw [Nat.zero_add, hset] at hne
    by_cases hji : j = i
    · subst hji; rw [hf] at hg; cases hg; rfl
    · simp [hji] at hne
  refine h.same ?_ fun id => ?_
  · apply List.ext_getElem?
    intro t
    by_cases hlt : t < s.tm.length
    · have e1 : ∀ l : List V, l.length = s.tm.length → l[t]? = some (l.getD t .dead) := fun l hl => by
        rw [List.getD_eq_getElem?_getD, List.getElem?_eq_getElem (by omega)]; rfl
      rw [e1 _ (apps_len _ _), e1 _ (by rw [app_len, apps_len]), app_slot _ _ _ (by rw [apps_len]; exact hlt), apps_slot _ _ _ hlt, apps_slot _ _ _ hlt]
      congr 1
      by_cases hd : f.dst = some t
      · rw [show slotA f t _ = f.v from by unfold slotA; rw [if_pos hd]]
        refine sel_last (fun f v => slotA f t v) _ f.v fs 0 i _ f hf (by rw [Nat.zero_add, hset]; simp) (fun y => by simp only [slotA]; rw [if_pos hd]) (fun j g hij hg hdj y => ?_)
        obtain ⟨p, hfr⟩ := later j g hij hg hdj
        simp only [slotA]
        rw [if_neg (fun hgd => hfr.dst t hgd hd)]
      · rw [show ∀ v, slotA f t v = v from fun v => by unfold slotA; rw [if_neg hd]]
        refine sel_fold (fun f v => slotA f t v) _ _ fs 0 _ fun j g hg hne y => ?_
        rw [differ j g hg hne]
        simp only [slotA]; rw [if_neg hd]
    · rw [List.getElem?_eq_none (by rw [apps_len]; omega), List.getElem?_eq_none (by rw [app_len, apps_len]; omega)]
  · rw [app_get, apps_get, apps_get]
    by_cases ht : id ∈ keys f.put ∨ id ∈ f.del
    · have hw : id ∈ f.writes := by
        unfold Eff.writes
        rcases ht with h | h
        · exact List.mem_append_left _ h
        · exact List.mem_append_right _ (List.mem_append_left _ h)
      refine sel_last (fun f x => getA f id x) _ _ fs 0 i _ f hf (by rw [Nat.zero_add, hset]; simp) (fun y => touch_const ht _ _) (fun j g hij hg hdj y => ?_)
      obtain ⟨p, hfr⟩ := later j g hij hg hdj
      exact keys_touch (fun hgw => (hfr.w1 id hgw).2 hw) y
    · simp only [not_or] at ht
      rw [notouch ht.1 ht.2]
      refine sel_fold (fun f x => getA f id x) _ _ fs 0 _ fun j g hg hne y => ?_
      rw [differ j g hg hne]
      exact notouch ht.1 ht.2 y

end

theorem region_any (hp : PDok X.P X.pd) {env : Nat → Option Sg} (henv : ∀ f g, env f = some g → SgOK X.P X.pd.els f g) {ops : Array Oper} {s' : St} {fs : List Eff} (hS : Setup X env ops s fs s') {Q : Exit → Act → World → Prop} (hQ : ∀ ρ' a' w', Sim X ρ' s' a' w' → Q .normal a' w') :
    ∀ (fuel : Nat) (l : Array Bool) (ρ : Nat → RI) (a : Act) (w : World), l.size = ops.size → (∀ (j : Nat) (o : Oper), ops.toList[j]? = some o → don l j = true → ∀ e ∈ o.after.toList, Region.binds .any e = true → don l e.on = true) → l.toList.count false ≤ fuel →
      Sim X ρ (apps s (sel (don l) 0 fs)) a w → wpAny X.P .any ops Q fuel l a w := by
  have all : ∀ (l : Array Bool), l.size = ops.size → (∀ i, i < ops.size → don l i = true) → apps s (sel (don l) 0 fs) = s' := by
    intro l hl hd
    rw [hS.fin]
    have : sel (don l) 0 fs = fs.take fs.length := by
      rw [← sel_take fs 0 fs.length]
      have : ∀ (l' : List Eff) (i : Nat), i + l'.length = fs.length → sel (don l) i l' = sel (fun j => decide (j < 0 + fs.length)) i l' := by
        intro l'
        induction l' with
        | nil => intro i _; rfl
        | cons f l' ih =>
          intro i hi
          simp only [List.length_cons] at hi
          unfold sel
          rw [hd i (by rw [← hS.len]; omega), ih (i + 1) (by omega), if_pos rfl, if_pos (by simp; omega)]
      exact this fs 0 (by omega)
    rw [this, List.take_length]
  -- some is ready, unless all is done
  have some_ready : ∀ (l : Array Bool), l.size = ops.size → Region.ready .any ops l = [] → ∀ i, i < ops.size → don l i = true := by
    intro l hl hr i
    induction i using Nat.strongRecOn with
    | _ i ih =>
      intro hi
      cases hd : don l i with
      | true => rfl
      | false =>
        exfalso
        have : i ∈ Region.ready .any ops l := by
          rw [mem_ready]
          refine ⟨?_, ops[i], Array.getElem?_eq_getElem hi, fun e he hb => ?_⟩
          · unfold don at hd
            have : i < l.size := by omega
            simp [this] at hd ⊢; exact hd
          · have := hS.back i ops[i] (Array.getElem?_eq_getElem hi) e he hb
            exact ih e.on this (by omega)
        rw [hr] at this; cases this
  intro fuel
  induction fuel with
  | zero =>
    intro l ρ a w hl hcl hcnt h
    have hd : ∀ i, i < ops.size → don l i = true := by
      intro i hi
      have hil : i < l.size := by omega
      have h0 : l.toList.count false = 0 := by omega
      have := List.count_eq_zero.1 h0
      unfold don
      cases hv : l[i] with
      | true => simp [hil, hv]
      | false => exact absurd (by rw [← hv]; exact Array.getElem_mem_toList hil) this
    refine ⟨?_, hQ ρ a w (by rw [← all l hl hd]; exact h)⟩
    apply List.eq_nil_iff_forall_not_mem.2
    intro i hi
    rw [mem_ready] at hi
    obtain ⟨h1, o, ho, _⟩ := hi
    have hil : i < ops.size := (Array.getElem?_eq_some_iff.1 ho).1
    have := hd i hil
    unfold don at this
    have hil2 : i < l.size := by omega
    simp [hil2] at this h1
    rw [this] at h1; cases h1
  | succ fuel ih =>
    intro l ρ a w hl hcl hcnt h
    refine ⟨fun hr => hQ ρ a w (by rw [← all l hl (some_ready l hl hr)]; exact h), fun i hi => ?_⟩
    rw [mem_ready] at hi
    obtain ⟨h1, o, ho, hr⟩ := hi
    have hil : i < ops.size := (Array.getElem?_eq_some_iff.1 ho).1
    have hil2 : i < l.size := by omega
    have hnd : don l i = false := by unfold don; simp [hil2] at h1 ⊢; exact h1
    have hr' : ∀ e ∈ o.after.toList, Region.binds .any e = true → don l e.on = true := fun e he hb => hr e (by simpa using he) hb
    have hfl : i < fs.length := by rw [hS.len]; exact hil
    have hf : fs[i]? = some fs[i] := List.getElem?_eq_getElem hfl
    obtain ⟨hact, hnew⟩ := acts_any hS hcl ho hf hnd hr'
    refine hact.wpOp hp henv ho h hnew fun ρ' a' w' h' => ?_
    refine ih _ ρ' a' w' (by simpa using hl) (fun j p hj hd e he hb => ?_) ?_ (Sim.step hS hl hcl ho hf hnd hr' h')
    · rw [don_set hil2] at hd ⊢
      by_cases hji : j = i
      · subst hji
        rw [show p = o from by rw [Array.getElem?_toList, ho] at hj; cases hj; rfl] at he
        rw [hr' e he hb]; simp
      · rw [hcl j p hj (by simpa [hji] using hd) e he hb]; simp
    · have hli : l.toList[i]? = some false := by
        rw [Array.getElem?_toList, Array.getElem?_eq_getElem hil2]
        unfold don at hnd
        simp [hil2] at hnd
        rw [hnd]
      have : (l.setIfInBounds i true).toList.count false + 1 ≤ l.toList.count false := by
        rw [Array.toList_setIfInBounds, List.count_set (by simpa using hil2)]
        have h2 : l.toList[i]'(by simpa using hil2) = false := by
          rw [List.getElem?_eq_getElem (by simpa using hil2)] at hli
          simpa using hli
        have h3 : 0 < l.toList.count false := List.count_pos_iff.2 (by rw [← h2]; exact List.getElem_mem _)
        rw [h2]
        simp only [beq_self_eq_true, if_true, Bool.true_eq_false, beq_iff_eq, if_false]
        omega
      omega

theorem wp_draw (hp : PDok X.P X.pd) {env : Nat → Option Sg} (henv : ∀ f g, env f = some g → SgOK X.P X.pd.els f g) {ops : Array Oper} {s' : St} {fs : List Eff} (hc : Chain X.pd env ops.toList ops.toList s fs s') (ho : orderOK ops.toList s fs = true)
    {Q : Exit → Act → World → Prop} (hQ : ∀ ρ' a' w', Sim X ρ' s' a' w' → Q .normal a' w') (h : Sim X ρ s a w) (id : Nat) : (Code.region id ops true).wp X.P Q a w := by
  refine wp_region_any hp.mix ?_
  have h0 : ∀ j, don (Array.replicate ops.size false) j = false := fun j => by
    unfold don
    by_cases hj : j < ops.size <;> simp [hj]
  have hs0 : ∀ (l : List Eff) (i : Nat), sel (don (Array.replicate ops.size false)) i l = [] := by
    intro l
    induction l with
    | nil => intro i; rfl
    | cons f l ih => intro i; unfold sel; rw [h0, if_neg (by simp)]; exact ih _
  refine region_any hp henv (setup_of hc ho) hQ ops.size _ ρ a _ (by simp) (fun j o _ hd => by rw [h0] at hd; cases hd) (by simp) ?_
  rw [hs0]
  exact h.world (fun _ _ _ _ => rfl) ⟨h.fr.os, h.fr.tape, h.fr.output, h.fr.size, h.fr.block⟩

end Go.Proofs.Ytgimohchocjgcaa.V
