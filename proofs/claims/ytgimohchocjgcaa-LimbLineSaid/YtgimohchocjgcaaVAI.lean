/- Regions whose operations come in any order. -/
import Derived.Test.YtgimohchocjgcaaVAH
set_option linter.unusedVariables false
set_option linter.unusedSimpArgs false
namespace Go.Proofs.Ytgimohchocjgcaa.V

/-! ### Many effects -/

def apps (s : St) (l : List Eff) : St := l.foldl (fun s f => f.app s) s

def slotA (f : Eff) (t : Nat) (v : V) : V := if f.dst = some t then f.v else v

def getA (f : Eff) (id : Nat) (x : Option Ob) : Option Ob := putsA f.put id (if id ∈ f.del then none else x)

theorem setV_getD (l : List V) (d : Nat) (v : V) (t : Nat) (ht : t < l.length) : (setV l d v).getD t .dead = if d = t then v else l.getD t .dead := by
  rw [List.getD_eq_getElem?_getD, setV_get, List.getD_eq_getElem?_getD]
  by_cases h : t = d
  · subst h; simp [ht]
  · have h' : d ≠ t := fun e => h e.symm
    simp [h, h']

theorem app_len (f : Eff) (s : St) : (f.app s).tm.length = s.tm.length := by
  unfold Eff.app
  cases f.dst with
  | none => simp only [puts_tm, dels_tm]
  | some d => simp only [setV_length, puts_tm, dels_tm]

theorem app_slot (f : Eff) (s : St) (t : Nat) (ht : t < s.tm.length) : (f.app s).tm.getD t .dead = slotA f t (s.tm.getD t .dead) := by
  unfold Eff.app slotA
  cases hd : f.dst with
  | none => simp only [puts_tm, dels_tm]; simp
  | some d =>
    simp only
    rw [setV_getD _ _ _ _ (by rw [puts_tm, dels_tm]; exact ht), puts_tm, dels_tm]
    simp

theorem app_get (f : Eff) (s : St) (id : Nat) : (f.app s).get id = getA f id (s.get id) := by
  have : (f.app s).get id = ((s.dels f.del).puts f.put).get id := by
    unfold Eff.app
    cases f.dst <;> rfl
  rw [this, puts_get, dels_get]; rfl

theorem apps_cons (s : St) (f : Eff) (l : List Eff) : apps s (f :: l) = apps (f.app s) l := rfl

theorem apps_append (s : St) (l m : List Eff) : apps s (l ++ m) = apps (apps s l) m := by simp [apps, List.foldl_append]

theorem apps_len (l : List Eff) (s : St) : (apps s l).tm.length = s.tm.length := by
  induction l generalizing s with
  | nil => rfl
  | cons f l ih => rw [apps_cons, ih, app_len]

theorem apps_slot (l : List Eff) (s : St) (t : Nat) (ht : t < s.tm.length) : (apps s l).tm.getD t .dead = l.foldl (fun v f => slotA f t v) (s.tm.getD t .dead) := by
  induction l generalizing s with
  | nil => rfl
  | cons f l ih => rw [apps_cons, ih _ (by rw [app_len]; exact ht), List.foldl_cons, app_slot _ _ _ ht]

theorem apps_get (l : List Eff) (s : St) (id : Nat) : (apps s l).get id = l.foldl (fun x f => getA f id x) (s.get id) := by
  induction l generalizing s with
  | nil => rfl
  | cons f l ih => rw [apps_cons, ih, List.foldl_cons, app_get]

/-- Some of many, in their order. -/
def sel (D : Nat → Bool) : Nat → List Eff → List Eff
  | _, [] => []
  | i, f :: l => if D i then f :: sel D (i + 1) l else sel D (i + 1) l

/-- What does not touch may be left out. -/
theorem sel_fold {β : Type} (act : Eff → β → β) (D E : Nat → Bool) : ∀ (l : List Eff) (i : Nat) (x : β), (∀ j f, l[j]? = some f → D (i + j) ≠ E (i + j) → ∀ y, act f y = y) →
    (sel D i l).foldl (fun x f => act f x) x = (sel E i l).foldl (fun x f => act f x) x
  | [], _, _, _ => rfl
  | f :: l, i, x, h => by
    have ih := fun x => sel_fold act D E l (i + 1) x fun j g hj hne y => h (j + 1) g (by simpa using hj) (by simpa [Nat.add_assoc, Nat.add_comm 1] using hne) y
    have h0 := h 0 f rfl
    simp only [Nat.add_zero] at h0
    unfold sel
    cases hD : D i <;> cases hE : E i <;> simp only [Bool.false_eq_true, if_false, if_true, List.foldl_cons]
    · exact ih x
    · rw [h0 (by simp [hD, hE])]; exact ih x
    · rw [h0 (by simp [hD, hE])]; exact ih x
    · exact ih _

theorem sel_take : ∀ (l : List Eff) (i n : Nat), sel (fun j => decide (j < i + n)) i l = l.take n
  | [], i, n => by simp [sel]
  | f :: l, i, 0 => by
    have ih := sel_take l (i + 1) 0
    have h2 : ∀ (l : List Eff) (k : Nat), i ≤ k → sel (fun j => decide (j < i + 0)) k l = [] := by
      intro l
      induction l with
      | nil => intro k _; rfl
      | cons g l ih => intro k hk; simp only [sel]; rw [if_neg (by simp; omega)]; exact ih (k + 1) (by omega)
    rw [h2 _ _ (Nat.le_refl _)]; rfl
  | f :: l, i, n + 1 => by
    have ih := sel_take l (i + 1) n
    simp only [sel, List.take_succ_cons]
    rw [if_pos (by simp), show (fun j => decide (j < i + (n + 1))) = (fun j => decide (j < i + 1 + n)) from by funext j; congr 1; simp; omega]
    rw [ih]

/-- The last that touches decides. -/
theorem sel_last {β : Type} (act : Eff → β → β) (D : Nat → Bool) (c : β) : ∀ (l : List Eff) (i k : Nat) (x : β) (f : Eff), l[k]? = some f → D (i + k) = true → (∀ y, act f y = c) → (∀ j g, k < j → l[j]? = some g → D (i + j) = true → ∀ y, act g y = y) →
    (sel D i l).foldl (fun x f => act f x) x = c
  | [], _, _, _, _, h, _, _, _ => by simp at h
  | g :: l, i, 0, x, f, h, hD, hc, hr => by
    simp only [List.getElem?_cons_zero, Option.some.injEq] at h
    subst h
    unfold sel
    rw [if_pos (by simpa using hD), List.foldl_cons, hc]
    have : ∀ (l : List Eff) (i : Nat), (∀ j g, l[j]? = some g → D (i + j) = true → ∀ y, act g y = y) → ∀ x, (sel D i l).foldl (fun x f => act f x) x = x := by
      intro l
      induction l with
      | nil => intro _ _ _; rfl
      | cons f l ih =>
        intro i h x
        have h0 := h 0 f rfl
        unfold sel
        split
        · rw [List.foldl_cons, h0 (by simpa using ‹D i = true›)]
          exact ih _ (fun j g hj hD => h (j + 1) g (by simpa using hj) (by simpa [Nat.add_assoc, Nat.add_comm 1] using hD)) _
        · exact ih _ (fun j g hj hD => h (j + 1) g (by simpa using hj) (by simpa [Nat.add_assoc, Nat.add_comm 1] using hD)) _
    exact this l (i + 1) (fun j g hj hD => hr (j + 1) g (by omega) (by simpa using hj) (by simpa [Nat.add_assoc, Nat.add_comm 1] using hD)) c
  | g :: l, i, k + 1, x, f, h, hD, hc, hr => by
    unfold sel
    have := fun x => sel_last act D c l (i + 1) k x f (by simpa using h) (by simpa [Nat.add_assoc, Nat.add_comm 1] using hD) hc (fun j g hj hg hD => hr (j + 1) g (by omega) (by simpa using hg) (by simpa [Nat.add_assoc, Nat.add_comm 1] using hD))
    split
    · rw [List.foldl_cons]; exact this _
    · exact this _

/-! ### Which objects are spoken of -/

theorem men_setV {l : List V} {d : Nat} {v : V} {id : Nat} (h : menVs id l = false) (hv : v.men id = false) : menVs id (setV l d v) = false := by
  induction l generalizing d with
  | nil => rfl
  | cons x l ih =>
    simp only [menVs] at h
    cases hx : x.men id with
    | true => simp [hx] at h
    | false =>
      simp only [hx, cond_false] at h
      cases d with
      | zero => simp [setV, menVs, hv, h]
      | succ d => simp [setV, menVs, hx, ih h]

theorem men_puts {s : St} {l : List (Nat × Ob)} {id : Nat} (h : s.men id = false) (hl : menObs id l = false) : (s.puts l).men id = false := by
  induction l generalizing s with
  | nil => exact h
  | cons p l ih =>
    obtain ⟨j, x⟩ := p
    simp only [menObs] at hl
    cases h1 : Nat.beq j id with
    | true => simp [h1] at hl
    | false =>
      cases h2 : x.o.men id with
      | true => simp [h1, h2] at hl
      | false =>
        simp only [h1, h2, cond_false] at hl
        rw [puts_cons]
        refine ih (men_put h ?_ h2) hl
        intro e
        subst e
        simp at h1

theorem men_app {f : Eff} {s : St} {id : Nat} (h : s.men id = false) (hf : f.men id = false) : (f.app s).men id = false := by
  unfold Eff.men at hf
  cases hv : f.v.men id with
  | true => simp [hv] at hf
  | false =>
    simp only [hv, cond_false] at hf
    have h1 : ((s.dels f.del).puts f.put).men id = false := men_puts (men_dels h) hf
    unfold Eff.app
    cases f.dst with
    | none => exact h1
    | some d =>
      simp only
      unfold St.men at h1 ⊢
      cases h2 : menVs id ((s.dels f.del).puts f.put).tm with
      | true => simp [h2] at h1
      | false =>
        simp only [h2, cond_false] at h1
        simp only [men_setV h2 hv, cond_false]
        exact h1

theorem men_apps {l : List Eff} {s : St} {id : Nat} (h : s.men id = false) (hl : ∀ f ∈ l, f.men id = false) : (apps s l).men id = false := by
  induction l generalizing s with
  | nil => exact h
  | cons f l ih => rw [apps_cons]; exact ih (men_app h (hl f (by simp))) fun g hg => hl g (by simp [hg])

theorem sel_mem {D : Nat → Bool} {f : Eff} : ∀ {l : List Eff} {i : Nat}, f ∈ sel D i l → ∃ j, l[j]? = some f ∧ D (i + j) = true
  | [], _, h => by cases h
  | g :: l, i, h => by
    unfold sel at h
    split at h
    · rcases List.mem_cons.1 h with rfl | h
      · exact ⟨0, rfl, by simpa using ‹D i = true›⟩
      · obtain ⟨j, h1, h2⟩ := sel_mem h
        exact ⟨j + 1, by simpa using h1, by simpa [Nat.add_assoc, Nat.add_comm 1] using h2⟩
    · obtain ⟨j, h1, h2⟩ := sel_mem h
      exact ⟨j + 1, by simpa using h1, by simpa [Nat.add_assoc, Nat.add_comm 1] using h2⟩

/-! ### What the order's check says -/


theorem anyN_false {p : Nat → Bool} {l : List Nat} : anyN p l = false ↔ ∀ n ∈ l, p n = false := by
  induction l with
  | nil => simp [anyN]
  | cons m l ih =>
    simp only [anyN, List.forall_mem_cons]
    cases h : p m with
    | true => simp
    | false => simp [ih]

theorem keys_touch {f : Eff} {id : Nat} (h : id ∉ f.writes) (x : Option Ob) : getA f id x = x := by
  unfold Eff.writes at h
  simp only [List.mem_append, not_or] at h
  unfold getA
  rw [if_neg h.2.1]
  have : ∀ (l : List (Nat × Ob)) (x : Option Ob), id ∉ keys l → putsA l id x = x := by
    intro l
    induction l with
    | nil => intro x _; rfl
    | cons p l ih =>
      obtain ⟨j, y⟩ := p
      intro x h
      simp only [keys, List.mem_cons, not_or] at h
      simp only [putsA, List.foldl_cons]
      rw [if_neg (fun e => h.1 e.symm)]
      exact ih x h.2
  exact this _ _ h.1

theorem touch_const {f : Eff} {id : Nat} (h : id ∈ keys f.put ∨ id ∈ f.del) (x y : Option Ob) : getA f id x = getA f id y := by
  unfold getA
  rcases h with h | h
  · have : ∀ (l : List (Nat × Ob)) (x y : Option Ob), id ∈ keys l → putsA l id x = putsA l id y := by
      intro l
      induction l with
      | nil => intro _ _ h; cases h
      | cons p l ih =>
        obtain ⟨j, z⟩ := p
        intro x y h
        simp only [putsA, List.foldl_cons]
        by_cases hj : j = id
        · simp [hj]
        · simp only [keys, List.mem_cons] at h
          rcases h with h | h
          · exact absurd h.symm hj
          · simp only [if_neg hj]; exact ih _ _ h
    exact this _ _ _ h
  · simp [h]

theorem notouch {f : Eff} {id : Nat} (h1 : id ∉ keys f.put) (h2 : id ∉ f.del) (x : Option Ob) : getA f id x = x := by
  have := keys_touch (f := ⟨f.dst, f.v, f.put, f.del, [], f.rd⟩) (id := id) (by simp [Eff.writes, h1, h2]) x
  exact this



theorem pairs1_spec {ops : List Oper} {i : Nat} {o : Oper} {f : Eff} : ∀ {ps : List Oper} {gs : List Eff} {bs : List Nat}, pairs1 ops i o f ps gs bs = true → ∀ (m : Nat) (p : Oper) (g : Eff) (b : Nat), ps[m]? = some p → gs[m]? = some g → bs[m]? = some b →
    (b.testBit i = true ∧ anyN f.men g.new = false) ∨ (b.testBit i = false ∧ clash ops o p f g = false)
  | [], _, _, _, m, p, g, b, h, _, _ => by simp at h
  | _ :: _, [], _, _, m, p, g, b, _, h, _ => by simp at h
  | _ :: _, _ :: _, [], _, m, p, g, b, _, _, h => by simp at h
  | p0 :: ps, g0 :: gs, b0 :: bs, h, m, p, g, b, h1, h2, h3 => by
    unfold pairs1 at h
    cases hb : Nat.testBit b0 i with
    | true =>
      simp only [hb, cond_true] at h
      obtain ⟨hm, h⟩ := cond_false_of h
      cases m with
      | zero => simp at h1 h2 h3; subst h1; subst h2; subst h3; exact .inl ⟨hb, hm⟩
      | succ m => exact pairs1_spec h m p g b (by simpa using h1) (by simpa using h2) (by simpa using h3)
    | false =>
      simp only [hb, cond_false] at h
      obtain ⟨hm, h⟩ := cond_false_of h
      cases m with
      | zero => simp at h1 h2 h3; subst h1; subst h2; subst h3; exact .inr ⟨hb, hm⟩
      | succ m => exact pairs1_spec h m p g b (by simpa using h1) (by simpa using h2) (by simpa using h3)
theorem pairs_spec {ops : List Oper} : ∀ {ps : List Oper} {gs : List Eff} {bs : List Nat} {i : Nat}, pairs ops i ps gs bs = true → ∀ (k m : Nat) (o : Oper) (f : Eff) (p : Oper) (g : Eff) (b : Nat), k < m → ps[k]? = some o → gs[k]? = some f → ps[m]? = some p → gs[m]? = some g → bs[m]? = some b →
    (b.testBit (i + k) = true ∧ anyN f.men g.new = false) ∨ (b.testBit (i + k) = false ∧ clash ops o p f g = false)
  | [], _, _, _, _, k, m, o, f, p, g, b, _, h, _, _, _, _ => by simp at h
  | _ :: _, [], _, _, _, k, m, o, f, p, g, b, _, _, h, _, _, _ => by simp at h
  | _ :: _, _ :: _, [], _, _, k, m, o, f, p, g, b, _, _, _, _, _, h => by simp at h
  | o0 :: ps, f0 :: gs, b0 :: bs, i, h, k, m, o, f, p, g, b, hkm, h1, h2, h3, h4, h5 => by
    unfold pairs at h
    cases hp : pairs1 ops i o0 f0 ps gs bs with
    | false => simp [hp] at h
    | true =>
      simp only [hp, cond_true] at h
      cases m with
      | zero => omega
      | succ m =>
        cases k with
        | zero =>
          simp at h1 h2
          subst h1; subst h2
          exact pairs1_spec hp m p g b (by simpa using h3) (by simpa using h4) (by simpa using h5)
        | succ k =>
          have := pairs_spec h k m o f p g b (by omega) (by simpa using h1) (by simpa using h2) (by simpa using h3) (by simpa using h4) (by simpa using h5)
          rw [show i + (k + 1) = i + 1 + k from by omega]
          exact this

theorem newsOK_spec {s : St} {fs : List Eff} (h : newsOK s fs = true) : ∀ f ∈ fs, anyN s.men f.new = false := by
  induction fs with
  | nil => intro f hf; cases hf
  | cons g fs ih =>
    unfold newsOK at h
    cases hg : anyN s.men g.new with
    | true => simp [hg] at h
    | false =>
      simp only [hg, cond_false] at h
      intro f hf
      rcases List.mem_cons.1 hf with rfl | hf
      · exact hg
      · exact ih h f hf

theorem edgesBack_spec {i : Nat} {l : List Edge} (h : edgesBack i l = true) : ∀ e ∈ l, Region.binds .any e = true → e.on < i := by
  induction l with
  | nil => intro e he; cases he
  | cons g l ih =>
    unfold edgesBack at h
    intro e he hb
    rcases List.mem_cons.1 he with rfl | he
    · simp only [hb, cond_true] at h
      cases hl : Nat.blt e.on i with
      | false => simp [hl] at h
      | true => simpa [Nat.blt_eq] using hl
    · refine ih ?_ e he hb
      cases hg : Region.binds .any g with
      | false => simpa [hg] using h
      | true =>
        simp only [hg, cond_true] at h
        cases hl : Nat.blt g.on i with
        | false => simp [hl] at h
        | true => simpa [hl] using h

theorem allBack_spec : ∀ {l : List Oper} {i : Nat}, allBack i l = true → ∀ k o, l[k]? = some o → ∀ e ∈ o.after.toList, Region.binds .any e = true → e.on < i + k
  | [], _, _, k, o, h => by simp at h
  | p :: l, i, h, k, o, ho => by
    unfold allBack at h
    cases he : edgesBack i p.after.toList with
    | false => simp [he] at h
    | true =>
      simp only [he, cond_true] at h
      cases k with
      | zero => simp at ho; subst ho; exact edgesBack_spec he
      | succ k =>
        have := allBack_spec h k o (by simpa using ho)
        rw [show i + (k + 1) = i + 1 + k from by omega]
        exact this

theorem befOf_spec {done : List Nat} {l : List Edge} {i : Nat} (h : Nat.testBit (befOf done l) i = true) : ∃ e ∈ l, Region.binds .any e = true ∧ (e.on = i ∨ Nat.testBit (done.getD e.on 0) i = true) := by
  induction l with
  | nil => simp [befOf] at h
  | cons g l ih =>
    unfold befOf at h
    cases hg : Region.binds .any g with
    | false =>
      simp only [hg, cond_false] at h
      obtain ⟨e, h1, h2⟩ := ih h
      exact ⟨e, List.mem_cons_of_mem _ h1, h2⟩
    | true =>
      simp only [hg, cond_true] at h
      have h' : Nat.testBit ((2 ^ g.on ||| done.getD g.on 0) ||| befOf done l) i = true := h
      simp only [Nat.testBit_or, Bool.or_eq_true, Nat.testBit_two_pow, decide_eq_true_eq] at h'
      rcases h' with (h1 | h1) | h1
      · exact ⟨g, List.mem_cons_self, hg, .inl h1⟩
      · exact ⟨g, List.mem_cons_self, hg, .inr h1⟩
      · obtain ⟨e, h1, h2⟩ := ih h1
        exact ⟨e, List.mem_cons_of_mem _ h1, h2⟩

theorem befs_spec : ∀ (l : List Oper) (done : List Nat), ∃ r, befs done l = done ++ r ∧ r.length = l.length ∧ ∀ k o, l[k]? = some o → ∀ i, ((done ++ r).getD (done.length + k) 0).testBit i = true → ∃ e ∈ o.after.toList, Region.binds .any e = true ∧ (e.on = i ∨ (e.on < done.length + k ∧ ((done ++ r).getD e.on 0).testBit i = true))
  | [], done => ⟨[], by simp [befs], rfl, fun k o h => by simp at h⟩
  | o :: l, done => by
    obtain ⟨r, h1, h2, h3⟩ := befs_spec l (done ++ [befOf done o.after.toList])
    refine ⟨befOf done o.after.toList :: r, by simp [befs, h1], by simp [h2], fun k p hk i hi => ?_⟩
    cases k with
    | zero =>
      simp at hk
      subst hk
      rw [Nat.add_zero, List.getD_eq_getElem?_getD, List.getElem?_append_right (Nat.le_refl _)] at hi
      simp only [Nat.sub_self, List.getElem?_cons_zero, Option.getD_some] at hi
      obtain ⟨e, e1, e2, e3⟩ := befOf_spec hi
      refine ⟨e, e1, e2, e3.imp id fun e3 => ?_⟩
      have hlt : e.on < done.length := by
        rcases Nat.lt_or_ge e.on done.length with h | h
        · exact h
        · rw [List.getD_eq_getElem?_getD, List.getElem?_eq_none h] at e3; simp at e3
      refine ⟨by omega, ?_⟩
      rw [List.getD_eq_getElem?_getD, List.getElem?_append_left hlt, ← List.getD_eq_getElem?_getD]
      exact e3
    | succ k =>
      have := h3 k p (by simpa using hk) i (by
        simp only [List.append_assoc, List.singleton_append, List.length_append, List.length_singleton]
        rw [show done.length + 1 + k = done.length + (k + 1) from by omega]; exact hi)
      simp only [List.append_assoc, List.singleton_append, List.length_append, List.length_singleton] at this
      rw [show done.length + 1 + k = done.length + (k + 1) from by omega] at this
      exact this

end Go.Proofs.Ytgimohchocjgcaa.V
