/- At a loop's head: what is forgotten, what is numbered anew. -/
import Derived.Test.YtgimohchocjgcaaVAJ
set_option linter.unusedVariables false
set_option linter.unusedSimpArgs false
namespace Go.Proofs.Ytgimohchocjgcaa.V

variable {X : Ctx} {ρ : Nat → RI} {s : St} {a : Act} {w : World}

/-! ### Shapes -/

theorem castL_same {f e : El} {l : List f.T} {m : List e.T} (h : castL f e l = some m) : (⟨f, l⟩ : (e : El) × List e.T) = ⟨e, m⟩ := by
  obtain ⟨rfl, h⟩ := castL_spec h
  change l = m at h
  subst h; rfl

theorem CS.dec_ok {c : CS} {x : C} {y : c.T} (h : c.dec x = some y) : c.enc y = x ∨ c.enc y = .dead := by
  cases c with
  | dead => right; rfl
  | u64 => left; unfold CS.dec at h; simp only [C.u64?] at h; split at h <;> cases h; rfl
  | u32 => left; unfold CS.dec at h; simp only [C.u32?] at h; split at h <;> cases h; rfl
  | u8 => left; unfold CS.dec at h; simp only [C.u8?] at h; split at h <;> cases h; rfl
  | int => left; unfold CS.dec at h; simp only [C.int?] at h; split at h <;> cases h; rfl
  | bool => left; unfold CS.dec at h; simp only [C.bool?] at h; split at h <;> cases h; rfl
  | str => left; unfold CS.dec at h; simp only [C.str?] at h; split at h <;> cases h; rfl
  | nilp => left; unfold CS.dec at h; simp only [C.nilp?] at h; split at h <;> cases h; rfl
  | ro e =>
    left
    unfold CS.dec at h
    simp only [C.ro?] at h
    split at h
    · have := castL_same h
      cases this
      rfl
    · cases h
  | row id =>
    left
    unfold CS.dec at h
    simp only [C.row?] at h
    split at h
    · obtain ⟨h1, h2⟩ := cond_some h
      rw [CS.enc, Nat.beq_true h1]
    · cases h
  | sl id =>
    left
    unfold CS.dec at h
    simp only [C.sl?] at h
    split at h
    · obtain ⟨h1, h2⟩ := cond_some h
      cases h2
      have e1 := Nat.beq_true h1
      subst e1; rfl
    · cases h
  | ptr id sub =>
    left
    unfold CS.dec at h
    simp only [C.ptr?] at h
    split at h
    · obtain ⟨h1, h2⟩ := cond_some h
      cases h2
      simp only [Bool.and_eq_true] at h1
      have e1 := Nat.beq_true h1.1
      have e2 := Nat.beq_true h1.2
      subst e1; subst e2; rfl
    · cases h
  | ptr0 id sub =>
    left
    unfold CS.dec at h
    simp only [C.ptr0?] at h
    split at h
    · obtain ⟨h1, h2⟩ := cond_some h
      cases h2
      simp only [Bool.and_eq_true] at h1
      have e1 := Nat.beq_true h1.1
      have e2 := Nat.beq_true h1.2.1
      have e3 := Nat.beq_true h1.2.2
      subst e1; subst e2; subst e3; rfl
    · cases h

theorem RC_dec {c : CS} {x : C} {y : c.T} {v : Value} (h : c.dec x = some y) (hr : RC X ρ x v) : RC X ρ (c.enc y) v := by
  rcases CS.dec_ok h with h | h
  · rw [h]; exact hr
  · rw [h]; trivial

theorem decCs_cons {c : CS} {l : List CS} {xs : List C} {y : TCs (c :: l)} (h : decCs (c :: l) xs = some y) : ∃ x r p q, xs = x :: r ∧ y = (p, q) ∧ c.dec x = some p ∧ decCs l r = some q := by
  unfold decCs at h
  cases xs with
  | nil => cases h
  | cons x r =>
    simp only at h
    cases hp : c.dec x with
    | none => rw [hp] at h; cases h
    | some p =>
      rw [hp] at h
      simp only at h
      cases hq : decCs l r with
      | none => rw [hq] at h; cases h
      | some q => rw [hq] at h; cases h; exact ⟨x, r, p, q, rfl, rfl, hp, hq⟩

theorem decCs_nil {xs : List C} {y : TCs []} (h : decCs [] xs = some y) : xs = [] := by
  cases xs with
  | nil => rfl
  | cons x r => cases h

theorem RCs_dec {l : List CS} {xs : List C} {y : TCs l} {vs : List Value} (h : decCs l xs = some y) (hr : RCs X ρ xs vs) : RCs X ρ (encCs l y) vs := by
  induction l generalizing xs vs with
  | nil => rw [decCs_nil h] at hr; exact hr
  | cons c l ih =>
    obtain ⟨x, r, p, q, rfl, rfl, hp, hq⟩ := decCs_cons h
    cases vs with
    | nil => exact hr.elim
    | cons v vs => exact ⟨RC_dec hp hr.1, ih hq hr.2⟩

theorem decCs_len {l : List CS} {xs : List C} {y : TCs l} (h : decCs l xs = some y) : (encCs l y).length = xs.length := by
  induction l generalizing xs with
  | nil => rw [decCs_nil h]; rfl
  | cons c l ih =>
    obtain ⟨x, r, p, q, rfl, rfl, hp, hq⟩ := decCs_cons h
    simp [encCs, ih hq]

theorem RU_dec {u : US} {x : U} {y : u.T} {v : Value} (h : u.dec x = some y) (hr : RU X ρ x v) : RU X ρ (u.enc y) v := by
  cases u with
  | c c =>
    unfold US.dec at h
    cases x with
    | c x => exact RC_dec h hr
    | _ => cases h
  | agg l =>
    unfold US.dec at h
    cases x with
    | agg r => obtain ⟨vs, h1, h2⟩ := hr; exact ⟨vs, h1, RCs_dec h h2⟩
    | _ => cases h
  | vec e =>
    unfold US.dec at h
    cases x with
    | vec f l =>
      have := castL_same h
      cases this
      exact hr
    | _ => cases h

theorem RV_dec {v : VS} {x : V} {y : v.T} {z : Value} (h : v.dec x = some y) (hr : RV X ρ x z) : RV X ρ (v.enc y) z := by
  cases v with
  | u u =>
    unfold VS.dec at h
    cases x with
    | u x => exact RU_dec h hr
    | _ => cases h
  | dead => trivial

theorem decVs_ok {l : List (Nat × VS)} {xs b : List V} {y : TVs l} (h : decVs xs l = some y) (hb : b.length = xs.length) (hb2 : ∀ (t : Nat) (v : V), b[t]? = some v → v = .dead) :
    (encVs b l y).length = xs.length ∧ ∀ (t : Nat) (v : V), (encVs b l y)[t]? = some v → ∃ x, xs[t]? = some x ∧ ∀ (X : Ctx) (ρ : Nat → RI) (z : Value), RV X ρ x z → RV X ρ v z := by
  induction l with
  | nil =>
    refine ⟨hb, fun t v hv => ?_⟩
    have hv' : b[t]? = some v := hv
    have hlt : t < xs.length := by rw [← hb]; exact (List.getElem?_eq_some_iff.1 hv').1
    exact ⟨_, List.getElem?_eq_getElem hlt, fun X ρ z _ => by rw [hb2 t v hv']; trivial⟩
  | cons c l ih =>
    unfold decVs at h
    cases hp : c.2.dec (xs.getD c.1 .dead) with
    | none => rw [hp] at h; cases h
    | some p =>
      rw [hp] at h
      simp only at h
      cases hq : decVs xs l with
      | none => rw [hq] at h; cases h
      | some q =>
        rw [hq] at h
        cases h
        obtain ⟨h1, h2⟩ := ih hq
        refine ⟨by simp only [encVs]; rw [setV_length]; exact h1, fun t v hv => ?_⟩
        simp only [encVs] at hv
        rw [setV_get] at hv
        split at hv
        · rename_i ht
          simp only [Option.some.injEq] at hv
          subst hv
          obtain ⟨rfl, hlt⟩ := ht
          rw [h1] at hlt
          refine ⟨_, List.getElem?_eq_getElem hlt, fun X ρ z hz => ?_⟩
          rw [List.getD_eq_getElem?_getD, List.getElem?_eq_getElem hlt, Option.getD_some] at hp
          exact RV_dec hp hz
        · exact h2 t v hv

/-- An object of which less is known. -/
def Less (x y : Ob) : Prop := y.row = x.row ∧ y.n = x.n ∧ y.ty = x.ty ∧ y.o.cells.length = x.o.cells.length ∧ y.o.sz = x.o.sz ∧ y.o.len = x.o.len ∧ (∀ e l, x.o = .vec e l → y.o = .vec e l) ∧ (∀ e l, y.o = .vec e l → x.o = .vec e l) ∧
  ∀ (X : Ctx) (ρ : Nat → RI) (vs : List Value), RCs X ρ x.o.cells vs → RCs X ρ y.o.cells vs

theorem RO.less {id : Nat} {x y : Ob} (h : Less x y) (hr : RO X ρ w id x) : RO X ρ w id y := by
  obtain ⟨h1, h2, h3, h4, h5, h6, h7, h7', h8⟩ := h
  refine ⟨by rw [h5]; exact hr.sz, by rw [h6]; exact hr.len, fun hrow hn0 e l he => by rw [h2]; exact hr.n (by rw [← h1]; exact hrow) (by rw [← h2]; exact hn0) e l (h7' e l he), fun hrow => ?_, ?_⟩
  · obtain ⟨⟨e, l, he⟩, hn⟩ := hr.vec (by rw [← h1]; exact hrow)
    exact ⟨⟨e, l, h7 e l he⟩, by rw [h2]; exact hn⟩
  · rcases hr.mem with ⟨m1, m2, m3⟩ | ⟨vs, ty, cap, m1, m2, m3, m4, m5⟩
    · left
      refine ⟨by rw [h1]; exact m1, m2, ?_⟩
      rw [m3] at h4
      exact List.eq_nil_of_length_eq_zero h4
    · right
      exact ⟨vs, ty, cap, m1, by rw [h4]; exact h8 _ _ _ m2, by rw [h4]; exact m3, fun hrow => by rw [h4, h3]; exact m4 (by rw [← h1]; exact hrow), fun hrow => by rw [h3, h6, h5]; exact m5 (by rw [← h1]; exact hrow)⟩

theorem OS.dec_less {o : OS} {x : O} {y : o.T} (h : o.dec x = some y) (row : Bool) (n : Nat) (ty : TypeId) : Less ⟨row, n, ty, x⟩ ⟨row, n, ty, o.enc y⟩ := by
  cases o with
  | lit l =>
    unfold OS.dec at h
    cases x with
    | lit r =>
      have h' : decCs l r = some y := h
      have hl := decCs_len h'
      exact ⟨rfl, rfl, rfl, hl, hl, rfl, fun e l h => O.noConfusion h, fun e l h => O.noConfusion h, fun X ρ vs hr => RCs_dec h' hr⟩
    | vec f l => cases h
  | vec e =>
    unfold OS.dec at h
    cases x with
    | lit r => cases h
    | vec f l =>
      have := castL_same h
      cases this
      exact ⟨rfl, rfl, rfl, rfl, rfl, rfl, fun _ _ h => h, fun _ _ h => h, fun _ _ _ h => h⟩

theorem decObs_ok {l : List (Nat × ObS)} {xs : List (Nat × Ob)} {y : TObs l} (h : decObs l xs = some y) : ∀ id z, look id (encObs l y) = some z → ∃ x, look id xs = some x ∧ Less x z := by
  induction l generalizing xs with
  | nil => intro id z hz; cases hz
  | cons c l ih =>
    obtain ⟨i, c⟩ := c
    cases xs with
    | nil => cases h
    | cons x xs =>
      obtain ⟨j, x⟩ := x
      unfold decObs at h
      simp only at h
      obtain ⟨h1, h2⟩ := cond_some h
      cases hp : c.o.dec x.o with
      | none => rw [hp] at h2; cases h2
      | some p =>
        rw [hp] at h2
        simp only at h2
        cases hq : decObs l xs with
        | none => rw [hq] at h2; cases h2
        | some q =>
          rw [hq] at h2
          cases h2
          simp only [Bool.and_eq_true, beq_iff_eq] at h1
          obtain ⟨e1, e2, e3, e4⟩ := h1
          intro id z hz
          simp only [encObs, look] at hz ⊢
          rw [Nat.beq_true e1]
          cases hb : Nat.beq i id with
          | true =>
            simp only [hb, cond_true, Option.some.injEq] at hz ⊢
            subst hz
            refine ⟨x, rfl, ?_⟩
            have := OS.dec_less hp c.row c.n c.ty
            have hx : x = ⟨c.row, c.n, c.ty, x.o⟩ := by
              obtain ⟨r, n, t, o⟩ := x
              simp only at e2 e3 e4 ⊢
              rw [e2, Nat.beq_true e3, Nat.beq_true e4]
            rw [← hx] at this
            exact this
          | false =>
            simp only [hb, cond_false] at hz ⊢
            exact ih hq id z hz

theorem Sim.dec (h : Sim X ρ s a w) {sh : Shape} {x : sh.T} (hd : sh.dec s = some x) : Sim X ρ (sh.enc x) a w := by
  unfold Shape.dec at hd
  obtain ⟨hn, hd⟩ := cond_some hd
  have hn' := Nat.beq_true hn
  cases hp : decVs s.tm sh.tm with
  | none => rw [hp] at hd; cases hd
  | some p =>
    rw [hp] at hd
    simp only at hd
    cases hq : decObs sh.ob s.ob with
    | none => rw [hq] at hd; cases hd
    | some q =>
      rw [hq] at hd
      cases hd
      obtain ⟨h1, h2⟩ := decVs_ok (b := List.replicate sh.n .dead) hp (by simp [hn']) (fun t v hv => by
        rw [List.getElem?_replicate] at hv
        split at hv
        · simpa using hv.symm
        · cases hv)
      have h3 := decObs_ok hq
      have hB : ∀ id x z, Less x z → hasB ρ id z → hasB ρ id x := fun id x z hl hb => by unfold hasB at *; rw [← hl.1]; exact hb
      refine ⟨fun t v hv => ?_, by simp only [Shape.enc]; rw [h1]; exact h.sz, h.df, fun id z hz => ?_, fun i j y z hy hz hij hb1 hb2 => ?_, fun id z hz hb => ?_, h.fr⟩
      · obtain ⟨x, hx, hr⟩ := h2 t v hv
        exact hr _ _ _ (h.tm t x hx)
      · obtain ⟨x, hx, hl⟩ := h3 id z hz
        exact (h.ob id x hx).less hl
      · obtain ⟨y', hy', hl1⟩ := h3 i y hy
        obtain ⟨z', hz', hl2⟩ := h3 j z hz
        exact h.inj i j y' z' hy' hz' hij (hB _ _ _ hl1 hb1) (hB _ _ _ hl2 hb2)
      · obtain ⟨x, hx, hl⟩ := h3 id z hz
        exact h.own id x hx (hB _ _ _ hl hb)

/-! ### Numbered anew -/

theorem addN_nodup {l acc : List Nat} (h : acc.Nodup) : (addN acc l).Nodup := by
  induction l generalizing acc with
  | nil => exact h
  | cons n l ih =>
    unfold addN
    cases hm : memN n acc with
    | true => exact ih h
    | false =>
      refine ih ?_
      rw [List.nodup_append]
      refine ⟨h, by simp, fun a ha b hb => ?_⟩
      simp only [List.mem_singleton] at hb
      subst hb
      intro e
      subst e
      exact memN_false.1 hm ha

theorem pinIds_nodup (ob : List (Nat × Ob)) : (pinIds ob).Nodup := by
  induction ob with
  | nil => exact List.nodup_nil
  | cons p l ih =>
    obtain ⟨id, x⟩ := p
    unfold pinIds
    cases (!x.row && Nat.ble PIN x.ty)
    · exact ih
    · exact addN_nodup ih

theorem idsOf_nodup {l : List V} {acc : List Nat} (h : acc.Nodup) : (idsOf acc l).Nodup := by
  induction l generalizing acc with
  | nil => exact h
  | cons v l ih => exact ih (addN_nodup h)

theorem moreIds_nodup {ob : List (Nat × Ob)} {l acc : List Nat} (h : acc.Nodup) : (moreIds ob acc l).Nodup := by
  induction l generalizing acc with
  | nil => exact h
  | cons n l ih =>
    unfold moreIds
    split
    · exact ih (addN_nodup h)
    · exact ih h

/-- Old numbers and new ones: each once. -/
structure Ren (m : List (Nat × Nat)) : Prop where
  fst : (m.map (·.1)).Nodup
  snd : (m.map (·.2)).Nodup

theorem number_spec {ob : List (Nat × Ob)} : ∀ {l : List Nat} {b : Nat}, l.Nodup → (∀ p ∈ number ob b l, p.1 ∈ l ∧ b ≤ p.2) ∧ Ren (number ob b l)
  | [], b, _ => ⟨fun p hp => by simp [number] at hp, ⟨by simp [number], by simp [number]⟩⟩
  | id :: l, b, h => by
    rw [List.nodup_cons] at h
    unfold number
    cases look id ob with
    | none =>
      obtain ⟨h1, h2⟩ := number_spec (ob := ob) (b := b) h.2
      exact ⟨fun p hp => ⟨List.mem_cons_of_mem _ (h1 p hp).1, (h1 p hp).2⟩, h2⟩
    | some x =>
      obtain ⟨h1, h2⟩ := number_spec (ob := ob) (b := b + 1) h.2
      refine ⟨fun p hp => ?_, ⟨?_, ?_⟩⟩
      · rcases List.mem_cons.1 hp with rfl | hp
        · exact ⟨List.mem_cons_self, Nat.le_refl _⟩
        · have := h1 p hp; exact ⟨List.mem_cons_of_mem _ this.1, by omega⟩
      · simp only [List.map_cons, List.nodup_cons]
        refine ⟨fun hm => ?_, h2.fst⟩
        obtain ⟨p, hp, he⟩ := List.mem_map.1 hm
        exact h.1 (he ▸ (h1 p hp).1)
      · simp only [List.map_cons, List.nodup_cons]
        refine ⟨fun hm => ?_, h2.snd⟩
        obtain ⟨p, hp, he⟩ := List.mem_map.1 hm
        have := (h1 p hp).2
        omega

/-- The old number of a new one. -/
def backN (m : List (Nat × Nat)) (j : Nat) : Option Nat := (m.find? (fun p => p.2 == j)).map (·.1)

theorem look_mem {α : Type} {m : List (Nat × α)} {i : Nat} {j : α} (h : look i m = some j) : (i, j) ∈ m := by
  induction m with
  | nil => cases h
  | cons p m ih =>
    obtain ⟨k, x⟩ := p
    simp only [look] at h
    cases hb : Nat.beq k i with
    | true => simp only [hb, cond_true, Option.some.injEq] at h; rw [Nat.beq_true hb, h]; exact List.mem_cons_self
    | false => simp only [hb, cond_false] at h; exact List.mem_cons_of_mem _ (ih h)

theorem backN_mem {m : List (Nat × Nat)} (hm : Ren m) {i j : Nat} (h : (i, j) ∈ m) : backN m j = some i := by
  have h2 := hm.snd
  clear hm
  induction m with
  | nil => cases h
  | cons p m ih =>
    unfold backN
    simp only [List.map_cons, List.nodup_cons] at h2
    rcases List.mem_cons.1 h with rfl | h
    · simp
    · have hne : p.2 ≠ j := fun e => h2.1 (List.mem_map.2 ⟨(i, j), h, e.symm⟩)
      rw [List.find?_cons_of_neg (by simpa using hne)]
      exact ih h h2.2

def newR (m : List (Nat × Nat)) (ρ : Nat → RI) (j : Nat) : RI := match backN m j with
  | some i => ρ i
  | none => ρ j

theorem newR_mem {m : List (Nat × Nat)} (hm : Ren m) {i j : Nat} (h : (i, j) ∈ m) : newR m ρ j = ρ i := by
  unfold newR; rw [backN_mem hm h]

theorem RC_ren {m : List (Nat × Nat)} (hm : Ren m) {c : C} {v : Value} (h : RC X ρ c v) : RC X (newR m ρ) (renC m c) v := by
  cases c with
  | row id =>
    simp only [renC]
    cases hl : look id m with
    | none => trivial
    | some j => simp only [RC] at h ⊢; rw [newR_mem hm (look_mem hl)]; exact h
  | sl id i n =>
    simp only [renC]
    cases hl : look id m with
    | none => trivial
    | some j => simp only [RC] at h ⊢; rw [newR_mem hm (look_mem hl)]; exact h
  | ptr id i n =>
    simp only [renC]
    cases hl : look id m with
    | none => trivial
    | some j => simp only [RC] at h ⊢; rw [newR_mem hm (look_mem hl)]; exact h
  | _ => exact h

theorem RCs_ren {m : List (Nat × Nat)} (hm : Ren m) {l : List C} {vs : List Value} (h : RCs X ρ l vs) : RCs X (newR m ρ) (renCs m l) vs := by
  induction l generalizing vs with
  | nil => cases vs with
    | nil => trivial
    | cons v vs => exact h.elim
  | cons c l ih => cases vs with
    | nil => exact h.elim
    | cons v vs => exact ⟨RC_ren hm h.1, ih h.2⟩

theorem RU_ren {m : List (Nat × Nat)} (hm : Ren m) {u : U} {v : Value} (h : RU X ρ u v) : RU X (newR m ρ) (renU m u) v := by
  cases u with
  | c x => exact RC_ren hm h
  | agg l => obtain ⟨vs, h1, h2⟩ := h; exact ⟨vs, h1, RCs_ren hm h2⟩
  | vec e l =>
    obtain ⟨vs, h1, h2⟩ := h
    refine ⟨vs, h1, RCs_congr (fun id hid => ?_) h2⟩
    rw [men_flat] at hid; cases hid
  | box l => exact h

theorem RUs_ren {m : List (Nat × Nat)} (hm : Ren m) {l : List U} {vs : List Value} (h : RUs X ρ l vs) : RUs X (newR m ρ) (renUs m l) vs := by
  induction l generalizing vs with
  | nil => cases vs with
    | nil => trivial
    | cons v vs => exact h.elim
  | cons c l ih => cases vs with
    | nil => exact h.elim
    | cons v vs => exact ⟨RU_ren hm h.1, ih h.2⟩

theorem RV_ren {m : List (Nat × Nat)} (hm : Ren m) {v : V} {z : Value} (h : RV X ρ v z) : RV X (newR m ρ) (renV m v) z := by
  cases v with
  | u x => exact RU_ren hm h
  | tup l => obtain ⟨vs, h1, h2⟩ := h; exact ⟨vs, h1, RUs_ren hm h2⟩
  | dead => trivial

theorem renCs_len (m : List (Nat × Nat)) (l : List C) : (renCs m l).length = l.length := by
  induction l with
  | nil => rfl
  | cons c l ih => simp [renCs, ih]

theorem RO_ren {m : List (Nat × Nat)} (hm : Ren m) {i j : Nat} (hij : (i, j) ∈ m) {x : Ob} (h : RO X ρ w i x) : RO X (newR m ρ) w j ⟨x.row, x.n, x.ty, renO m x.o⟩ := by
  have e := newR_mem (ρ := ρ) hm hij
  obtain ⟨row, n, ty, o⟩ := x
  cases o with
  | lit l =>
    have hl := renCs_len m l
    refine ⟨by rw [e]; simp only [renO, O.sz, hl]; exact h.sz, by rw [e]; exact h.len, (fun _ _ e l he => by cases he), (fun hrow => by obtain ⟨⟨e, l, he⟩, _⟩ := h.vec hrow; cases he), ?_⟩
    rcases h.mem with ⟨m1, m2, m3⟩ | ⟨vs, t, cap, m1, m2, m3, m4, m5⟩
    · left
      refine ⟨m1, by rw [e]; exact m2, ?_⟩
      simp only [O.cells] at m3
      subst m3; rfl
    · right
      rw [e]
      simp only [renO, O.cells, O.sz, O.len, hl] at m2 m3 m4 m5 ⊢
      exact ⟨vs, t, cap, m1, RCs_ren hm m2, m3, m4, m5⟩
  | vec f l =>
    refine ⟨by rw [e]; exact h.sz, by rw [e]; exact h.len, h.n, h.vec, ?_⟩
    rcases h.mem with ⟨m1, m2, m3⟩ | ⟨vs, t, cap, m1, m2, m3, m4, m5⟩
    · left; exact ⟨m1, by rw [e]; exact m2, m3⟩
    · right
      rw [e]
      refine ⟨vs, t, cap, m1, RCs_congr (fun id hid => ?_) m2, m3, m4, m5⟩
      have : anyC (C.men id) (flat f l) = true := hid
      rw [men_flat] at this; cases this

theorem renObs_spec {ob : List (Nat × Ob)} {m : List (Nat × Nat)} : ∀ {l : List (Nat × Nat)} {j : Nat} {z : Ob}, look j (renObs ob m l) = some z → ∃ i x, (i, j) ∈ l ∧ look i ob = some x ∧ z = ⟨x.row, x.n, x.ty, renO m x.o⟩
  | [], j, z, h => by cases h
  | (i, k) :: l, j, z, h => by
    unfold renObs at h
    cases hx : look i ob with
    | none =>
      simp only [hx] at h
      obtain ⟨i', x, h1, h2⟩ := renObs_spec h
      exact ⟨i', x, List.mem_cons_of_mem _ h1, h2⟩
    | some x =>
      simp only [hx, look] at h
      cases hb : Nat.beq k j with
      | true =>
        simp only [hb, cond_true, Option.some.injEq] at h
        obtain rfl := Nat.beq_true hb
        exact ⟨i, x, List.mem_cons_self, hx, h.symm⟩
      | false =>
        simp only [hb, cond_false] at h
        obtain ⟨i', x, h1, h2⟩ := renObs_spec h
        exact ⟨i', x, List.mem_cons_of_mem _ h1, h2⟩

theorem clearV_ok {keep : List Nat} : ∀ {l : List V} {i : Nat}, (clearV keep i l).length = l.length ∧ ∀ (t : Nat) (v : V), (clearV keep i l)[t]? = some v → ∃ x, l[t]? = some x ∧ (v = x ∨ v = .dead)
  | [], i => ⟨rfl, fun t v h => by simp [clearV] at h⟩
  | x :: l, i => by
    obtain ⟨h1, h2⟩ := clearV_ok (keep := keep) (l := l) (i := i + 1)
    refine ⟨by simp [clearV, h1], fun t v h => ?_⟩
    cases t with
    | zero =>
      simp only [clearV, List.getElem?_cons_zero, Option.some.injEq] at h
      refine ⟨x, by simp, ?_⟩
      cases hm : memN i keep with
      | true => rw [hm] at h; exact .inl h.symm
      | false => rw [hm] at h; exact .inr h.symm
    | succ t => simpa [clearV] using h2 t v (by simpa [clearV] using h)

theorem renVs_get {m : List (Nat × Nat)} : ∀ {l : List V}, (renVs m l).length = l.length ∧ ∀ t : Nat, (renVs m l)[t]? = (l[t]?).map (renV m)
  | [] => ⟨rfl, fun t => by simp [renVs]⟩
  | x :: l => by
    obtain ⟨h1, h2⟩ := renVs_get (m := m) (l := l)
    refine ⟨by simp [renVs, h1], fun t => ?_⟩
    cases t with
    | zero => simp [renVs]
    | succ t => simpa [renVs] using h2 t

theorem Sim.norm (h : Sim X ρ s a w) (sh : Shape) (key : Nat) : ∃ ρ', Sim X ρ' (sh.norm key s) a w := by
  unfold Shape.norm V.norm
  generalize slotsIn sh.tm = kp
  · simp only
    generalize hids : moreIds s.ob (moreIds s.ob (idsOf (pinIds s.ob) (clearV kp 0 s.tm)) (idsOf (pinIds s.ob) (clearV kp 0 s.tm))) (moreIds s.ob (idsOf (pinIds s.ob) (clearV kp 0 s.tm)) (idsOf (pinIds s.ob) (clearV kp 0 s.tm))) = ids
    have hnd : ids.Nodup := by rw [← hids]; exact moreIds_nodup (moreIds_nodup (idsOf_nodup (pinIds_nodup s.ob)))
    obtain ⟨_, hm⟩ := number_spec (ob := s.ob) (b := 1000000 * (key + 1)) hnd
    generalize number s.ob (1000000 * (key + 1)) ids = m at hm
    obtain ⟨c1, c2⟩ := clearV_ok (keep := kp) (l := s.tm) (i := 0)
    obtain ⟨r1, r2⟩ := renVs_get (m := m) (l := clearV kp 0 s.tm)
    have hB : ∀ i j x, (i, j) ∈ m → hasB (newR m ρ) j ⟨x.row, x.n, x.ty, renO m x.o⟩ → hasB ρ i x := fun i j x hij hb => by
      unfold hasB at *; rw [newR_mem hm hij] at hb; exact hb
    refine ⟨newR m ρ, fun t v hv => ?_, by simp only; rw [r1, c1]; exact h.sz, h.df, fun j z hz => ?_, fun j k y z hy hz hjk hb1 hb2 => ?_, fun j z hz hb => ?_, h.fr⟩
    · simp only at hv
      rw [r2] at hv
      obtain ⟨u, hu, rfl⟩ := Option.map_eq_some_iff.1 hv
      obtain ⟨x, hx, hux⟩ := c2 t u hu
      rcases hux with rfl | rfl
      · exact RV_ren hm (h.tm t _ hx)
      · trivial
    · obtain ⟨i, x, hij, hx, rfl⟩ := renObs_spec hz
      exact RO_ren hm hij (h.ob i x hx)
    · obtain ⟨i, x, hij, hx, rfl⟩ := renObs_spec hy
      obtain ⟨i', x', hij', hx', rfl⟩ := renObs_spec hz
      rw [newR_mem hm hij, newR_mem hm hij']
      refine h.inj i i' x x' hx hx' ?_ (hB _ _ _ hij hb1) (hB _ _ _ hij' hb2)
      intro e
      subst e
      -- one old number has one new number
      have : ∀ (m : List (Nat × Nat)), (m.map (·.1)).Nodup → (i, j) ∈ m → (i, k) ∈ m → j = k := by
        intro m
        induction m with
        | nil => intro _ h; cases h
        | cons p m ih =>
          intro hn h1 h2
          simp only [List.map_cons, List.nodup_cons] at hn
          rcases List.mem_cons.1 h1 with e1 | h1 <;> rcases List.mem_cons.1 h2 with e2 | h2
          · rw [← e1] at e2; cases e2; rfl
          · exact absurd (List.mem_map.2 ⟨(i, k), h2, by rw [← e1]⟩) hn.1
          · exact absurd (List.mem_map.2 ⟨(i, j), h1, by rw [← e2]⟩) hn.1
          · exact ih hn.2 h1 h2
      exact hjk (this m hm.fst hij hij')
    · obtain ⟨i, x, hij, hx, rfl⟩ := renObs_spec hz
      rw [newR_mem hm hij]
      exact h.own i x hx (hB _ _ _ hij hb)

end Go.Proofs.Ytgimohchocjgcaa.V
