import Derived.ScopeJumps
import Derived.Shelf.Spec.BitsCarry
import Derived.KernelRfl
import Derived.Test.YtgimohchocjgcaaVMD
set_option linter.unusedVariables false
set_option linter.unusedSimpArgs false
namespace Go.Proofs.Ytgimohchocjgcaa.V
section
variable {X : Ctx} {ρ : Nat -> RI} {s : St} {a : Act} {w : World}
theorem zc5 {f e : El} {l : List f.T} {m : List e.T} (h : zbK f e l = some m) : (⟨f, l⟩ : (e : El) × List e.T) = ⟨e, m⟩ := by
  obtain ⟨rfl, h⟩ := zbH h
  change l = m at h
  subst h; rfl
theorem CS.dec_ok {c : CS} {x : C} {y : c.T} (h : c.dec x = some y) : c.enc y = x \/ c.enc y = .dead := by
  cases c with
  | dead => right; rfl
  | u64 => left; unfold CS.dec at h; simp only [C.u64?] at h; split at h <;> cases h; rfl
  | u32 => left; unfold CS.dec at h; simp only [C.u32?] at h; split at h <;> cases h; rfl
  | u8 => left; unfold CS.dec at h; simp only [C.u8?] at h; split at h <;> cases h; rfl
  | int => left; unfold CS.dec at h; simp only [C.int?] at h; split at h <;> cases h; rfl
  | bool => left; unfold CS.dec at h; simp only [C.bool?] at h; split at h <;> cases h; rfl
  | str => left; unfold CS.dec at h; simp only [C.str?] at h; split at h <;> cases h; rfl
  | rt => left; unfold CS.dec at h; simp only [C.rt?] at h; split at h <;> cases h; rfl
  | nilp => left; unfold CS.dec at h; simp only [C.nilp?] at h; split at h <;> cases h; rfl
  | ro e =>
    left
    unfold CS.dec at h
    simp only [C.ro?] at h
    split at h
    . have := zc5 h
      cases this
      rfl
    . cases h
  | row id =>
    left
    unfold CS.dec at h
    simp only [C.row?] at h
    split at h
    . obtain ⟨h1, h2⟩ := zaa h
      rw [CS.enc, Nat.beq_true h1]
    . cases h
  | sl id =>
    left
    unfold CS.dec at h
    simp only [C.sl?] at h
    split at h
    . obtain ⟨h1, h2⟩ := zaa h
      cases h2
      have e1 := Nat.beq_true h1
      subst e1; rfl
    . cases h
  | asl id off n =>
    left
    unfold CS.dec at h
    simp only [C.asl?] at h
    split at h
    . rename_i j o e m
      obtain ⟨h1, h2⟩ := zaa h
      cases h2
      simp only [Bool.and_eq_true] at h1
      have e1 := Nat.beq_true h1.1
      have e2 := Nat.beq_true h1.2.1
      have e3 := Nat.beq_true h1.2.2.1
      have e4 : e = .u64 := zfd (f := .u64) h1.2.2.2
      subst e1; subst e2; subst e3; subst e4; rfl
    . cases h
  | slc id =>
    left
    unfold CS.dec at h
    simp only [C.slc?] at h
    split at h
    . obtain ⟨h1, h2⟩ := zaa h
      cases h2
      simp only [Bool.and_eq_true] at h1
      have e1 := Nat.beq_true h1.1
      have e2 := Nat.beq_true h1.2
      subst e1; subst e2; rfl
    . cases h
  | ptr id sub =>
    left
    unfold CS.dec at h
    simp only [C.ptr?] at h
    split at h
    . obtain ⟨h1, h2⟩ := zaa h
      cases h2
      simp only [Bool.and_eq_true] at h1
      have e1 := Nat.beq_true h1.1
      have e2 := Nat.beq_true h1.2
      subst e1; subst e2; rfl
    . cases h
  | ptr0 id sub =>
    left
    unfold CS.dec at h
    simp only [C.ptr0?] at h
    split at h
    . obtain ⟨h1, h2⟩ := zaa h
      cases h2
      simp only [Bool.and_eq_true] at h1
      have e1 := Nat.beq_true h1.1
      have e2 := Nat.beq_true h1.2.1
      have e3 := Nat.beq_true h1.2.2
      subst e1; subst e2; subst e3; rfl
    . cases h
theorem zvw {c : CS} {x : C} {y : c.T} {v : Value} (h : c.dec x = some y) (hr : RC X ρ x v) : RC X ρ (c.enc y) v := by
  rcases CS.dec_ok h with h | h
  . rw [h]; exact hr
  . rw [h]; trivial
theorem zfr {c : CS} {l : List CS} {xs : List C} {y : TCs (c :: l)} (h : zey (c :: l) xs = some y) : ∃ x r p q, xs = x :: r /\ y = (p, q) /\ c.dec x = some p /\ zey l r = some q := by
  unfold zey at h
  cases xs with
  | nil => cases h
  | cons x r =>
    simp only at h
    cases hp : c.dec x with
    | none => rw [hp] at h; cases h
    | some p =>
      rw [hp] at h
      simp only at h
      cases hq : zey l r with
      | none => rw [hq] at h; cases h
      | some q => rw [hq] at h; cases h; exact ⟨x, r, p, q, rfl, rfl, hp, hq⟩
theorem zg4 {xs : List C} {y : TCs []} (h : zey [] xs = some y) : xs = [] := by
  cases xs with
  | nil => rfl
  | cons x r => cases h
theorem zqc {l : List CS} {xs : List C} {y : TCs l} {vs : List Value} (h : zey l xs = some y) (hr : RCs X ρ xs vs) : RCs X ρ (zi7 l y) vs := by
  induction l generalizing xs vs with
  | nil => rw [zg4 h] at hr; exact hr
  | cons c l ih =>
    obtain ⟨x, r, p, q, rfl, rfl, hp, hq⟩ := zfr h
    cases vs with
    | nil => exact hr.elim
    | cons v vs => exact ⟨zvw hp hr.1, ih hq hr.2⟩
theorem zqd {l : List CS} {xs : List C} {y : TCs l} (h : zey l xs = some y) : (zi7 l y).length = xs.length := by
  induction l generalizing xs with
  | nil => rw [zg4 h]; rfl
  | cons c l ih =>
    obtain ⟨x, r, p, q, rfl, rfl, hp, hq⟩ := zfr h
    simp [zi7, ih hq]
theorem zyP {u : US} {x : U} {y : u.T} {v : Value} (h : u.dec x = some y) (hr : RU X ρ x v) : RU X ρ (u.enc y) v := by
  cases u with
  | c c =>
    unfold US.dec at h
    cases x with
    | c x => exact zvw h hr
    | _ => cases h
  | agg l =>
    unfold US.dec at h
    cases x with
    | agg r => obtain ⟨vs, h1, h2⟩ := hr; exact ⟨vs, h1, zqc h h2⟩
    | _ => cases h
  | vec e =>
    unfold US.dec at h
    cases x with
    | vec f l =>
      have := zc5 h
      cases this
      exact hr
    | _ => cases h
  | fr =>
    unfold US.dec at h
    cases x with
    | vec f l =>
      simp only [U.vec?] at h
      split at h
      . rename_i m hm
        have := zc5 hm
        cases this
        have := zpv h
        subst this
        exact hr
      . cases h
    | _ => cases h
  | st e =>
    unfold US.dec at h
    cases x with
    | agg r =>
      have := zgb e r y h
      subst this
      exact hr
    | _ => cases h
theorem zyQ {v : VS} {x : V} {y : v.T} {z : Value} (h : v.dec x = some y) (hr : RV X ρ x z) : RV X ρ (v.enc y) z := by
  cases v with
  | u u =>
    unfold VS.dec at h
    cases x with
    | u x => exact zyP h hr
    | _ => cases h
  | dead => trivial
theorem ztO {l : List (Nat × VS)} {xs b : List V} {y : TVs l} (h : zob xs l = some y) (hb : b.length = xs.length) (hb2 : ∀ (t : Nat) (v : V), b[t]? = some v -> v = .dead) :
    (zoa b l y).length = xs.length /\ ∀ (t : Nat) (v : V), (zoa b l y)[t]? = some v -> ∃ x, xs[t]? = some x /\ ∀ (X : Ctx) (ρ : Nat -> RI) (z : Value), RV X ρ x z -> RV X ρ v z := by
  induction l with
  | nil =>
    refine ⟨hb, fun t v hv => ?_⟩
    have hv' : b[t]? = some v := hv
    have hlt : t < xs.length := by rw [← hb]; exact (List.getElem?_eq_some_iff.1 hv').1
    exact ⟨_, List.getElem?_eq_getElem hlt, fun X ρ z _ => by rw [hb2 t v hv']; trivial⟩
  | cons c l ih =>
    unfold zob at h
    cases hp : c.2.dec (xs.getD c.1 .dead) with
    | none => rw [hp] at h; cases h
    | some p =>
      rw [hp] at h
      simp only at h
      cases hq : zob xs l with
      | none => rw [hq] at h; cases h
      | some q =>
        rw [hq] at h
        cases h
        obtain ⟨h1, h2⟩ := ih hq
        refine ⟨by simp only [zoa]; rw [zdi]; exact h1, fun t v hv => ?_⟩
        simp only [zoa] at hv
        rw [zgc] at hv
        split at hv
        . rename_i ht
          simp only [oi1] at hv
          subst hv
          obtain ⟨rfl, hlt⟩ := ht
          rw [h1] at hlt
          refine ⟨_, List.getElem?_eq_getElem hlt, fun X ρ z hz => ?_⟩
          rw [List.getD_eq_getElem?_getD, List.getElem?_eq_getElem hlt, Option.getD_some] at hp
          exact zyQ hp hz
        . exact h2 t v hv
def Less (x y : Ob) : Prop := y.row = x.row /\ y.n = x.n /\ y.ty = x.ty /\ y.o.cells.length = x.o.cells.length /\ y.o.sz = x.o.sz /\ y.o.len = x.o.len /\ (∀ e l, x.o = .vec e l -> y.o = .vec e l) /\ (∀ e l, y.o = .vec e l -> x.o = .vec e l) /\
  ∀ (X : Ctx) (ρ : Nat -> RI) (vs : List Value), RCs X ρ x.o.cells vs -> RCs X ρ y.o.cells vs
theorem RO.less {id : Nat} {x y : Ob} (h : Less x y) (hr : RO X ρ w id x) : RO X ρ w id y := by
  obtain ⟨h1, h2, h3, h4, h5, h6, h7, h7', h8⟩ := h
  refine ⟨by rw [h5]; exact hr.sz, by rw [h6]; exact hr.len, fun hrow hn0 e l he => by rw [h2]; exact hr.n (by rw [← h1]; exact hrow) (by rw [← h2]; exact hn0) e l (h7' e l he), fun hrow => ?_, ?_⟩
  . obtain ⟨⟨e, l, he⟩, hn⟩ := hr.vec (by rw [← h1]; exact hrow)
    exact ⟨⟨e, l, h7 e l he⟩, by rw [h2]; exact hn⟩
  . rcases hr.mem with ⟨m1, m2, m3⟩ | ⟨vs, ty, cap, m1, m2, m3, m4, m5⟩
    . left
      refine ⟨by rw [h1]; exact m1, m2, ?_⟩
      rw [m3] at h4
      exact List.eq_nil_of_length_eq_zero h4
    . right
      exact ⟨vs, ty, cap, m1, by rw [h4]; exact h8 _ _ _ m2, by rw [h4]; exact m3, fun hrow => by rw [h4, h3]; exact m4 (by rw [← h1]; exact hrow), fun hrow => by rw [h3, h6, h5]; exact m5 (by rw [← h1]; exact hrow)⟩
theorem OS.dec_less {o : OS} {x : O} {y : o.T} (h : o.dec x = some y) (row : Bool) (n : Nat) (ty : TypeId) : Less ⟨row, n, ty, x⟩ ⟨row, n, ty, o.enc y⟩ := by
  cases o with
  | lit l =>
    unfold OS.dec at h
    cases x with
    | lit r =>
      have h' : zey l r = some y := h
      have hl := zqd h'
      exact ⟨rfl, rfl, rfl, hl, hl, rfl, fun e l h => O.noConfusion h, fun e l h => O.noConfusion h, fun X ρ vs hr => zqc h' hr⟩
    | vec f l => cases h
  | vec e =>
    unfold OS.dec at h
    cases x with
    | lit r => cases h
    | vec f l =>
      have := zc5 h
      cases this
      exact ⟨rfl, rfl, rfl, rfl, rfl, rfl, fun _ _ h => h, fun _ _ h => h, fun _ _ _ h => h⟩
  | fr =>
    unfold OS.dec at h
    cases x with
    | lit r => cases h
    | vec f l =>
      simp only [O.vec?] at h
      split at h
      . rename_i m hm
        have := zc5 hm
        cases this
        have := zpv h
        subst this
        exact ⟨rfl, rfl, rfl, rfl, rfl, rfl, fun _ _ h => h, fun _ _ h => h, fun _ _ _ h => h⟩
      . cases h
  | st e =>
    unfold OS.dec at h
    cases x with
    | lit r =>
      have := zgb e r y h
      subst this
      exact ⟨rfl, rfl, rfl, rfl, rfl, rfl, fun _ _ h => h, fun _ _ h => h, fun _ _ _ h => h⟩
    | vec f l => cases h
theorem zqe {l : List (Nat × ObS)} {xs : List (Nat × Ob)} {y : TObs l} (h : zhS l xs = some y) : ∀ id z, look id (znc l y) = some z -> ∃ x, look id xs = some x /\ Less x z := by
  induction l generalizing xs with
  | nil => intro id z hz; cases hz
  | cons c l ih =>
    obtain ⟨i, c⟩ := c
    cases xs with
    | nil => cases h
    | cons x xs =>
      obtain ⟨j, x⟩ := x
      unfold zhS at h
      simp only at h
      obtain ⟨h1, h2⟩ := zaa h
      cases hp : c.o.dec x.o with
      | none => rw [hp] at h2; cases h2
      | some p =>
        rw [hp] at h2
        simp only at h2
        cases hq : zhS l xs with
        | none => rw [hq] at h2; cases h2
        | some q =>
          rw [hq] at h2
          cases h2
          simp only [Bool.and_eq_true, beq_iff_eq] at h1
          obtain ⟨e1, e2, e3, e4⟩ := h1
          intro id z hz
          simp only [znc, look] at hz ⊢
          rw [Nat.beq_true e1]
          cases hb : Nat.beq i id with
          | true =>
            simp only [hb, cond_true, oi1] at hz ⊢
            subst hz
            refine ⟨x, rfl, ?_⟩
            have := OS.dec_less hp c.row c.n c.ty
            have hx : x = ⟨c.row, c.n, c.ty, x.o⟩ := by
              obtain ⟨r, n, t, o⟩ := x
              simp only at e2 e3 e4 ⊢
              rw [e2, Nat.beq_true e3, Nat.beq_true e4]
            rw [← hx] at this
            exact this
          | false =>
            simp only [hb, cond_false] at hz ⊢
            exact ih hq id z hz
theorem Sim.dec (h : Sim X ρ s a w) {sh : Shape} {x : sh.T} (hd : sh.dec s = some x) : Sim X ρ (sh.enc x) a w := by
  unfold Shape.dec at hd
  obtain ⟨hn, hd⟩ := zaa hd
  have hn' := Nat.beq_true hn
  cases hp : zob s.tm sh.tm with
  | none => rw [hp] at hd; cases hd
  | some p =>
    rw [hp] at hd
    simp only at hd
    cases hq : zhS sh.ob s.ob with
    | none => rw [hq] at hd; cases hd
    | some q =>
      rw [hq] at hd
      cases hd
      obtain ⟨h1, h2⟩ := ztO (b := List.replicate sh.n .dead) hp (by simp [hn']) (fun t v hv => by
        rw [List.getElem?_replicate] at hv
        split at hv
        . simpa using hv.symm
        . cases hv)
      have h3 := zqe hq
      have hB : ∀ id x z, Less x z -> hasB ρ id z -> hasB ρ id x := fun id x z hl hb => by unfold hasB at *; rw [← hl.1]; exact hb
      refine ⟨fun t v hv => ?_, by simp only [Shape.enc]; rw [h1]; exact h.sz, h.df, fun id z hz => ?_, fun i j y z hy hz hij hb1 hb2 => ?_, fun id z hz hb => ?_, h.fr⟩
      . obtain ⟨x, hx, hr⟩ := h2 t v hv
        exact hr _ _ _ (h.tm t x hx)
      . obtain ⟨x, hx, hl⟩ := h3 id z hz
        exact (h.ob id x hx).less hl
      . obtain ⟨y', hy', hl1⟩ := h3 i y hy
        obtain ⟨z', hz', hl2⟩ := h3 j z hz
        exact h.inj i j y' z' hy' hz' hij (hB _ _ _ hl1 hb1) (hB _ _ _ hl2 hb2)
      . obtain ⟨x, hx, hl⟩ := h3 id z hz
        exact h.own id x hx (hB _ _ _ hl hb)
theorem zfs {l acc : List Nat} (h : acc.Nodup) : (addN acc l).Nodup := by
  induction l generalizing acc with
  | nil => exact h
  | cons n l ih =>
    unfold addN
    cases hm : memN n acc with
    | true => exact ih h
    | false =>
      refine ih ?_
      rw [List.nodup_append]
      refine ⟨h, by simp, fun a ha b hb => ?_⟩
      simp only [List.mem_singleton] at hb
      subst hb
      intro e
      subst e
      exact zcz.1 hm ha
theorem zkJ (ob : List (Nat × Ob)) : (zev ob).Nodup := by
  induction ob with
  | nil => exact List.nodup_nil
  | cons p l ih =>
    obtain ⟨id, x⟩ := p
    unfold zev
    cases (!x.row && Nat.ble PIN x.ty)
    . exact ih
    . exact zfs ih
theorem zl7 {l : List V} {acc : List Nat} (h : acc.Nodup) : (zly acc l).Nodup := by
  induction l generalizing acc with
  | nil => exact h
  | cons v l ih => exact ih (zfs h)
theorem zeR {ob : List (Nat × Ob)} {l acc : List Nat} (h : acc.Nodup) : (zde ob acc l).Nodup := by
  induction l generalizing acc with
  | nil => exact h
  | cons n l ih =>
    unfold zde
    split
    . exact ih (zfs h)
    . exact ih h
structure Ren (m : List (Nat × Nat)) : Prop where
  fst : (m.map (·.1)).Nodup
  snd : (m.map (·.2)).Nodup
theorem zee {ob : List (Nat × Ob)} : ∀ {l : List Nat} {b : Nat}, l.Nodup -> (∀ p ∈ zd2 ob b l, p.1 ∈ l /\ b <= p.2) /\ Ren (zd2 ob b l)
  | [], b, _ => ⟨fun p hp => by simp [zd2] at hp, ⟨by simp [zd2], by simp [zd2]⟩⟩
  | id :: l, b, h => by
    rw [List.nodup_cons] at h
    unfold zd2
    cases look id ob with
    | none =>
      obtain ⟨h1, h2⟩ := zee (ob := ob) (b := b) h.2
      exact ⟨fun p hp => ⟨List.mem_cons_of_mem _ (h1 p hp).1, (h1 p hp).2⟩, h2⟩
    | some x =>
      obtain ⟨h1, h2⟩ := zee (ob := ob) (b := b + 1) h.2
      refine ⟨fun p hp => ?_, ⟨?_, ?_⟩⟩
      . rcases List.mem_cons.1 hp with rfl | hp
        . exact ⟨List.mem_cons_self, Nat.le_refl _⟩
        . have := h1 p hp; exact ⟨List.mem_cons_of_mem _ this.1, by omega⟩
      . simp only [List.map_cons, List.nodup_cons]
        refine ⟨fun hm => ?_, h2.fst⟩
        obtain ⟨p, hp, he⟩ := List.mem_map.1 hm
        exact h.1 (he ▸ (h1 p hp).1)
      . simp only [List.map_cons, List.nodup_cons]
        refine ⟨fun hm => ?_, h2.snd⟩
        obtain ⟨p, hp, he⟩ := List.mem_map.1 hm
        have := (h1 p hp).2
        omega
def zwI (m : List (Nat × Nat)) (j : Nat) : Option Nat := (m.find? (fun p => p.2 == j)).map (·.1)
theorem zcO {α : Type} {m : List (Nat × α)} {i : Nat} {j : α} (h : look i m = some j) : (i, j) ∈ m := by
  induction m with
  | nil => cases h
  | cons p m ih =>
    obtain ⟨k, x⟩ := p
    simp only [look] at h
    cases hb : Nat.beq k i with
    | true => simp only [hb, cond_true, oi1] at h; rw [Nat.beq_true hb, h]; exact List.mem_cons_self
    | false => simp only [hb, cond_false] at h; exact List.mem_cons_of_mem _ (ih h)
theorem zqf {m : List (Nat × Nat)} (hm : Ren m) {i j : Nat} (h : (i, j) ∈ m) : zwI m j = some i := by
  have h2 := hm.snd
  clear hm
  induction m with
  | nil => cases h
  | cons p m ih =>
    unfold zwI
    simp only [List.map_cons, List.nodup_cons] at h2
    rcases List.mem_cons.1 h with rfl | h
    . simp
    . have hne : p.2 ≠ j := fun e => h2.1 (List.mem_map.2 ⟨(i, j), h, e.symm⟩)
      rw [List.find?_cons_of_neg (by simpa using hne)]
      exact ih h h2.2
def newR (m : List (Nat × Nat)) (ρ : Nat -> RI) (j : Nat) : RI := match zwI m j with
  | some i => ρ i
  | none => ρ j
theorem zci {m : List (Nat × Nat)} (hm : Ren m) {i j : Nat} (h : (i, j) ∈ m) : newR m ρ j = ρ i := by
  unfold newR; rw [zqf hm h]
theorem zvx {m : List (Nat × Nat)} (hm : Ren m) {c : C} {v : Value} (h : RC X ρ c v) : RC X (newR m ρ) (renC m c) v := by
  cases c with
  | row id =>
    simp only [renC]
    cases hl : look id m with
    | none => trivial
    | some j => simp only [RC] at h ⊢; rw [zci hm (zcO hl)]; exact h
  | sl id i n =>
    simp only [renC]
    cases hl : look id m with
    | none => trivial
    | some j => simp only [RC] at h ⊢; rw [zci hm (zcO hl)]; exact h
  | ptr id i n =>
    simp only [renC]
    cases hl : look id m with
    | none => trivial
    | some j => simp only [RC] at h ⊢; rw [zci hm (zcO hl)]; exact h
  | slc id i n c =>
    simp only [renC]
    cases hl : look id m with
    | none => trivial
    | some j => simp only [RC] at h ⊢; rw [zci hm (zcO hl)]; exact h
  | asl id i e n =>
    simp only [renC]
    cases hl : look id m with
    | none => trivial
    | some j => simp only [RC] at h ⊢; rw [zci hm (zcO hl)]; exact h
  | _ => exact h
theorem zqg {m : List (Nat × Nat)} (hm : Ren m) {l : List C} {vs : List Value} (h : RCs X ρ l vs) : RCs X (newR m ρ) (zn9 m l) vs := by
  induction l generalizing vs with
  | nil => cases vs with
    | nil => trivial
    | cons v vs => exact h.elim
  | cons c l ih => cases vs with
    | nil => exact h.elim
    | cons v vs => exact ⟨zvx hm h.1, ih h.2⟩
theorem zvy {m : List (Nat × Nat)} (hm : Ren m) {u : U} {v : Value} (h : RU X ρ u v) : RU X (newR m ρ) (renU m u) v := by
  cases u with
  | c x => exact zvx hm h
  | agg l => obtain ⟨vs, h1, h2⟩ := h; exact ⟨vs, h1, zqg hm h2⟩
  | vec e l =>
    obtain ⟨vs, h1, h2⟩ := h
    refine ⟨vs, h1, zbQ (fun id hid => ?_) h2⟩
    rw [zbi] at hid; cases hid
  | box l => exact h
theorem zwJ {m : List (Nat × Nat)} (hm : Ren m) {l : List U} {vs : List Value} (h : RUs X ρ l vs) : RUs X (newR m ρ) (zwf m l) vs := by
  induction l generalizing vs with
  | nil => cases vs with
    | nil => trivial
    | cons v vs => exact h.elim
  | cons c l ih => cases vs with
    | nil => exact h.elim
    | cons v vs => exact ⟨zvy hm h.1, ih h.2⟩
theorem zyR {m : List (Nat × Nat)} (hm : Ren m) {v : V} {z : Value} (h : RV X ρ v z) : RV X (newR m ρ) (renV m v) z := by
  cases v with
  | u x => exact zvy hm h
  | tup l => obtain ⟨vs, h1, h2⟩ := h; exact ⟨vs, h1, zwJ hm h2⟩
  | dead => trivial
theorem zqh (m : List (Nat × Nat)) (l : List C) : (zn9 m l).length = l.length := by
  induction l with
  | nil => rfl
  | cons c l ih => simp [zn9, ih]
theorem zyS {m : List (Nat × Nat)} (hm : Ren m) {i j : Nat} (hij : (i, j) ∈ m) {x : Ob} (h : RO X ρ w i x) : RO X (newR m ρ) w j ⟨x.row, x.n, x.ty, renO m x.o⟩ := by
  have e := zci (ρ := ρ) hm hij
  obtain ⟨row, n, ty, o⟩ := x
  cases o with
  | lit l =>
    have hl := zqh m l
    refine ⟨by rw [e]; simp only [renO, O.sz, hl]; exact h.sz, by rw [e]; exact h.len, (fun _ _ e l he => by cases he), (fun hrow => by obtain ⟨⟨e, l, he⟩, _⟩ := h.vec hrow; cases he), ?_⟩
    rcases h.mem with ⟨m1, m2, m3⟩ | ⟨vs, t, cap, m1, m2, m3, m4, m5⟩
    . left
      refine ⟨m1, by rw [e]; exact m2, ?_⟩
      simp only [O.cells] at m3
      subst m3; rfl
    . right
      rw [e]
      simp only [renO, O.cells, O.sz, O.len, hl] at m2 m3 m4 m5 ⊢
      exact ⟨vs, t, cap, m1, zqg hm m2, m3, m4, m5⟩
  | vec f l =>
    refine ⟨by rw [e]; exact h.sz, by rw [e]; exact h.len, by rw [e]; exact h.n, h.vec, ?_⟩
    rcases h.mem with ⟨m1, m2, m3⟩ | ⟨vs, t, cap, m1, m2, m3, m4, m5⟩
    . left; exact ⟨m1, by rw [e]; exact m2, m3⟩
    . right
      rw [e]
      refine ⟨vs, t, cap, m1, zbQ (fun id hid => ?_) m2, m3, m4, m5⟩
      have : anyC (C.men id) (flat f l) = true := hid
      rw [zbi] at this; cases this
theorem zca {ob : List (Nat × Ob)} {m : List (Nat × Nat)} : ∀ {l : List (Nat × Nat)} {j : Nat} {z : Ob}, look j (zj1 ob m l) = some z -> ∃ i x, (i, j) ∈ l /\ look i ob = some x /\ z = ⟨x.row, x.n, x.ty, renO m x.o⟩
  | [], j, z, h => by cases h
  | (i, k) :: l, j, z, h => by
    unfold zj1 at h
    cases hx : look i ob with
    | none =>
      simp only [hx] at h
      obtain ⟨i', x, h1, h2⟩ := zca h
      exact ⟨i', x, List.mem_cons_of_mem _ h1, h2⟩
    | some x =>
      simp only [hx, look] at h
      cases hb : Nat.beq k j with
      | true =>
        simp only [hb, cond_true, oi1] at h
        obtain rfl := Nat.beq_true hb
        exact ⟨i, x, List.mem_cons_self, hx, h.symm⟩
      | false =>
        simp only [hb, cond_false] at h
        obtain ⟨i', x, h1, h2⟩ := zca h
        exact ⟨i', x, List.mem_cons_of_mem _ h1, h2⟩
theorem zkK {keep : List Nat} : ∀ {l : List V} {i : Nat}, (zcJ keep i l).length = l.length /\ ∀ (t : Nat) (v : V), (zcJ keep i l)[t]? = some v -> ∃ x, l[t]? = some x /\ (v = x \/ v = .dead)
  | [], i => ⟨rfl, fun t v h => by simp [zcJ] at h⟩
  | x :: l, i => by
    obtain ⟨h1, h2⟩ := zkK (keep := keep) (l := l) (i := i + 1)
    refine ⟨by simp [zcJ, h1], fun t v h => ?_⟩
    cases t with
    | zero =>
      simp only [zcJ, List.getElem?_cons_zero, oi1] at h
      refine ⟨x, by simp, ?_⟩
      cases hm : memN i keep with
      | true => rw [hm] at h; exact .inl h.symm
      | false => rw [hm] at h; exact .inr h.symm
    | succ t => simpa [zcJ] using h2 t v (by simpa [zcJ] using h)
theorem zkL {m : List (Nat × Nat)} : ∀ {l : List V}, (zj0 m l).length = l.length /\ ∀ t : Nat, (zj0 m l)[t]? = (l[t]?).map (renV m)
  | [] => ⟨rfl, fun t => by simp [zj0]⟩
  | x :: l => by
    obtain ⟨h1, h2⟩ := zkL (m := m) (l := l)
    refine ⟨by simp [zj0, h1], fun t => ?_⟩
    cases t with
    | zero => simp [zj0]
    | succ t => simpa [zj0] using h2 t
theorem Sim.norm0 (h : Sim X ρ s a w) (kp : List Nat) (key : Nat) : ∃ ρ', Sim X ρ' (V.norm kp key s) a w := by
  unfold V.norm
  . simp only
    generalize hids : zde s.ob (zde s.ob (zly (zev s.ob) (zcJ kp 0 s.tm)) (zly (zev s.ob) (zcJ kp 0 s.tm))) (zde s.ob (zly (zev s.ob) (zcJ kp 0 s.tm)) (zly (zev s.ob) (zcJ kp 0 s.tm))) = ids
    have hnd : ids.Nodup := by rw [← hids]; exact zeR (zeR (zl7 (zkJ s.ob)))
    obtain ⟨_, hm⟩ := zee (ob := s.ob) (b := 1000000 * (key + 1)) hnd
    generalize zd2 s.ob (1000000 * (key + 1)) ids = m at hm
    obtain ⟨c1, c2⟩ := zkK (keep := kp) (l := s.tm) (i := 0)
    obtain ⟨r1, r2⟩ := zkL (m := m) (l := zcJ kp 0 s.tm)
    have hB : ∀ i j x, (i, j) ∈ m -> hasB (newR m ρ) j ⟨x.row, x.n, x.ty, renO m x.o⟩ -> hasB ρ i x := fun i j x hij hb => by
      unfold hasB at *; rw [zci hm hij] at hb; exact hb
    refine ⟨newR m ρ, fun t v hv => ?_, by simp only; rw [r1, c1]; exact h.sz, h.df, fun j z hz => ?_, fun j k y z hy hz hjk hb1 hb2 => ?_, fun j z hz hb => ?_, h.fr⟩
    . simp only at hv
      rw [r2] at hv
      obtain ⟨u, hu, rfl⟩ := Option.map_eq_some_iff.1 hv
      obtain ⟨x, hx, hux⟩ := c2 t u hu
      rcases hux with rfl | rfl
      . exact zyR hm (h.tm t _ hx)
      . trivial
    . obtain ⟨i, x, hij, hx, rfl⟩ := zca hz
      exact zyS hm hij (h.ob i x hx)
    . obtain ⟨i, x, hij, hx, rfl⟩ := zca hy
      obtain ⟨i', x', hij', hx', rfl⟩ := zca hz
      rw [zci hm hij, zci hm hij']
      refine h.inj i i' x x' hx hx' ?_ (hB _ _ _ hij hb1) (hB _ _ _ hij' hb2)
      intro e
      subst e
      have : ∀ (m : List (Nat × Nat)), (m.map (·.1)).Nodup -> (i, j) ∈ m -> (i, k) ∈ m -> j = k := by
        intro m
        induction m with
        | nil => intro _ h; cases h
        | cons p m ih =>
          intro hn h1 h2
          simp only [List.map_cons, List.nodup_cons] at hn
          rcases List.mem_cons.1 h1 with e1 | h1 <;> rcases List.mem_cons.1 h2 with e2 | h2
          . rw [← e1] at e2; cases e2; rfl
          . exact absurd (List.mem_map.2 ⟨(i, k), h2, by rw [← e1]⟩) hn.1
          . exact absurd (List.mem_map.2 ⟨(i, j), h1, by rw [← e2]⟩) hn.1
          . exact ih hn.2 h1 h2
      exact hjk (this m hm.fst hij hij')
    . obtain ⟨i, x, hij, hx, rfl⟩ := zca hz
      rw [zci hm hij]
      exact h.own i x hx (hB _ _ _ hij hb)
theorem Sim.put0 (h : Sim X ρ s a w) (t : Nat) (v : V) (hv : RV X ρ v (a.tmps.getD t undef)) : Sim X ρ ⟨setV s.tm t v, s.ob⟩ a w := by
  refine ⟨fun i u hu => ?_, by simp [zdi, h.sz], h.df, h.ob, h.inj, h.own, h.fr⟩
  simp only [zgc] at hu
  split at hu
  . rename_i hc
    obtain ⟨rfl, hlt⟩ := hc
    cases hu
    exact hv
  . exact h.tm i u hu
theorem ztP (h : Sim X ρ s a w) {v : V} {x : Value} (hv : RV X ρ v x) : RV X ρ (zwg s v) x := by
  unfold zwg
  split
  . rename_i id
    split
    . rename_i n ty e l hg
      have hro := h.ob _ _ hg
      refine ⟨by rw [hro.len]; simp [O.len], ?_⟩
      rcases zb4 hro with ⟨h1, rfl⟩ | ⟨cap, h1, h2, h3⟩
      . exact ⟨0, Nat.le_refl _, by simp [maxLen], (fun hu => by rw [h1] at hu; simp [undef] at hu), .inr ⟨rfl, none, by rw [hv.1, h1]⟩⟩
      . exact ⟨cap, h2, h3, (fun hu => by rw [h1] at hu; simp [undef] at hu), .inl (by rw [hv.1, h1]; simp)⟩
    . exact hv
  . exact hv
theorem zqi {s0 : St} : ∀ (l : List (Nat × VS)) (tm : List V), Sim X ρ s0 a w -> Sim X ρ ⟨tm, s0.ob⟩ a w -> Sim X ρ ⟨znd s0 l tm, s0.ob⟩ a w := by
  intro l
  induction l with
  | nil => intro tm _ h; exact h
  | cons p l ih =>
    intro tm h0 h
    unfold znd
    refine ih _ h0 ?_
    cases p.2.isSl with
    | false => exact h
    | true => exact h.put0 p.1 _ (ztP h0 (h.eval p.1))
theorem Sim.norm (h : Sim X ρ s a w) (sh : Shape) (key : Nat) : ∃ ρ', Sim X ρ' (sh.norm key s) a w := by
  obtain ⟨ρ', h1⟩ := h.norm0 (zlD sh.tm) key
  exact ⟨ρ', zqi sh.tm _ h1 h1⟩
end
section
variable {X : Ctx} {ρ : Nat -> RI} {s : St} {a : Act} {w : World} {R : Type} {env : Nat -> Option Sg} {ret : St -> Option R} {lp : Lp R} {r : R}
def QE (Q : Exit -> Act -> World -> Prop) (F : Prop) : Ex -> Act -> World -> Prop
  | .normal, a, w => Q .normal a w
  | .exit id, a, w => Q (.exit id) a w
  | .goto l, a, w => Q (.goto l) a w
  | .fall, a, w => F -> Q .normal a w
def Ends (X : Ctx) (k : Kn R) (r : R) (Q : Exit -> Act -> World -> Prop) (F : Prop) : Prop :=
  ∀ e s ρ a w, k e s = some r -> Sim X ρ s a w -> QE Q F e a w
def Rets (X : Ctx) (ret : St -> Option R) (r : R) (Q : Exit -> Act -> World -> Prop) : Prop :=
  ∀ s ρ a w, ret s = some r -> Sim X ρ s a w -> Q .ret a w
def znC (P : Program) (l : Nat) (b : Code) (Q : Exit -> Act -> World -> Prop) (I : Nat -> Act -> World -> Prop) : Prop :=
  ∀ n a w, I n a w -> b.wp P (Exit.jump l (fun a' w' => ∃ m, m < n /\ I m a' w') Q) a w
structure LpOK (X : Ctx) (ret : St -> Option R) (lp : Lp R) (r : R) : Prop where
  loop : ∀ key c s k Q ρ a w, key < 1000 -> lp key c s k = some r -> Sim X ρ s a w -> Ends X k r Q False -> Rets X ret r Q -> (Code.loop c).wp X.P Q a w
  label : ∀ l c s k Q ρ a w, lp (1000 + l) c s k = some r -> Sim X ρ s a w -> Ends X k r Q True -> Rets X ret r Q -> ∃ I n, I n a w /\ znC X.P l c Q I
theorem zyT {p : Nat -> Prop} (h : ∃ n, p n) : ∃ n, p n /\ ∀ m, p m -> n <= m := by
  obtain ⟨n, hn⟩ := h
  induction n using Nat.strongRecOn with
  | _ n ih =>
    by_cases h : ∃ m, m < n /\ p m
    . obtain ⟨m, hm, hp⟩ := h; exact ih m hm hp
    . exact ⟨n, hn, fun m hm => Nat.le_of_not_lt fun hlt => h ⟨m, hlt, hm⟩⟩
open Classical in
noncomputable def rank (I : Nat -> Act -> World -> Prop) (a : Act) (w : World) : Nat := if h : ∃ n, I n a w then (zyT h).choose else 0
theorem zeS {I : Nat -> Act -> World -> Prop} {n : Nat} {a : Act} {w : World} (h : I n a w) : I (rank I a w) a w /\ rank I a w <= n := by
  have hex : ∃ n, I n a w := ⟨n, h⟩
  unfold rank
  rw [dif_pos hex]
  have := (zyT hex).choose_spec
  exact ⟨this.1, this.2 n h⟩
theorem zl8 {P : Program} {c : Code} {Q : Exit -> Act -> World -> Prop} (I : Nat -> Act -> World -> Prop) {n : Nat} (h0 : I n a w) (round : ∀ n a w, I n a w -> c.wp P (Exit.then (fun a' w' => ∃ m, m < n /\ I m a' w') Q) a w) : (Code.loop c).wp P Q a w := by
  refine wp_loop (fun a w => ∃ n, I n a w) (rank I) ⟨n, h0⟩ fun a w ⟨n, hn⟩ => ?_
  obtain ⟨h1, _⟩ := zeS hn
  refine wp_mono (round _ a w h1) fun e a' w' hq => ?_
  cases e with
  | normal =>
    obtain ⟨m, hm, hI⟩ := hq
    exact ⟨⟨m, hI⟩, Nat.lt_of_le_of_lt (zeS hI).2 hm⟩
  | _ => exact hq
theorem zkM {P : Program} {c rest : Code} {l : Nat} {Q : Exit -> Act -> World -> Prop} (G : Nat -> Act -> World -> Prop) (hf : findLabel c l = some rest) (first : c.wp P (Exit.jump l (fun a w => ∃ n, G n a w) Q) a w)
    (pass : znC P l rest Q G) : (Code.scope c).wp P Q a w := by
  refine wp_scope_jumps l (fun a w => ∃ n, G n a w) (rank G) hf first fun a w ⟨n, hn⟩ => ?_
  obtain ⟨h1, _⟩ := zeS hn
  refine wp_mono (pass _ a w h1) fun e a' w' hq => ?_
  cases e with
  | goto l' =>
    obtain ⟨e1, m, hm, hI⟩ := hq
    exact ⟨e1, ⟨m, hI⟩, Nat.lt_of_le_of_lt (zeS hI).2 hm⟩
  | _ => exact hq
def zeT : Code -> Code
  | .seq a b => match a with
    | .label _ => b
    | _ => zeT b
  | c => c
theorem zij {x y : Code} (h : ∀ l, x = .label l -> False) : zeT (.seq x y) = zeT y := by
  cases x <;> first | rfl | exact (h _ rfl).elim
theorem zoD {l : Nat} {pre : List Code} (h : ztb l pre = true) : ∀ c ∈ pre, findLabel c l = none := by
  induction pre with
  | nil => intro c hc; cases hc
  | cons p pre ih =>
    unfold ztb at h
    intro c hc
    cases hp : findLabel p l with
    | some x => rw [hp] at h; cases h
    | none =>
      rw [hp] at h
      rcases List.mem_cons.1 hc with rfl | hc
      . exact hp
      . exact ih h c hc
theorem zoE : ∀ (c : Code) (pre : List Code) (l : Nat), zcW pre c = some l -> (∀ p ∈ pre, findLabel p l = none) /\ findLabel c l = some (.seq .skip (zeT c)) := by
  intro c
  induction c with
  | seq a b iha ihb =>
    intro pre l h
    unfold zcW at h
    split at h
    . rename_i l'
      obtain ⟨h1, h2⟩ := zaa h
      simp only [oi1] at h2
      subst h2
      exact ⟨zoD h1, by simp [findLabel, zeT]⟩
    . rename_i hne
      obtain ⟨h1, h2⟩ := ihb _ l h
      refine ⟨fun p hp => h1 p (List.mem_cons_of_mem _ hp), ?_⟩
      have ha := h1 a List.mem_cons_self
      rw [findLabel, ha]
      simp only
      rw [h2]
      rw [zij hne]
  | _ => intro pre l h; simp [zcW] at h
theorem Ends.mono {k : Kn R} {Q Q' : Exit -> Act -> World -> Prop} {F F' : Prop} (h : Ends X k r Q F) (hq : ∀ e a w, QE Q F e a w -> QE Q' F' e a w) : Ends X k r Q' F' :=
  fun e s ρ a w hk hs => hq e a w (h e s ρ a w hk hs)
theorem zqj (id : Nat) (x : Ob) : Less x ⟨x.row, x.n, x.ty, zpk id x.o⟩ := by
  have hl : ∀ l : List C, (zpj id l).length = l.length := fun l => by
    induction l with
    | nil => rfl
    | cons c l ih => simp [zpj, ih]
  have hr : ∀ (X : Ctx) (ρ : Nat -> RI) (l : List C) (vs : List Value), RCs X ρ l vs -> RCs X ρ (zpj id l) vs := fun X ρ l => by
    induction l with
    | nil => intro vs h; exact h
    | cons c l ih =>
      intro vs h
      cases vs with
      | nil => exact h.elim
      | cons v vs =>
        refine ⟨?_, ih vs h.2⟩
        cases c.men id with
        | true => exact trivial
        | false => exact h.1
  obtain ⟨row, n, ty, o⟩ := x
  cases o with
  | lit l => exact ⟨rfl, rfl, rfl, by simp [zpk, O.cells, hl], by simp [zpk, O.sz, hl], rfl, (fun e l h => by cases h), (fun e l h => by cases h), fun X ρ vs h => hr X ρ l vs h⟩
  | vec e l => exact ⟨rfl, rfl, rfl, rfl, rfl, rfl, fun e l h => h, fun e l h => h, fun X ρ vs h => h⟩
theorem Sim.kill (h : Sim X ρ s a w) (id : Nat) : Sim X ρ (s.kill id) a w := by
  have hd := h.del id
  have hget : ∀ (ob : List (Nat × Ob)) (j : Nat) (y : Ob), look j (ziZ id ob) = some y -> ∃ x, look j ob = some x /\ y = ⟨x.row, x.n, x.ty, zpk id x.o⟩ := fun ob => by
    induction ob with
    | nil => intro j y h; cases h
    | cons p l ih =>
      obtain ⟨m, x⟩ := p
      intro j y h
      simp only [ziZ, look] at h ⊢
      cases hb : Nat.beq m j with
      | true => rw [hb] at h; cases h; exact ⟨x, rfl, rfl⟩
      | false => rw [hb] at h; exact ih j y h
  have htm : ∀ (l : List V) (t : Nat) (v : V), (zls id l)[t]? = some v -> ∃ x, l[t]? = some x /\ (v = x \/ v = .dead) := fun l => by
    induction l with
    | nil => intro t v h; cases h
    | cons x l ih =>
      intro t v h
      cases t with
      | zero =>
        simp only [zls, List.getElem?_cons_zero, oi1] at h
        refine ⟨x, rfl, ?_⟩
        cases hb : x.men id with
        | true => rw [hb] at h; exact .inr h.symm
        | false => rw [hb] at h; exact .inl h.symm
      | succ t => simpa using ih t v (by simpa [zls] using h)
  have hlen : ∀ l : List V, (zls id l).length = l.length := fun l => by
    induction l with
    | nil => rfl
    | cons x l ih => simp [zls, ih]
  refine ⟨fun t v hv => ?_, by simp only [St.kill, hlen]; exact h.sz, h.df, fun j y hy => ?_, fun i j x y hx hy hij hbi hbj => ?_, fun j y hy hb => ?_, h.fr⟩
  . obtain ⟨x, hx, hor⟩ := htm _ _ _ hv
    rcases hor with rfl | rfl
    . exact h.tm t _ hx
    . exact trivial
  . obtain ⟨x, hx, rfl⟩ := hget _ _ _ hy
    exact (hd.ob j x hx).less (zqj id x)
  . obtain ⟨x', hx', rfl⟩ := hget _ _ _ hx
    obtain ⟨y', hy', rfl⟩ := hget _ _ _ hy
    exact hd.inj i j x' y' hx' hy' hij hbi hbj
  . obtain ⟨x, hx, rfl⟩ := hget _ _ _ hy
    exact hd.own j x hx hb
theorem Sim.kills (h : Sim X ρ s a w) (l : List Nat) : Sim X ρ (s.kills l) a w := by
  induction l generalizing s with
  | nil => exact h
  | cons id l ih => exact ih (h.kill id)
theorem zBO (hp : PDok X.P X.pd) (henv : ∀ f g, env f = some g -> SgOK X.P X.pd.els f g) {ops : Array Oper} {i : Nat} {o p : Oper} {t x d f : Nat} (hpair : zna o p = some (t, x, d, f)) (ho : ops[i]? = some o) (hp2 : ops[i + 1]? = some p) {k : St -> Option R}
    (h : fzK X.pd env t x d f p s k = some r) (hs : Sim X ρ s a w) {rest : List Nat} {Q : Exit -> Act -> World -> Prop} (hk : ∀ s' ρ' a' w', k s' = some r -> Sim X ρ' s' a' w' -> wpOps X.P ops Q rest a' w') : wpOps X.P ops Q (i :: (i + 1) :: rest) a w := by
  unfold zna at hpair
  split at hpair
  case h_2 => cases hpair
  rename_i d0 t0 u0 x0 f0 args ts hg1 hg2 hdo hop hop2
  split at hpair
  case h_2 => cases hpair
  rename_i e0 hargs
  obtain ⟨hc, hpr⟩ := zaa hpair
  clear hpair
  simp only [Bool.and_eq_true] at hc
  obtain ⟨c1, c2⟩ := hc
  have c1 := Nat.beq_true c1
  have c2 := Nat.beq_true c2
  subst c1; subst c2
  simp only [oi1, pi1] at hpr
  obtain ⟨e1, e2, e3, e4⟩ := hpr
  have e1 := e1.symm
  have e2 := e2.symm
  have e3 := e3.symm
  have e4 := e4.symm
  subst e1; subst e2; subst e3; subst e4
  have hargs' : args = #[.tmp d] := by apply Array.ext'; simpa using hargs
  subst hargs'
  unfold fzK at h
  split at h
  case h_2 => cases h
  rename_i et sz by' z ht
  split at h
  case h_2 => cases h
  rename_i sz2 by2 z2 id het hsx
  split at h
  case h_2 => cases h
  rename_i n ty l hg
  obtain ⟨hpos, h⟩ := zao h
  have hpos : 0 < l.length := by simpa [ltN] using hpos
  split at h
  case h_2 => cases h
  rename_i g hgf
  obtain ⟨hm, h⟩ := zaa h
  simp only [Bool.and_eq_true] at hm
  obtain ⟨hf1, hm1, hd1⟩ := hm
  have hf1 : f < 1000000 := by simpa [Nat.blt_eq] using hf1
  have hd1 : d < s.tm.length := by simpa [Nat.blt_eq] using hd1
  cases hr : g.run [.c (.ro .u8 l)] with
  | none => rw [hr] at h; cases h
  | some q =>
    rw [hr] at h
    simp only [Option.bind_some] at h
    split at h
    case h_2 => cases h
    rename_i v obs m hab
    obtain ⟨hnew, h⟩ := zez h
    have hu := (hp.ti _ _ ht).kind
    have hue := (hp.ti _ _ het).kind
    simp only [zhU] at hu hue
    have hro := hs.ob _ _ hg
    have hvx : RV X ρ (.u (.c (.row id))) (a.eval (.tmp x)) := by rw [← hsx]; exact hs.eval x
    obtain ⟨hvx, _⟩ := hvx
    rcases zb4 hro with ⟨_, rfl⟩ | ⟨cap, h2, h3, h4⟩
    . simp at hpos
    rcases hro.mem with ⟨_, m2, _⟩ | ⟨vs, ty', cap', m1, m2, m3, m4, m5⟩
    . rw [m2] at h2; cases h2
    have hB : hasB ρ id ⟨true, n, ty, .vec .u8 l⟩ := .inr (by rw [h2]; simp)
    simp only [O.cells] at m2 m3
    rw [h2] at hvx
    generalize hw1d : w.freeze ⟨(ρ id).blk, vs.size, none⟩ 1 = w1
    have hrun1 : (execOp a.eval o).run X.P w = .ok (.value (.slice (some ⟨(ρ id).blk, 0, none⟩) l.length cap)) w1 := by
      rw [← hw1d]
      simp [execOp, hop, convert, run_underlying hu, run_underlying hue, hvx, markStringish, World.shape?, m1]
    have hw1 : w1.heap[(ρ id).blk]? = some (.cells vs ty' (vs.size, vs.size + 1)) := by
      rw [← hw1d]
      simp [World.freeze, Array.getElem?_modify, m1]
    have hw1o : ∀ j, j ≠ (ρ id).blk -> w1.heap[j]? = w.heap[j]? := fun j hj => by
      rw [← hw1d]
      simp only [World.freeze]
      rw [if_neg (by decide)]
      simp only [Array.getElem?_modify]
      rw [if_neg (fun e => hj e.symm)]
    have hw1s : w1.heap.size = w.heap.size := by rw [← hw1d]; simp [World.freeze]
    have hfrm : Frm X w1 := by
      refine ⟨?_, ?_, ?_, by rw [hw1s]; exact hs.fr.size, fun j hj hm => ?_⟩
      . rw [← hw1d]; exact hs.fr.os
      . rw [← hw1d]; exact hs.fr.tape
      . rw [← hw1d]; exact hs.fr.output
      . rw [hw1o j ?_]
        . exact hs.fr.block j hj hm
        . intro e
          subst e
          rcases hs.own id _ hg hB with h5 | h5
          . omega
          . exact hm h5
    have hs1 : Sim X ρ ⟨s.tm, zbL id s.ob⟩ a w1 := (hs.del id).world (fun j y hy hby => by
      refine hw1o _ ?_
      unfold St.get at hy
      by_cases e : j = id
      . subst e; simp only at hy; rw [zbO] at hy; cases hy
      . simp only at hy
        rw [zcD _ e] at hy
        exact hs.inj j id y _ hy hg e hby hB) hfrm
    have hs2 := (hs1.kill id).set d (v := .dead) (x := .slice (some ⟨(ρ id).blk, 0, none⟩) l.length cap) trivial
    generalize (⟨setV (St.kill ⟨s.tm, zbL id s.ob⟩ id).tm d .dead, (St.kill ⟨s.tm, zbL id s.ob⟩ id).ob⟩ : St) = s1 at hs2 hnew h
    generalize ha1 : a.put (some d) (.slice (some ⟨(ρ id).blk, 0, none⟩) l.length cap) = a1 at hs2
    have hev : a1.eval (.tmp d) = .slice (some ⟨(ρ id).blk, 0, none⟩) l.length cap := by
      rw [← ha1]
      have : d < a.tmps.size := by rw [← hs.sz]; exact hd1
      simp [Act.put, Act.eval, this]
    rw [wpOps_cons]
    unfold Go.wpOp
    simp only [ho]
    rw [if_pos (by simp [Region.wanted, hg1])]
    left
    unfold Oper.wp
    rw [hrun1]
    show wpOps X.P ops Q ((i + 1) :: rest) (a.put o.dst _) w1
    rw [hdo, ha1, wpOps_cons]
    unfold Go.wpOp
    simp only [hp2]
    rw [if_pos (by simp [Region.wanted, hg2])]
    left
    unfold Oper.wp
    have h1 : (execOp a1.eval p).run X.P w1 = (callFunc f #[.slice (some ⟨(ρ id).blk, 0, none⟩) l.length cap]).run X.P w1 := by
      have hef : a1.eval (.func f) = ({ tmps := a.tmps, defers := [] } : Act).eval (.func f) := rfl
      simp [execOp, hop2, resolve, Deferred.ofValue, invoke, hev]
      simp [Act.eval]
    rw [h1]
    have hplain : zjj X.P X.pd.els f g := by
      have := henv f g hgf
      have := this.1 (Nat.lt_trans hf1 (by decide))
      rw [Nat.mod_eq_of_lt hf1] at this
      exact this.1 (Nat.beq_true hm1)
    have hlt : (ρ id).blk < w1.heap.size := (Array.getElem?_eq_some_iff.1 hw1).1
    have hget : ∀ (j : Nat) (c : C), (flat .u8 l)[j]? = some c -> ∃ u, w1.cell? ⟨(ρ id).blk, 0 + j, none⟩ = some u /\ Holds w1 (fun b => b < w1.heap.size) c u := by
      intro j c hj
      obtain ⟨u, hu1, hcu⟩ := zlF m2 j c hj
      obtain ⟨v', hv'⟩ := zeH .u8 l c (List.mem_of_getElem? hj)
      refine ⟨u, ?_, by rw [zap hv' hcu]; exact .sc hv'⟩
      rw [Nat.zero_add, cell_of_row w1 _ j vs ty' (vs.size, vs.size + 1) hw1]
      rw [List.getElem?_take] at hu1
      split at hu1
      . simpa using hu1
      . cases hu1
    have hh : zaX w1 (fun b => b < w1.heap.size) [.c (.ro .u8 l)] [.slice (some ⟨(ρ id).blk, 0, none⟩) l.length cap] :=
      ⟨.ro (fun j => (w1.cell? ⟨(ρ id).blk, 0 + j, none⟩).getD undef) h3 h4 hlt (fun j c hj => by
        obtain ⟨u, hu1, _⟩ := hget j c hj
        simp only [hu1, Option.getD_some]) (fun j c hj => by
        obtain ⟨u, hu1, hh⟩ := hget j c hj
        simp only [hu1, Option.getD_some]; exact hh), trivial⟩
    have h5 := hplain _ q hr w1 _ (fun b => b < w1.heap.size) (fun _ h => h) hh
    refine h5 p a1 _ Q fun val w2 ⟨hown, hkp⟩ => ?_
    have hs3 : Sim X ρ s1 a1 w2 := hs2.world (fun id x hx hb => hkp.block _ (hs2.lt hx hb)) (hkp.frm hs2.fr)
    obtain ⟨ρ', g1, g2, g3⟩ := zbV (fun g hg => .inl (Nat.le_trans hs2.fr.size hg)) hab hown hs3 (fun id x hx hb => Nat.not_le.2 (hs2.lt hx hb)) (fun id h1 h2 => za9 hnew h1 (by omega))
    refine hk _ ρ' _ _ h ?_
    cases hd : p.dst with
    | none => simpa [Eff.app, St.dels, Act.put] using g1
    | some d2 => simpa [Eff.app, St.dels] using g1.set d2 g2
theorem zqk (hp : PDok X.P X.pd) (henv : ∀ f g, env f = some g -> SgOK X.P X.pd.els f g) {id : Nat} {ops : Array Oper} {draw : Bool} {k : St -> Option R} {Q : Exit -> Act -> World -> Prop} (h : zlx X.pd env ops.toList draw s k = some r) (hs : Sim X ρ s a w)
    (hk : ∀ s' ρ' a' w', k s' = some r -> Sim X ρ' s' a' w' -> Q .normal a' w') : (Code.region id ops draw).wp X.P Q a w := by
  unfold zlx at h
  replace hs := hs.kills (zdd X.pd s ops.toList)
  generalize s.kills (zdd X.pd s ops.toList) = s at h hs
  unfold zpt at h
  split at h
  . rename_i i hi
    cases draw with
    | true => cases hi
    | false =>
      unfold zps at h
      obtain ⟨fs, s', h1, h2⟩ := zgY h
      split at h1
      case h_2 => cases h1
      rename_i o p rest hdr
      split at h1
      case h_2 => cases h1
      rename_i t x d f hpair
      have hlen : ops.toList.length = i + 2 + rest.length := by
        have := congrArg List.length hdr
        simp only [List.length_drop, List.length_cons] at this
        omega
      have htk : (ops.toList.take i).length = i := by rw [List.length_take]; omega
      have ho : ops[i]? = some o := by
        rw [← Array.getElem?_toList]
        have := congrArg (·[0]?) hdr
        simpa using this
      have hp2 : ops[i + 1]? = some p := by
        rw [← Array.getElem?_toList]
        have := congrArg (·[1]?) hdr
        simpa using this
      have hrest : ops.toList.drop (i + 2) = rest := by
        have := congrArg (List.drop 2) hdr
        rw [List.drop_drop] at this
        simpa using this
      refine wp_region ?_
      have hrange : List.range ops.size = List.range' 0 (ops.toList.take i).length ++ (i :: (i + 1) :: List.range' (i + 2) rest.length) := by
        rw [List.range_eq_range', htk, show ops.size = i + (2 + rest.length) by have : ops.toList.length = ops.size := Array.length_toList; omega, ← List.range'_append_1]
        congr 1
        rw [Nat.zero_add, show 2 + rest.length = (rest.length + 1) + 1 by omega, List.range'_succ, List.range'_succ]
      rw [hrange]
      refine h2.wpPre hp henv 0 ρ a w _ (by rw [List.drop_zero, htk]) hs fun ρ1 a1 w1 hs1 => ?_
      refine zBO hp henv hpair ho hp2 h1 hs1 fun s2 ρ2 a2 w2 h3 hs2 => ?_
      obtain ⟨fs2, s3, h4, h5⟩ := zgY h3
      exact h5.wpOps hp henv (i + 2) ρ2 a2 w2 hrest hs2 (fun ρ' a' w' h' => hk s3 ρ' a' w' h4 h')
  obtain ⟨fs, s', h1, h2⟩ := zgY h
  simp only [List.reverse_nil, List.nil_append] at h1
  cases draw with
  | false =>
    simp only [cond_false] at h1
    refine wp_region ?_
    have := h2.wpOps hp henv 0 ρ a w (by simp) hs (Q := Q) (fun ρ' a' w' h' => hk s' ρ' a' w' h1 h')
    rw [List.range_eq_range']
    simpa using this
  | true =>
    simp only [cond_true] at h1
    obtain ⟨h3, h4⟩ := zaa h1
    exact zwH hp henv h2 h3 (fun ρ' a' w' h' => hk s' ρ' a' w' h4 h') hs id
theorem zfT (hp : PDok X.P X.pd) (henv : ∀ f g, env f = some g -> SgOK X.P X.pd.els f g) (hlp : LpOK X ret lp r) : ∀ (c : Code),
    (∀ s k Q ρ a w, (ex2 X.pd env ret lp c).1 s k = some r -> Sim X ρ s a w -> Ends X k r Q False -> Rets X ret r Q -> c.wp X.P Q a w) /\
    (∀ pre l s k Q ρ a w, zcW pre c = some l -> (ex2 X.pd env ret lp c).2 s (Kn.noGoto k) = some r -> Sim X ρ s a w -> Ends X k r Q False -> Rets X ret r Q ->
      c.wp X.P (Exit.jump l (fun a w => ∃ n I, I n a w /\ znC X.P l (zeT c) Q I) Q) a w) := by
  intro c
  induction c with
  | skip => exact ⟨fun s k Q ρ a w h hs hk hr => wp_skip (hk _ _ _ _ _ h hs), fun pre l s k Q ρ a w hsp => by simp [zcW] at hsp⟩
  | region id ops draw => exact ⟨fun s k Q ρ a w h hs hk hr => zqk hp henv h hs fun s' ρ' a' w' h1 h2 => hk _ _ _ _ _ h1 h2, fun pre l s k Q ρ a w hsp => by simp [zcW] at hsp⟩
  | seq x y ihx ihy =>
    refine ⟨fun s k Q ρ a w h hs hk hr => ?_, fun pre l s k Q ρ a w hsp h hs hk hr => ?_⟩
    . refine wp_seq (ihx.1 s _ _ ρ a w h hs ?_ ?_)
      . intro e s' ρ' a' w' he hs'
        cases e with
        | normal => exact ihy.1 s' k Q ρ' a' w' he hs' hk hr
        | exit id => exact hk (.exit id) s' ρ' a' w' he hs'
        | goto l => exact hk (.goto l) s' ρ' a' w' he hs'
        | fall => exact fun hf => hf.elim
      . exact fun s' ρ' a' w' h1 h2 => hr s' ρ' a' w' h1 h2
    . unfold zcW at hsp
      split at hsp
      . rename_i l'
        obtain ⟨_, hsp⟩ := zaa hsp
        simp only [oi1] at hsp
        subst hsp
        obtain ⟨I, n, hI, hR⟩ := hlp.label l' y s (Kn.fall (Kn.noGoto k)) Q ρ a w h hs (by
          intro e s' ρ' a' w' he hs'
          cases e with
          | normal => exact hk .normal s' ρ' a' w' he hs'
          | exit id => exact hk (.exit id) s' ρ' a' w' he hs'
          | goto l => cases he
          | fall => exact fun _ => hk .normal s' ρ' a' w' he hs') hr
        refine wp_seq (wp_label ?_)
        refine wp_mono (hR n a w hI) fun e a' w' hq => ?_
        cases e with
        | goto l'' =>
          obtain ⟨e1, m, hm, hIm⟩ := hq
          exact ⟨e1, m, I, hIm, hR⟩
        | _ => exact hq
      . rename_i hne
        have htail : zeT (.seq x y) = zeT y := zij hne
        have h' : (ex2 X.pd env ret lp x).1 s (Kn.seq (fun s => (ex2 X.pd env ret lp y).2 s (Kn.noGoto k)) (Kn.noGoto k)) = some r := by
          cases x <;> first | exact h | exact (hne _ rfl).elim
        rw [htail]
        refine wp_seq (ihx.1 s _ _ ρ a w h' hs ?_ ?_)
        . intro e s' ρ' a' w' he hs'
          cases e with
          | normal => exact ihy.2 _ l s' k Q ρ' a' w' hsp he hs' hk hr
          | exit id => exact hk (.exit id) s' ρ' a' w' he hs'
          | goto l => cases he
          | fall => exact fun hf => hf.elim
        . exact fun s' ρ' a' w' h1 h2 => hr s' ρ' a' w' h1 h2
  | cond c x y ihx ihy =>
    refine ⟨fun s k Q ρ a w h hs hk hr => ?_, fun pre l s k Q ρ a w hsp => by simp [zcW] at hsp⟩
    simp only [ex2] at h
    split at h
    . rename_i t ht
      refine wp_cond (zpA hs ht) ?_
      cases t with
      | true => exact ihx.1 s k Q ρ a w h hs hk hr
      | false => exact ihy.1 s k Q ρ a w h hs hk hr
    . cases h
  | block id c ih =>
    refine ⟨fun s k Q ρ a w h hs hk hr => ?_, fun pre l s k Q ρ a w hsp => by simp [zcW] at hsp⟩
    refine wp_block (ih.1 s _ _ ρ a w h hs ?_ ?_)
    . intro e s' ρ' a' w' he hs'
      cases e with
      | normal => exact hk .normal s' ρ' a' w' he hs'
      | exit j =>
        simp only [QE, Exit.inBlock]
        have he' : cond (Nat.beq j id) (k .normal s') (k (.exit j) s') = some r := he
        cases hb : Nat.beq j id with
        | true =>
          rw [hb] at he'
          rw [if_pos (Nat.beq_true hb)]
          exact hk .normal s' ρ' a' w' he' hs'
        | false =>
          rw [hb] at he'
          rw [if_neg (fun e => by subst e; simp at hb)]
          exact hk (.exit j) s' ρ' a' w' he' hs'
      | goto l => exact hk (.goto l) s' ρ' a' w' he hs'
      | fall => exact fun hf => hf.elim
    . exact fun s' ρ' a' w' h1 h2 => hr s' ρ' a' w' h1 h2
  | loop c ih =>
    refine ⟨fun s k Q ρ a w h hs hk hr => ?_, fun pre l s k Q ρ a w hsp => by simp [zcW] at hsp⟩
    have h' : cond (Nat.blt (zi5 c) 1000) (lp (zi5 c) c s k) none = some r := h
    obtain ⟨h1, h2⟩ := zaa h'
    exact hlp.loop _ c s k Q ρ a w (by simpa [Nat.blt_eq] using h1) h2 hs hk hr
  | exit id => exact ⟨fun s k Q ρ a w h hs hk hr => wp_exit (hk (.exit id) _ _ _ _ h hs), fun pre l s k Q ρ a w hsp => by simp [zcW] at hsp⟩
  | goto l => exact ⟨fun s k Q ρ a w h hs hk hr => wp_goto (hk (.goto l) _ _ _ _ h hs), fun pre l s k Q ρ a w hsp => by simp [zcW] at hsp⟩
  | label l => exact ⟨fun s k Q ρ a w h hs hk hr => wp_label (hk .normal _ _ _ _ h hs), fun pre l s k Q ρ a w hsp => by simp [zcW] at hsp⟩
  | ret => exact ⟨fun s k Q ρ a w h hs hk hr => wp_ret (hr _ _ _ _ h hs), fun pre l s k Q ρ a w hsp => by simp [zcW] at hsp⟩
  | scope c ih =>
    refine ⟨fun s k Q ρ a w h hs hk hr => ?_, fun pre l s k Q ρ a w hsp => by simp [zcW] at hsp⟩
    have h' : (match zcW [] c with
      | some _ => (ex2 X.pd env ret lp c).2 s (Kn.noGoto k)
      | none => none) = some r := h
    split at h'
    . rename_i l hl
      have h1 := ih.2 [] l s k Q ρ a w hl h' hs hk hr
      obtain ⟨_, hf⟩ := zoE c [] l hl
      refine zkM (fun n a w => ∃ I, I n a w /\ znC X.P l (zeT c) Q I) hf h1 ?_
      intro n a w ⟨I, hI, hR⟩
      refine wp_seq (wp_skip ?_)
      refine wp_mono (hR n a w hI) fun e a' w' hq => ?_
      cases e with
      | goto l' =>
        obtain ⟨e1, m, hm, hIm⟩ := hq
        exact ⟨e1, m, hm, I, hIm, hR⟩
      | _ => exact hq
    . cases h'
  | rangeFunc _ _ _ _ => exact ⟨fun s k Q ρ a w h => (by cases h), fun pre l s k Q ρ a w hsp => by simp [zcW] at hsp⟩
  | refuse _ => exact ⟨fun s k Q ρ a w h => (by cases h), fun pre l s k Q ρ a w hsp => by simp [zcW] at hsp⟩
end
section
variable {X : Ctx} {ρ : Nat -> RI} {s : St} {a : Act} {w : World} {R : Type} {env : Nat -> Option Sg} {ret : St -> Option R} {lp : Lp R} {r : R}
theorem zl9 {sh : Shape} {nm : St -> St} {out : Ex} {A E : sh.T -> Option R} {e : Ex} {s : St} (h : Kc sh.dec nm out.is A E e s = some r) :
    (e = .normal /\ ∃ x, sh.dec (nm s) = some x /\ A x = some r) \/ (e ≠ .normal /\ (e = out /\ out.is e = true) /\ ∃ x, sh.dec (nm s) = some x /\ E x = some r) := by
  unfold Kc at h
  split at h
  . split at h
    . rename_i x hx
      exact .inl ⟨rfl, x, hx, h⟩
    . cases h
  . rename_i hne
    obtain ⟨h1, h2⟩ := zaa h
    split at h2
    . rename_i x hx
      refine .inr ⟨hne, ⟨?_, h1⟩, x, hx, h2⟩
      cases e <;> cases out <;> simp [Ex.is] at h1 <;> first | rfl | rw [h1]
    . cases h2
theorem zef (hp : PDok X.P X.pd) (henv : ∀ f g, env f = some g -> SgOK X.P X.pd.els f g) (N : Nat) (tab : List (Nat × Head)) : ∀ d, LpOK X ret (mkLp X.pd env ret N tab d) r
  | 0 => ⟨fun key c s k Q ρ a w _ h => by (cases h), fun l c s k Q ρ a w h => by (cases h)⟩
  | d + 1 => by
    have ih := zef hp henv N tab d
    have head : ∀ key c s k, mkLp X.pd env ret N tab (d + 1) key c s k = some r -> ∃ hd : Head, ∃ x, hd.sh.dec (hd.sh.norm key s) = some x /\
        zar (fun A x => exec X.pd env ret (mkLp X.pd env ret N tab d) c (hd.sh.enc x) (zoc key (Kc hd.sh.dec (hd.sh.norm key) hd.out.is A fun y => k hd.out (hd.sh.enc y)))) N x = some r := by
      intro key c s k h
      have h' : (match look key tab with
        | some hd => zwh (fun _ => zar) X.pd env ret N (mkLp X.pd env ret N tab d) hd key c s k
        | none => none) = some r := h
      cases hl : look key tab with
      | none => rw [hl] at h'; cases h'
      | some hd =>
        rw [hl] at h'
        unfold zwh at h'
        simp only at h'
        cases hx : hd.sh.dec (hd.sh.norm key s) with
        | none => rw [hx] at h'; cases h'
        | some x => rw [hx] at h'; exact ⟨hd, x, hx, h'⟩
    refine ⟨fun key c s k Q ρ a w hkey h hs hk hr => ?_, fun l c s k Q ρ a w h hs hk hr => ?_⟩
    . obtain ⟨hd, x, hx, h⟩ := head key c s k h
      obtain ⟨ρ1, hs1⟩ := hs.norm hd.sh key
      have hwr : ∀ k' : Kn R, zoc key k' = k' := fun k' => by
        unfold zoc
        have : Nat.blt key 1000 = true := by rw [Nat.blt_eq]; exact hkey
        rw [this]; rfl
      simp only [hwr] at h
      refine zl8 (fun n a w => ∃ x ρ, zar (fun A x => exec X.pd env ret (mkLp X.pd env ret N tab d) c (hd.sh.enc x) (Kc hd.sh.dec (hd.sh.norm key) hd.out.is A fun y => k hd.out (hd.sh.enc y))) n x = some r /\ Sim X ρ (hd.sh.enc x) a w)
        (n := N) ⟨x, ρ1, h, hs1.dec hx⟩ ?_
      rintro n a w ⟨x, ρ, h, hs⟩
      cases n with
      | zero => cases h
      | succ n =>
        refine (zfT hp henv ih c).1 _ _ _ ρ a w h hs ?_ (fun s' ρ' a' w' h1 h2 => hr s' ρ' a' w' h1 h2)
        intro e s' ρ' a' w' he hs'
        obtain ⟨ρ2, hs2⟩ := hs'.norm hd.sh key
        rcases zl9 he with ⟨rfl, y, hy, hA⟩ | ⟨hne, ⟨rfl, _⟩, y, hy, hE⟩
        . exact ⟨n, Nat.lt_succ_self n, y, ρ2, hA, hs2.dec hy⟩
        . have := hk hd.out _ ρ2 a' w' hE (hs2.dec hy)
          cases ho : hd.out with
          | normal => exact absurd ho hne
          | exit id => rw [ho] at this; exact this
          | goto l => rw [ho] at this; exact this
          | fall => exact fun hf => hf.elim
    . obtain ⟨hd, x, hx, h⟩ := head (1000 + l) c s k h
      obtain ⟨ρ1, hs1⟩ := hs.norm hd.sh (1000 + l)
      have hwr : ∀ k' : Kn R, zoc (1000 + l) k' = Kn.again l k' := fun k' => by
        unfold zoc
        have : Nat.blt (1000 + l) 1000 = false := by
          cases hb : Nat.blt (1000 + l) 1000 with
          | false => rfl
          | true => rw [Nat.blt_eq] at hb; omega
        rw [this, Nat.add_sub_cancel_left]; rfl
      simp only [hwr] at h
      refine ⟨fun n a w => ∃ x ρ, zar (fun A x => exec X.pd env ret (mkLp X.pd env ret N tab d) c (hd.sh.enc x) (Kn.again l (Kc hd.sh.dec (hd.sh.norm (1000 + l)) hd.out.is A fun y => k hd.out (hd.sh.enc y)))) n x = some r /\ Sim X ρ (hd.sh.enc x) a w,
        N, ⟨x, ρ1, h, hs1.dec hx⟩, ?_⟩
      rintro n a w ⟨x, ρ, h, hs⟩
      cases n with
      | zero => cases h
      | succ n =>
        refine (zfT hp henv ih c).1 _ _ _ ρ a w h hs ?_ (fun s' ρ' a' w' h1 h2 => hr s' ρ' a' w' h1 h2)
        intro e s' ρ' a' w' he hs'
        obtain ⟨ρ2, hs2⟩ := hs'.norm hd.sh (1000 + l)
        have leave : ∀ e' : Ex, Kc hd.sh.dec (hd.sh.norm (1000 + l)) hd.out.is (zar (fun A x => exec X.pd env ret (mkLp X.pd env ret N tab d) c (hd.sh.enc x) (Kn.again l (Kc hd.sh.dec (hd.sh.norm (1000 + l)) hd.out.is A fun y => k hd.out (hd.sh.enc y)))) n) (fun y => k hd.out (hd.sh.enc y)) e' s' = some r ->
            (e' = .normal /\ ∃ y, Sim X ρ2 (hd.sh.enc y) a' w' /\ zar (fun A x => exec X.pd env ret (mkLp X.pd env ret N tab d) c (hd.sh.enc x) (Kn.again l (Kc hd.sh.dec (hd.sh.norm (1000 + l)) hd.out.is A fun y => k hd.out (hd.sh.enc y)))) n y = some r) \/ (e' ≠ .normal /\ QE Q True e' a' w') := by
          intro e' he'
          rcases zl9 he' with ⟨rfl, y, hy, hA⟩ | ⟨hne, ⟨rfl, _⟩, y, hy, hE⟩
          . exact .inl ⟨rfl, y, hs2.dec hy, hA⟩
          . exact .inr ⟨hne, hk hd.out _ ρ2 a' w' hE (hs2.dec hy)⟩
        cases e with
        | normal =>
          rcases leave .fall he with ⟨h1, _⟩ | ⟨_, h1⟩
          . cases h1
          . exact h1 trivial
        | exit id =>
          rcases leave (.exit id) he with ⟨h1, _⟩ | ⟨_, h1⟩
          . cases h1
          . exact h1
        | goto m =>
          have he' : cond (Nat.beq m l) (Kc hd.sh.dec (hd.sh.norm (1000 + l)) hd.out.is _ _ .normal s') (Kc hd.sh.dec (hd.sh.norm (1000 + l)) hd.out.is _ _ (.goto m) s') = some r := he
          cases hb : Nat.beq m l with
          | true =>
            rw [hb] at he'
            rcases leave .normal he' with ⟨_, y, h1, h2⟩ | ⟨h1, _⟩
            . exact ⟨Nat.beq_true hb, n, Nat.lt_succ_self n, y, ρ2, h2, h1⟩
            . exact absurd rfl h1
          | false =>
            rw [hb] at he'
            simp only [cond_false] at he'
            rcases zl9 he' with ⟨h1, _⟩ | ⟨_, ⟨_, h1⟩, _⟩
            . cases h1
            . exfalso
              revert h1
              cases hd.out <;> simp [Ex.is]
        | fall => exact fun hf => hf.elim
end
section
variable {X : Ctx} {ρ : Nat -> RI} {s : St} {a : Act} {w : World} {R : Type} {env : Nat -> Option Sg} {ret : St -> Option R} {r : R}
theorem zft {ok : Nat -> Prop} (hok : ∀ b, ok b -> X.ok b) {l : List C} {vs : List Value} (h : zaS X.w0 ok l vs) : RCs X ρ l vs := by
  induction l generalizing vs with
  | nil => cases vs with
    | nil => trivial
    | cons _ _ => exact h.elim
  | cons c l ih => cases vs with
    | nil => exact h.elim
    | cons v vs => exact ⟨zdj (h.1.mono fun b hb => ⟨hok b hb, rfl⟩), ih h.2⟩
theorem zeU {ok : Nat -> Prop} (hok : ∀ b, ok b -> X.ok b) {u : U} {v : Value} (h : zh0 X.w0 ok u v) : RU X ρ u v := by
  cases u with
  | c x => exact zdj (h.mono fun b hb => ⟨hok b hb, rfl⟩)
  | agg l => obtain ⟨vs, h1, h2⟩ := h; exact ⟨vs, h1, zft hok h2⟩
  | vec e l => obtain ⟨vs, h1, h2⟩ := h; exact ⟨vs, h1, zft hok h2⟩
  | box l => exact h
theorem zdp {w : World} {ok : Nat -> Prop} {us : List U} {vs : List Value} (h : zaX w ok us vs) : us.length = vs.length /\ ∀ (j : Nat) (u : U), us[j]? = some u -> ∃ v, vs[j]? = some v /\ zh0 w ok u v := by
  induction us generalizing vs with
  | nil => cases vs with
    | nil => exact ⟨rfl, fun j u h => by simp at h⟩
    | cons _ _ => exact h.elim
  | cons u us ih => cases vs with
    | nil => exact h.elim
    | cons v vs =>
      obtain ⟨h1, h2⟩ := ih h.2
      refine ⟨by simp [h1], fun j x hx => ?_⟩
      cases j with
      | zero => simp at hx; subst hx; exact ⟨v, by simp, h.1⟩
      | succ j => simpa using h2 j x (by simpa using hx)
theorem zkN {P : Program} {pd : PD} {w : World} {ok : Nat -> Prop} (hok : ∀ b, ok b -> b < w.heap.size) {us : List U} {vs : List Value} (h : zaX w ok us vs) (n : Nat) :
    Sim ⟨P, pd, w, fun _ => False, fun _ => (0, 0, 0, 0), fun _ => True⟩ (fun _ => ⟨0, undef, 0, 0⟩) ⟨us.map .u ++ List.replicate (n - us.length) .dead, []⟩ { tmps := vs.toArray ++ Array.replicate (n - vs.toArray.size) undef, defers := [] } w := by
  obtain ⟨hl, hg⟩ := zdp h
  refine ⟨fun t v hv => ?_, by simp [hl], rfl, fun id x hx => (by cases hx), fun i j x y hx => (by cases hx), fun id x hx => (by cases hx), ⟨rfl, rfl, rfl, Nat.le_refl _, fun _ _ _ => rfl⟩⟩
  simp only [List.getElem?_append, List.length_map] at hv
  split at hv
  . rename_i hlt
    rw [List.getElem?_map] at hv
    obtain ⟨u, hu, rfl⟩ := Option.map_eq_some_iff.1 hv
    obtain ⟨z, hz, hh⟩ := hg t u hu
    have e1 : (vs.toArray ++ Array.replicate (n - vs.toArray.size) undef).getD t undef = z := by
      have hlt' : t < vs.length := by omega
      rw [List.getElem?_eq_getElem hlt'] at hz
      cases hz
      simp [Array.getElem_append, hlt', Nat.lt_add_right _ hlt']
    rw [e1]
    exact zeU (X := ⟨P, pd, w, fun _ => False, fun _ => (0, 0, 0, 0), fun _ => True⟩) (fun b hb => ⟨hok b hb, fun h => h, trivial⟩) hh
  . obtain ⟨_, rfl⟩ := List.getElem?_eq_some_iff.1 hv
    simp [RV]
theorem zdq (h : Sim X ρ s a w) : ∀ (us : List U) (vs : List Value) (k : List U -> Option R), zi6 X.pd s us k = some r -> RUs X ρ us vs -> (idUs us).Nodup ->
    ∃ ds cs gs, k ds = some r /\ Split ds vs cs /\ OwnL X.pd.els w (fun b => X.w0.heap.size <= b \/ X.may b) (cellsOf ds) cs gs /\ Blks ρ s (idUs us) gs
  | [], vs, k, hk, hv, _ => by
    cases vs with
    | nil => exact ⟨[], [], [], hk, .nil, .nil, fun g hg => (by cases hg)⟩
    | cons _ _ => exact hv.elim
  | u :: us, vs, k, hk, hv, hnd => by
    cases vs with
    | nil => exact hv.elim
    | cons v vs =>
      unfold zi6 at hk
      simp only [idUs, List.nodup_append] at hnd
      obtain ⟨n1, n2, n3⟩ := hnd
      have join : ∀ {g1 gs : List Nat}, Blks ρ s u.ids g1 -> Blks ρ s (idUs us) gs -> Blks ρ s (idUs (u :: us)) (g1 ++ gs) := by
        intro g1 gs b1 b2 g hg
        rcases List.mem_append.1 hg with hg | hg
        . obtain ⟨i, hi, hr⟩ := b1 g hg; exact ⟨i, List.mem_append_left _ hi, hr⟩
        . obtain ⟨i, hi, hr⟩ := b2 g hg; exact ⟨i, List.mem_append_right _ hi, hr⟩
      cases u with
      | c x =>
        have hk' : (match rsR X.pd s x with
          | some (g, y) => must g (zi6 X.pd s us fun r => k (.c y :: r))
          | none => none) = some r := hk
        split at hk'
        . rename_i g y hy
          obtain ⟨hg, hk'⟩ := zao hk'
          subst hg
          obtain ⟨ds, cs, gs, k1, k2, k3, k4⟩ := zdq h us vs _ hk' hv.2 n2
          obtain ⟨g1, o1, b1⟩ := zyJ h hy hv.1
          exact ⟨.c y :: ds, v :: cs, g1 ++ gs, k1, .c k2, zdm o1 k3 (Blks.apart h b1 k4 fun i hi hj => n3 i hi i hj rfl), join b1 k4⟩
        . cases hk'
      | agg l =>
        obtain ⟨xs, rfl, hx⟩ := hv.1
        obtain ⟨d, g1, k0, o1, b1, hlen⟩ := zeI h l xs.toList (fun r => zi6 X.pd s us fun q => k (.agg r :: q)) hk hx n1
        obtain ⟨ds, cs, gs, k1, k2, k3, k4⟩ := zdq h us vs _ k0 hv.2 n2
        exact ⟨.agg d :: ds, xs.toList ++ cs, g1 ++ gs, k1, .agg (by rw [hlen, zat hx]) k2, zdm o1 k3 (Blks.apart h b1 k4 fun i hi hj => n3 i hi i hj rfl), join b1 k4⟩
      | vec e l =>
        obtain ⟨xs, rfl, hx⟩ := hv.1
        obtain ⟨ds, cs, gs, k1, k2, k3, k4⟩ := zdq h us vs (fun q => k (.vec e l :: q)) hk hv.2 n2
        refine ⟨.vec e l :: ds, xs.toList ++ cs, gs, k1, .vec (zat hx) k2, ?_, join (g1 := []) (fun g hg => (by cases hg)) k4⟩
        have : ∀ (l : List C) (vs : List Value), Vals l vs -> OwnL X.pd.els w (fun b => X.w0.heap.size <= b \/ X.may b) (l ++ cellsOf ds) (vs ++ cs) gs := by
          intro l
          induction l with
          | nil => intro vs h; cases vs with
            | nil => exact k3
            | cons _ _ => exact h.elim
          | cons c l ih => intro vs h; cases vs with
            | nil => exact h.elim
            | cons v vs => exact .sc h.1 (ih vs h.2)
        exact this _ _ (zcm hx)
      | box l => exact hv.1.elim
def resM (a : Act) : ResultVar -> Sem Value
  | .tmp t => pure (a.tmps.getD t undef)
  | .cell b t => do loadVar t (← asAddr (a.tmps.getD b undef))
theorem zfu (hp : PDok X.P X.pd) (h : Sim X ρ s a w) : ∀ (l : List ResultVar) (us : List U), endV X.pd s l = some us ->
    ∃ vs : List Value, RUs X ρ us vs /\ (l.mapM (resM a)).run X.P w = .ok vs w
  | [], us, he => by
    simp only [endV, oi1] at he
    subst he
    exact ⟨[], trivial, by simp⟩
  | x :: l, us, he => by
    unfold endV at he
    split at he
    . rename_i u hu
      split at he
      . rename_i us' hus
        simp only [oi1] at he
        subst he
        obtain ⟨vs, h1, h2⟩ := zfu hp h l us' hus
        cases x with
        | tmp t =>
          simp only at hu
          split at hu
          . rename_i u' hs
            simp only [oi1] at hu
            subst hu
            have hv := h.eval t
            rw [hs] at hv
            refine ⟨a.eval (.tmp t) :: vs, ⟨hv, h1⟩, ?_⟩
            rw [List.mapM_cons]
            simp only [resM, Sem.run_bind, Sem.run_pure, Result.andThen_ok, h2]
            rfl
          . cases hu
        | cell b t =>
          simp only at hu
          split at hu
          . rename_i id i sub hs
            split at hu
            . rename_i y hy
              split at hu
              . rename_i g u' hr
                obtain ⟨hg, hu'⟩ := zaa hu
                subst hg
                cases hu'
                have hv := h.eval b
                rw [hs] at hv
                obtain ⟨hi, hsub, hv⟩ := hv
                have hv' : a.tmps.getD b undef = .pointer (some ⟨(ρ id).blk, i * (ρ id).sz + sub, none⟩) := hv
                cases hti : X.pd.ti t with
                | none =>
                  exfalso
                  unfold zgq at hr
                  split at hr
                  . simp [hti] at hr
                  . unfold zdB at hr; simp [hti] at hr
                | some ti =>
                  have hro := h.ob id y hy
                  obtain ⟨r1, r2⟩ := zkb hp hti hr hro hi hsub
                  have hTI := hp.ti t ti hti
                  have fin : ∀ cs : List Value, cs.length = ti.size -> (∀ j v, cs[j]? = some v -> w.cell? ⟨(ρ id).blk, i * (ρ id).sz + sub + j, none⟩ = some v) -> RU X ρ u (zcj ti.k.agg cs) ->
                      ∃ vs' : List Value, RUs X ρ (u :: us') vs' /\ ((ResultVar.cell b t :: l).mapM (resM a)).run X.P w = .ok vs' w := by
                    intro cs c1 c2 c3
                    have hrun := zeB hTI w (ρ id).blk (i * (ρ id).sz + sub) cs c1 c2
                    refine ⟨zcj ti.k.agg cs :: vs, ⟨c3, h1⟩, ?_⟩
                    rw [List.mapM_cons]
                    simp only [resM, hv', asAddr, Sem.run_bind, Sem.run_pure, Result.andThen_ok, hrun, h2]
                  rcases Nat.eq_zero_or_pos ti.size with hz | hz
                  . exact fin [] (by simp [hz]) (by simp) (r2 [] (by rw [hz, List.take_zero]; trivial))
                  . obtain ⟨cs, c1, c2, c3⟩ := hro.cell r1 hz
                    exact fin cs c2 c3 (r2 cs c1)
              . cases hu
            . cases hu
          . cases hu
      . cases he
    . cases he
def zql : List U -> V
  | [u] => .u u
  | l => .tup l
theorem zkO (hp : PDok X.P X.pd) (h : Sim X ρ s a w) (fn : Func) (prj : List U -> Option R) (he : zdv X.pd fn prj s = some r) :
    ∃ rs v, prj rs = some r /\ (results fn a.tmps).run X.P w = .ok v w /\ OwnV X.pd.els w (fun b => X.w0.heap.size <= b \/ X.may b) (zql rs) v := by
  unfold zdv at he
  split at he
  . rename_i us hus
    obtain ⟨vs, h1, h2⟩ := zfu hp h _ us hus
    have hrun : (results fn a.tmps).run X.P w = .ok (if h : vs.toArray.size = 1 then vs.toArray[0] else .tuple vs.toArray) w := by
      have e1 : results fn a.tmps = (do
          let vs ← fn.results.mapM (resM a)
          pure (if h : vs.size = 1 then vs[0] else .tuple vs)) := by
        unfold results
        congr 1
      rw [e1, Sem.run_bind, Array.mapM_eq_mapM_toList, Sem.run_map, h2]
      rfl
    split at he
    . rename_i id
      match vs, h1, hrun with
      | [v], ⟨h1, _⟩, hrun =>
        have h1 : RC X ρ (.ptr id 0 0) v := h1
        obtain ⟨hp1, hp2, rfl⟩ := h1
        split at he
        . rename_i nn pty o hg
          have hro := h.ob _ _ hg
          have hB : hasB ρ id ⟨false, nn, pty, o⟩ := .inl rfl
          rcases hro.mem with ⟨m0, _, _⟩ | ⟨xs', ty', cap, m1, m2, m3, m4, m5⟩
          . cases m0
          . split at he
            . rename_i l
              obtain ⟨hc, he⟩ := zaa he
              simp only [Bool.and_eq_true] at hc
              have hnd := zb6 hc.2
              obtain ⟨d, g1, k0, o1, b1, hlen⟩ := zeI h l _ (fun r => prj [.box [], .agg r]) he m2 (List.nodup_cons.1 hnd).2
              refine ⟨[.box [], .agg d], _, k0, hrun, .inl ⟨_, _, rfl, (ρ id).blk, xs', ty', g1, by simp, m1, h.own id _ hg hB, ?_, ?_, ?_, ?_, fun e l h => by cases h⟩⟩
              . intro hin
                obtain ⟨i, hi, x, hx, hbx, e1⟩ := b1 _ hin
                exact h.inj i id x _ hx hg (fun e => (List.nodup_cons.1 hnd).1 (e ▸ hi)) hbx hB e1
              . simp only [U.cells, hlen]; exact Nat.lt_of_lt_of_eq (Nat.le_of_ble_eq_true hc.1) rfl
              . simp only [U.cells, hlen]; exact m3
              . simp only [U.cells, hlen]; exact o1
            . rename_i e l
              obtain ⟨hc, he⟩ := zaa he
              have hn : 0 < nn := Nat.le_of_ble_eq_true hc
              have hl : l.length = nn := hro.nl rfl (by simp only; omega) e l rfl
              refine ⟨[.box [.len nn], .vec e l], _, he, hrun, .inl ⟨_, _, rfl, (ρ id).blk, xs', ty', [], by simp, m1, h.own id _ hg hB, by simp, ?_, m3, ?_, fun e' l' hh => by cases hh; exact ⟨nn, rfl, hl⟩⟩⟩
              . simp only [U.cells, zab]; exact Nat.mul_pos (by omega) (zaK e)
              . have : ∀ (l : List C) (vs : List Value), Vals l vs -> OwnL X.pd.els w (fun b => X.w0.heap.size <= b \/ X.may b) l vs [] := by
                  intro l
                  induction l with
                  | nil => intro vs h; cases vs with
                    | nil => exact .nil
                    | cons _ _ => exact h.elim
                  | cons c l ih => intro vs h; cases vs with
                    | nil => exact h.elim
                    | cons v vs => exact .sc h.1 (ih vs h.2)
                exact this _ _ (zcm m2)
        . cases he
    rename_i hne
    obtain ⟨hnd, he⟩ := zaa he
    obtain ⟨ds, cs, gs, k1, k2, k3, _⟩ := zdq h us vs prj he h1 (zb6 hnd)
    refine ⟨ds, _, k1, hrun, ?_⟩
    have hlen : ∀ {ds : List U} {vs cs : List Value}, Split ds vs cs -> ds.length = vs.length := by
      intro ds vs cs h
      induction h with
      | nil => rfl
      | c _ ih => simp [ih]
      | agg _ _ ih => simp [ih]
      | vec _ _ ih => simp [ih]
    have hl := hlen k2
    match ds, vs, k2, k3, hl with
    | [], [], k2, k3, _ => exact .inr ⟨#[], gs, rfl, cs, k2, k3⟩
    | [u], [v], k2, k3, _ => exact ⟨gs, cs, k2, k3⟩
    | u :: u' :: ds, v :: v' :: vs, k2, k3, _ => exact .inr ⟨(v :: v' :: vs).toArray, gs, by rw [dif_neg (by simp)], cs, by simpa using k2, k3⟩
  . cases he
theorem OwnL.mono {els : List (Nat × El)} {B B' : Nat -> Prop} {cs : List C} {vs : List Value} {gs : List Nat} (h : OwnL els w B cs vs gs) (hb : ∀ b, B b -> B' b) : OwnL els w B' cs vs gs := by
  induction h with
  | nil => exact .nil
  | sc h _ ih => exact .sc h ih
  | nilr _ ih => exact .nilr ih
  | len _ ih => exact .len ih
  | row h1 h2 h3 h4 h5 h6 h7 h8 _ ih => exact .row h1 h2 (hb _ h3) h4 h5 h6 h7 h8 ih
  | view h1 h2 h3 h4 h5 h6 h7 _ ih => exact .view h1 (hb _ h2) h3 h4 h5 h6 h7 ih
  | room h1 h2 h3 h4 h5 h6 h7 _ ih => exact .room h1 (hb _ h2) h3 h4 h5 h6 h7 ih
theorem OwnV.mono {els : List (Nat × El)} {B B' : Nat -> Prop} {v : V} {x : Value} (h : OwnV els w B v x) (hb : ∀ b, B b -> B' b) : OwnV els w B' v x := by
  cases v with
  | u y => obtain ⟨gs, cs, h1, h2⟩ := h; exact ⟨gs, cs, h1, h2.mono hb⟩
  | tup l =>
    rcases h with ⟨m, u, hl, g, xs, ty, gs, h1, h2, h3, h4, h5, h6, h7, h8⟩ | ⟨vs, gs, h0, cs, h1, h2⟩
    . exact .inl ⟨m, u, hl, g, xs, ty, gs, h1, h2, hb _ h3, h4, h5, h6, h7.mono hb, h8⟩
    . exact .inr ⟨vs, gs, h0, cs, h1, h2.mono hb⟩
  | dead => trivial
theorem zBP {P : Program} {pd : PD} (hp : PDok P pd) (henv : ∀ f g, env f = some g -> SgOK P pd.els f g) {f : FuncId} {fn : Func} (hf : P.funcs[f]? = some fn) (hname : fn.name ≠ "runtime.NumGoroutine") (g : Sg) (hmode : g.mode = 0) (prj : List U -> Option g.R)
    (hprj : ∀ rs r, prj rs = some r -> g.res r = zql rs) (N : Nat) (tab : List (Nat × Head)) (d : Nat) (hrun : ∀ us r, g.run us = some r -> zj5 pd env fn prj (mkLp pd env (zdv pd fn prj) N tab d) us = some r) : zjk P pd.els f g := by
  refine ⟨fun _ => ?_, fun h => absurd hmode h, fun h => by rw [hmode] at h; cases h⟩
  intro us r hr w vs ok hok hh
  have hr' := hrun us r hr
  unfold zj5 at hr'
  split at hr'
  . rename_i c hc
    intro o a K Q hK
    have hcall : (callFunc f vs.toArray).run P w = .ok (.enter f vs.toArray) w := by
      simp [callFunc, run_program, hf, hname, hc]
    rw [hcall, Oper.upon_enter]
    have hcalls : Calls P f vs.toArray w fun
        | .returned v, w' => OwnV pd.els w' (fun b => w.heap.size <= b) (g.res r) v /\ Kept w w'
        | _, _ => False := by
      refine calls_of_wp hf hc ?_
      have hs := zkN (P := P) (pd := pd) hok hh fn.ntmps
      have fin : ∀ (s : St) (ρ : Nat -> RI) (a : Act) (w' : World), zdv pd fn prj s = some r -> Sim ⟨P, pd, w, fun _ => False, fun _ => (0, 0, 0, 0), fun _ => True⟩ ρ s a w' -> a.defers = [] /\ ∃ v, (results fn a.tmps).run P w' = .ok v w' /\ (OwnV pd.els w' (fun b => w.heap.size <= b) (g.res r) v /\ Kept w w') := by
        intro s ρ a w' he hs
        obtain ⟨rs, v, h1, h2, h3⟩ := zkO (X := ⟨P, pd, w, fun _ => False, fun _ => (0, 0, 0, 0), fun _ => True⟩) hp hs fn prj he
        refine ⟨hs.df, v, h2, ?_, ⟨hs.fr.os, hs.fr.tape, hs.fr.output, hs.fr.size, fun k hk => hs.fr.block k hk fun h => h⟩⟩
        rw [hprj rs r h1]; exact h3.mono fun b hb => hb.resolve_right fun h => h
      refine (zfT (X := ⟨P, pd, w, fun _ => False, fun _ => (0, 0, 0, 0), fun _ => True⟩) hp henv (zef hp henv N tab d) c).1 _ _ _ _ _ _ hr' hs ?_ ?_
      . intro e s' ρ' a' w' he hs'
        cases e with
        | normal => exact fin s' ρ' a' w' he hs'
        | exit id => cases he
        | goto l => cases he
        | fall => exact fun hf => hf.elim
      . exact fun s' ρ' a' w' he hs' => fin s' ρ' a' w' he hs'
    refine hcalls.mono fun e w' he => ?_
    cases e with
    | returned v => exact hK v w' he
    | panicked ch => exact he.elim
    | outgrown => exact he.elim
  . cases hr'
theorem ztQ {P : Program} {pd : PD} (hp : PDok P pd) (henv : ∀ f g, env f = some g -> SgOK P pd.els f g) {f : FuncId} {fn : Func} (hf : P.funcs[f]? = some fn) (hname : fn.name ≠ "runtime.NumGoroutine") (g : Sg) (hmode : g.mode = 0) (prj : List U -> Option g.R)
    (hprj : ∀ rs r, prj rs = some r -> g.res r = zql rs) (N : Nat) (tab : List (Nat × Head)) (d : Nat) (hrun : ∀ us r, g.run us = some r -> zj5 pd env fn prj (mkLp pd env (zdv pd fn prj) N tab d) us = some r)
    (us : List U) (r : g.R) (hr : g.run us = some r) (w : World) (vs : List Value) (ok : Nat -> Prop) (hok : ∀ b, ok b -> b < w.heap.size) (hh : zaX w ok us vs) :
    Calls P f vs.toArray w fun
        | .returned v, w' => OwnV pd.els w' (fun b => w.heap.size <= b) (g.res r) v /\ Kept w w'
        | _, _ => False := by
  have hr' := hrun us r hr
  unfold zj5 at hr'
  split at hr'
  . rename_i c hc
    refine calls_of_wp hf hc ?_
    have hs := zkN (P := P) (pd := pd) hok hh fn.ntmps
    have fin : ∀ (s : St) (ρ : Nat -> RI) (a : Act) (w' : World), zdv pd fn prj s = some r -> Sim ⟨P, pd, w, fun _ => False, fun _ => (0, 0, 0, 0), fun _ => True⟩ ρ s a w' -> a.defers = [] /\ ∃ v, (results fn a.tmps).run P w' = .ok v w' /\ (OwnV pd.els w' (fun b => w.heap.size <= b) (g.res r) v /\ Kept w w') := by
      intro s ρ a w' he hs
      obtain ⟨rs, v, h1, h2, h3⟩ := zkO (X := ⟨P, pd, w, fun _ => False, fun _ => (0, 0, 0, 0), fun _ => True⟩) hp hs fn prj he
      refine ⟨hs.df, v, h2, ?_, ⟨hs.fr.os, hs.fr.tape, hs.fr.output, hs.fr.size, fun k hk => hs.fr.block k hk fun h => h⟩⟩
      rw [hprj rs r h1]; exact h3.mono fun b hb => hb.resolve_right fun h => h
    refine (zfT (X := ⟨P, pd, w, fun _ => False, fun _ => (0, 0, 0, 0), fun _ => True⟩) hp henv (zef hp henv N tab d) c).1 _ _ _ _ _ _ hr' hs ?_ ?_
    . intro e s' ρ' a' w' he hs'
      cases e with
      | normal => exact fin s' ρ' a' w' he hs'
      | exit id => cases he
      | goto l => cases he
      | fall => exact fun hf => hf.elim
    . exact fun s' ρ' a' w' he hs' => fin s' ρ' a' w' he hs'
  . cases hr'
theorem zeV {X : Ctx} {ρ : Nat -> RI} (vv : List V) (vs : List Value) (hl : vv.length = vs.length) (hg : ∀ (j : Nat) (v : V), vv[j]? = some v -> ∃ z, vs[j]? = some z /\ RV X ρ v z) (n : Nat) :
    Sim X ρ ⟨vv ++ List.replicate (n - vv.length) .dead, []⟩ { tmps := vs.toArray ++ Array.replicate (n - vs.toArray.size) undef, defers := [] } X.w0 := by
  refine ⟨fun t v hv => ?_, by simp [hl], rfl, fun id x hx => (by cases hx), fun i j x y hx => (by cases hx), fun id x hx => (by cases hx), ⟨rfl, rfl, rfl, Nat.le_refl _, fun _ _ _ => rfl⟩⟩
  simp only [List.getElem?_append] at hv
  split at hv
  . rename_i hlt
    obtain ⟨z, hz, hh⟩ := hg t v hv
    have e1 : (vs.toArray ++ Array.replicate (n - vs.toArray.size) undef).getD t undef = z := by
      have hlt' : t < vs.length := by omega
      rw [List.getElem?_eq_getElem hlt'] at hz
      cases hz
      simp [Array.getElem_append, hlt', Nat.lt_add_right _ hlt']
    rw [e1]
    exact hh
  . obtain ⟨_, rfl⟩ := List.getElem?_eq_some_iff.1 hv
    simp [RV]
theorem zkP {w : World} {ok : Nat -> Prop} {c : C} {v : Value} (h : Holds w ok c v) (id : Nat) : c.men id = false := by
  cases h with
  | sc h => cases c <;> first | rfl | (simp [C.val] at h)
  | ro => rfl
  | emp => rfl
  | rt => rfl
  | rtemp => rfl
theorem zoF {w : World} {ok : Nat -> Prop} {l : List C} {vs : List Value} (h : zaS w ok l vs) (id : Nat) : anyC (C.men id) l = false := by
  induction l generalizing vs with
  | nil => rfl
  | cons c l ih => cases vs with
    | nil => exact h.elim
    | cons v vs => simp [anyC, zkP h.1 id, ih h.2]
theorem zg5 {w : World} {ok : Nat -> Prop} {us : List U} {vs : List Value} (h : zaX w ok us vs) (id : Nat) : zb3 id (us.map .u) = false := by
  induction us generalizing vs with
  | nil => rfl
  | cons u us ih => cases vs with
    | nil => exact h.elim
    | cons v vs =>
      have h1 : u.men id = false := by
        cases u with
        | c x => exact zkP h.1 id
        | agg l => obtain ⟨_, _, h⟩ := h.1; exact zoF h id
        | vec e l => rfl
        | box l => exact h.1.elim
      simp [zb3, V.men, h1, ih h.2]
theorem zdF {l m : List V} {id : Nat} (h1 : zb3 id l = false) (h2 : zb3 id m = false) : zb3 id (l ++ m) = false := by
  induction l with
  | nil => exact h2
  | cons v l ih =>
    simp only [zb3, List.cons_append] at h1 ⊢
    cases hv : v.men id with
    | true => simp [hv] at h1
    | false => simp only [hv, cond_false] at h1 ⊢; exact ih h1
theorem zdR (n id : Nat) : zb3 id (List.replicate n .dead) = false := by
  induction n with
  | zero => rfl
  | succ n ih => simp [List.replicate_succ, zb3, V.men, ih]
theorem zqm {pd : PD} {mode : Nat} {u : U} {c : C} {k : Nat} {o : O} {obs : List (Nat × Ob)} (h : zj2 pd mode u = some (c, k, o, obs)) :
    (∃ m, abCs pd 1 u.cells = some (o.cells, obs, m)) /\ o.cells.length = u.cells.length /\ (∀ e l, o = .vec e l -> ((mode <= 100 -> k ≠ 0 -> l.length = k) /\ (100 < mode -> k = mode - 100)) /\ u = .vec e l) /\
      ((mode = 1 /\ ∃ e l, u = .vec e l /\ o = .vec e l /\ c = .sl 0 0 l.length) \/ (mode = 2 /\ ∃ e l, u = .vec e l /\ o = .vec e l /\ c = .ptr 0 0 0) \/ (mode = 3 /\ ∃ l ds, u = .agg l /\ o = .lit ds /\ c = .ptr 0 0 0) \/ (100 < mode /\ ∃ e l, u = .vec e l /\ o = .vec e l /\ c = .ptr 0 0 0)) := by
  unfold zj2 at h
  split at h
  . rename_i e l
    have hpl : abCs pd 1 (flat e l) = some (flat e l, [], 1) := zh3 (zfm e l)
    cases h1 : Nat.beq mode 1 with
    | true =>
      rw [h1] at h
      cases h
      exact ⟨⟨1, hpl⟩, rfl, fun e l h => (by cases h; exact ⟨⟨fun _ h => absurd rfl h, fun h => by have := Nat.beq_true h1; omega⟩, rfl⟩), .inl ⟨Nat.beq_true h1, e, l, rfl, rfl, rfl⟩⟩
    | false =>
      rw [h1] at h
      cases h2 : Nat.beq mode 2 with
      | true =>
        rw [h2] at h
        cases h
        exact ⟨⟨1, hpl⟩, rfl, fun e l h => (by cases h; exact ⟨⟨fun _ _ => rfl, fun h => by have := Nat.beq_true h2; omega⟩, rfl⟩), .inr (.inl ⟨Nat.beq_true h2, e, l, rfl, rfl, rfl⟩)⟩
      | false =>
        rw [h2] at h
        obtain ⟨h3, h⟩ := zaa (show cond _ _ none = some _ from h)
        rw [Nat.blt_eq] at h3
        cases h
        exact ⟨⟨1, hpl⟩, rfl, fun e l h => (by cases h; exact ⟨⟨fun h => by omega, fun _ => rfl⟩, rfl⟩), .inr (.inr (.inr ⟨h3, e, l, rfl, rfl, rfl⟩))⟩
  . rename_i l
    obtain ⟨h1, h⟩ := zaa h
    split at h
    . rename_i ds obs' m hab
      cases h
      have hlen : ds.length = l.length := zgf hab
      exact ⟨⟨m, hab⟩, hlen, fun e l h => (by cases h), .inr (.inr (.inl ⟨Nat.beq_true h1, l, ds, rfl, rfl, rfl⟩))⟩
    . cases h
  . cases h
where
  zgf {pd : PD} {n m : Nat} {l ds : List C} {obs : List (Nat × Ob)} (h : abCs pd n l = some (ds, obs, m)) : ds.length = l.length := by
    induction l generalizing n m ds obs with
    | nil => simp only [abCs, oi1, pi1] at h; rw [← h.1]
    | cons c l ih =>
      simp only [abCs] at h
      split at h
      . split at h
        . rename_i hr
          simp only [oi1, pi1] at h
          obtain ⟨rfl, _, _⟩ := h
          simp [ih hr]
        . cases h
      . cases h
theorem zoG {pd : PD} {mode : Nat} {u : U} {c : C} {k : Nat} {o : O} {obs : List (Nat × Ob)} (h : zj2 pd mode u = some (c, k, o, obs)) (hm : mode = 1) : k = 0 := by
  subst hm
  unfold zj2 at h
  split at h
  . rename_i e l
    have h : some (C.sl 0 0 l.length, 0, O.vec e l, ([] : List (Nat × Ob))) = some (c, k, o, obs) := h
    cases h
    rfl
  . have h : none = some (c, k, o, obs) := h
    cases h
  . cases h
theorem zma {P : Program} {pd : PD} {w : World} {ok : Nat -> Prop} {us : List U} {vs : List Value} {mode : Nat} {u0 : U} {v0 : Value} {b : Nat} {xs : Array Value} {ty : TypeId} {gs : List Nat}
    (hok : ∀ c, ok c -> c < w.heap.size /\ c ≠ b /\ c ∉ gs) (hus : zaX w ok us vs) (hm : w.heap[b]? = some (.cells xs ty (0, 0))) (hh : zpK pd.els w mode u0 v0 b xs gs) {n : Nat} {s : St} (hs : zlz pd mode u0 us n = some s) :
    ∃ ρ, Sim ⟨P, pd, w, fun k => k = b \/ k ∈ gs, fun _ => (b, xs.size, ty, u0.cells.length), fun _ => True⟩ ρ s { tmps := (v0 :: vs).toArray ++ Array.replicate (n - (v0 :: vs).toArray.size) undef, defers := [] } w := by
  unfold zlz at hs
  split at hs
  case h_2 => cases hs
  rename_i c k o obs hin
  cases hs
  obtain ⟨⟨m, hab⟩, hlen, hvec0, hmode⟩ := zqm hin
  obtain ⟨hpos, hfit, hown, hcase⟩ := hh
  have hvec : ∀ e l, o = .vec e l -> (k ≠ 0 -> l.length = k) /\ u0 = .vec e l := fun e l he => by
    obtain ⟨⟨h1, h2⟩, h3⟩ := hvec0 e l he
    refine ⟨fun hk => ?_, h3⟩
    by_cases hm : mode <= 100
    . exact h1 hm hk
    . have hm' : 100 < mode := by omega
      rcases hcase with ⟨h4, _⟩ | ⟨h4, _⟩ | ⟨h4, _⟩ | ⟨_, e', l', h4, _, h5⟩
      . omega
      . omega
      . omega
      . rw [h3] at h4
        cases h4
        rw [h2 hm', h5]
  obtain ⟨hl, hget⟩ := zdp hus
  generalize hXd : (⟨P, pd, w, fun k => k = b \/ k ∈ gs, fun _ => (b, xs.size, ty, u0.cells.length), fun _ => True⟩ : Ctx) = X
  have hXw : X.w0 = w := by rw [← hXd]
  have hXpd : X.pd = pd := by rw [← hXd]
  have hXmay : ∀ k, X.may k ↔ (k = b \/ k ∈ gs) := fun k => by rw [← hXd]
  have hXok : ∀ c, ok c -> X.ok c := fun c hc => by
    obtain ⟨h1, h2, h3⟩ := hok c hc
    exact ⟨by rw [hXw]; exact h1, fun hmy => ((hXmay c).1 hmy).elim h2 h3, by rw [← hXd]; trivial⟩
  have hXpin : ∀ k, X.pin k = (b, xs.size, ty, u0.cells.length) := fun k => by rw [← hXd]
  have hblt : b < w.heap.size := (Array.getElem?_eq_some_iff.1 hm).1
  have h0 : Sim X (fun _ => ⟨0, undef, 0, 0⟩) ⟨(.dead :: us.map .u) ++ List.replicate (n - (us.length + 1)) .dead, []⟩ { tmps := (v0 :: vs).toArray ++ Array.replicate (n - (v0 :: vs).toArray.size) undef, defers := [] } w := by
    have := zeV (X := X) (ρ := fun _ => ⟨0, undef, 0, 0⟩) (.dead :: us.map .u) (v0 :: vs) (by simp [hl]) (fun j v hv => by
      cases j with
      | zero => simp at hv; subst hv; exact ⟨v0, rfl, trivial⟩
      | succ j =>
        simp only [List.getElem?_cons_succ, List.getElem?_map] at hv
        obtain ⟨u, hu, rfl⟩ := Option.map_eq_some_iff.1 hv
        obtain ⟨z, hz, hh⟩ := hget j u hu
        refine ⟨z, by simpa using hz, ?_⟩
        exact zeU (X := X) hXok (by rw [hXw]; exact hh)) n
    rw [hXw] at this
    simpa using this
  have hmen0 : ∀ id, St.men ⟨(.dead :: us.map .u) ++ List.replicate (n - (us.length + 1)) .dead, []⟩ id = false := fun id => by
    unfold St.men
    have : zb3 id ((.dead :: us.map .u) ++ List.replicate (n - (us.length + 1)) .dead) = false := zdF (by simp [zb3, V.men, zg5 hus id]) (zdR _ _)
    simp only [this, cond_false, zbr]
  have hol : o.len ≠ 0 /\ o.sz ≠ 0 := by
    have := zlI (x := ⟨false, k, PIN, o⟩) (by simp only; omega)
    simp only at this
    omega
  obtain ⟨o0, hc0, hsz0, hlen0, hcl0, hvec0, hmn0⟩ : ∃ o0 : O, (∀ ρ, RCs X ρ o0.cells (xs.toList.take o0.cells.length)) /\ o0.sz = o.sz /\ o0.len = o.len /\ o0.cells.length = u0.cells.length /\ (k ≠ 0 -> ∀ e l, o0 = .vec e l -> l.length = k) /\ ∀ i, o0.men i = false := by
    cases o with
    | lit l0 =>
      refine ⟨.lit (List.replicate l0.length .dead), fun ρ => zgg _ ?_, by simp [O.sz], rfl, ?_, fun _ e l h => (by cases h), fun i => zgh _ _⟩
      . simp only [O.cells, List.length_replicate, List.length_take, Array.length_toList]
        simp only [O.cells] at hlen
        omega
      . simp only [O.cells, List.length_replicate] at hlen ⊢; exact hlen
    | vec e l =>
      refine ⟨.vec e l, fun ρ => ?_, rfl, rfl, hlen, fun h0 e' l' h => by cases h; exact (hvec e l rfl).1 h0, fun i => rfl⟩
      obtain ⟨_, rfl⟩ := hvec e l rfl
      have hV : Vals (flat e l) (xs.toList.take (flat e l).length) := by
        refine zko (cs := []) (vs' := []) (by simpa [U.cells] using hown) ?_
        simp only [U.cells] at hfit
        simp only [List.length_take, Array.length_toList]; omega
      exact zeE hV
  obtain ⟨rv, hrv1, hrv2⟩ : ∃ rv : Value, (k ≠ 0 -> rv = undef) /\ (k = 0 -> rv ≠ undef) := by
    by_cases hk : k = 0
    . exact ⟨.bool true, fun h => absurd hk h, fun _ => by simp [undef]⟩
    . exact ⟨undef, fun _ => rfl, fun h => absurd h hk⟩
  have hRO0 : RO X (upd (fun _ => ⟨0, undef, 0, 0⟩) 0 ⟨b, rv, o.sz, o.len⟩) w 0 ⟨false, k, PIN, o0⟩ := by
    refine ⟨by rw [zac]; exact hsz0.symm, by rw [zac]; exact hlen0.symm, fun _ hk e l he => ⟨hvec0 hk e l he, by rw [zac]; exact hrv1 hk⟩, (fun h => by cases h), .inr ⟨xs, ty, 0, by rw [zac]; exact hm, hc0 _, by rw [hcl0]; exact hfit, fun _ => ⟨by rw [hcl0]; exact hfit, fun _ => ?_⟩, (fun h => by cases h)⟩⟩
    rw [zac, hXpin, hcl0]
  have h1 := h0.add 0 ⟨false, k, PIN, o0⟩ ⟨b, rv, o.sz, o.len⟩ (hmen0 0) hRO0 (fun _ => ⟨fun j y hy => (by cases hy), .inr ((hXmay b).2 (.inl rfl))⟩)
  obtain ⟨ρ', g1, g2, g3, g4, g5, g6⟩ := zeF (X := X) (B := fun g => g ∈ gs) (fun g hg => .inr ((hXmay g).2 (.inr hg))) (xs.toList.take u0.cells.length) gs 1 _ obs m _ _ (by rw [hXpd]; exact hab) (by rw [hXpd]; exact hown.mono' fun b hb => hb) h1 (fun j y hy hb hin => by
      rcases zbt hy with ⟨rfl, rfl⟩ | ⟨hne, hy'⟩
      . rw [zac] at hin
        exact (zbV.own_ge hown _ hin).2 rfl
      . cases hy') (fun i h1 h2 => zbU (hmen0 i) (by omega) (hmn0 i))
  have hid : ρ' 0 = ⟨b, rv, o.sz, o.len⟩ := by rw [g4 0 (.inl (by omega)), zac]
  obtain ⟨_, hkeys⟩ := zeJ hab
  have hget0 : (St.puts ⟨(.dead :: us.map .u) ++ List.replicate (n - (us.length + 1)) .dead, za5 0 ⟨false, k, PIN, o0⟩ []⟩ obs).get 0 = some ⟨false, k, PIN, o0⟩ := by
    rw [zaM, zcH fun p hp => by have := (hkeys p hp).1; omega]
    exact zaA _ _ _
  have hROF : RO X ρ' w 0 ⟨false, k, PIN, o⟩ := by
    refine ⟨by rw [hid], by rw [hid], fun _ h0 e l he => ⟨(hvec e l he).1 h0, by rw [hid]; exact hrv1 h0⟩, (fun h => by cases h), .inr ⟨xs, ty, 0, by rw [hid]; exact hm, ?_, by simp only [hlen]; exact hfit, fun _ => ⟨by simp only [hlen]; exact hfit, fun _ => ?_⟩, (fun h => by cases h)⟩⟩
    . simp only [hlen]; exact g2
    . rw [hid, hXpin]; simp only [hlen]
  have h2 := g1.store 0 _ ⟨false, k, PIN, o⟩ hget0 (.inl rfl) (.inl rfl) hROF (fun _ _ => rfl) ⟨rfl, rfl, rfl, rfl⟩
  have h3 : Sim X ρ' ⟨(.dead :: us.map .u) ++ List.replicate (n - (us.length + 1)) .dead, za5 0 ⟨false, k, PIN, o⟩ (St.puts ⟨(.dead :: us.map .u) ++ List.replicate (n - (us.length + 1)) .dead, []⟩ obs).ob⟩ { tmps := (v0 :: vs).toArray ++ Array.replicate (n - (v0 :: vs).toArray.size) undef, defers := [] } w := by
    refine h2.same ?_ fun j => ?_
    . rw [g6]
    . unfold St.get
      simp only
      by_cases hj : j = 0
      . subst hj; rw [zaA, zaA]
      . rw [zaJ _ _ hj, zaJ _ _ hj]
        have e1 := zaM ⟨(.dead :: us.map .u) ++ List.replicate (n - (us.length + 1)) .dead, []⟩ obs j
        have e2 := zaM ⟨(.dead :: us.map .u) ++ List.replicate (n - (us.length + 1)) .dead, za5 0 ⟨false, k, PIN, o0⟩ []⟩ obs j
        unfold St.get at e1 e2
        simp only at e1 e2
        rw [e1, e2, zaJ _ _ hj]
  refine ⟨ρ', h3.put0 0 _ ?_⟩
  have hv0 : ((v0 :: vs).toArray ++ Array.replicate (n - (v0 :: vs).toArray.size) undef).getD 0 undef = v0 := by
    rw [Array.getD_eq_getD_getElem?, Array.getElem?_append_left (by simp)]
    simp
  simp only [hv0]
  rcases hmode with ⟨m1, e, l, rfl, rfl, rfl⟩ | ⟨m2, e, l, rfl, rfl, rfl⟩ | ⟨m3, l, ds, rfl, rfl, rfl⟩ | ⟨m4, e, l, rfl, rfl, rfl⟩
  . rcases hcase with ⟨_, e', l', cap, he, hv, hc1, hc2⟩ | ⟨h2, _⟩ | ⟨h2, _⟩ | ⟨h2, _⟩
    . cases he
      exact ⟨by rw [hid]; simp [O.len], cap, hc1, hc2, (fun hu => by rw [hid] at hu; exact absurd hu (hrv2 (zoG hin m1))), .inl (by rw [hid]; simpa using hv)⟩
    . omega
    . omega
    . omega
  . rcases hcase with ⟨h2, _⟩ | ⟨_, e', l', he, hv⟩ | ⟨h2, _⟩ | ⟨h2, _⟩
    . omega
    . refine ⟨by rw [hid]; exact Nat.pos_of_ne_zero hol.1, by rw [hid]; exact Nat.pos_of_ne_zero hol.2, by rw [hid]; simpa using hv⟩
    . omega
    . omega
  . rcases hcase with ⟨h2, _⟩ | ⟨h2, _⟩ | ⟨_, l', he, hv⟩ | ⟨h2, _⟩
    . omega
    . omega
    . refine ⟨by rw [hid]; exact Nat.pos_of_ne_zero hol.1, by rw [hid]; exact Nat.pos_of_ne_zero hol.2, by rw [hid]; simpa using hv⟩
    . omega
  . rcases hcase with ⟨h2, _⟩ | ⟨h2, _⟩ | ⟨h2, _⟩ | ⟨_, e', l', he, hv, _⟩
    . omega
    . omega
    . omega
    . refine ⟨by rw [hid]; exact Nat.pos_of_ne_zero hol.1, by rw [hid]; exact Nat.pos_of_ne_zero hol.2, by rw [hid]; simpa using hv⟩
theorem zmb (hp : PDok X.P X.pd) (h : Sim X ρ s a w) (fn : Func) (prj : List U -> Option R) {b size n : Nat} {ty : TypeId} (hpin : ∀ k, X.pin k = (b, size, ty, n)) (he : zdf X.pd fn prj s = some r) :
    ∃ rs v xs' vals gs, prj rs = some r /\ (results fn a.tmps).run X.P w = .ok v w /\ v = zcs vals /\ w.heap[b]? = some (.cells xs' ty (0, 0)) /\ xs'.size = size /\
      zeb X.pd.els w (fun c => (X.w0.heap.size <= c \/ X.may c) /\ c ≠ b) rs (.agg (xs'.toList.take n).toArray :: vals) gs := by
  unfold zdf at he
  split at he
  case h_2 => cases he
  rename_i id hfp
  split at he
  case h_2 => cases he
  rename_i nn pty o hg
  obtain ⟨hpt, he⟩ := zaa he
  split at he
  case h_2 => cases he
  rename_i us hus
  obtain ⟨hnd, he⟩ := zaa he
  simp only [Bool.and_eq_true, Bool.not_eq_true'] at hnd
  obtain ⟨hnd, hnm⟩ := hnd
  have hnm := zcz.1 hnm
  obtain ⟨vs, h1, h2⟩ := zfu hp h _ us hus
  have hro := h.ob _ _ hg
  have hB : hasB ρ id ⟨false, nn, pty, o⟩ := .inl rfl
  rcases hro.mem with ⟨m0, _, _⟩ | ⟨xs', ty', cap, m1, m2, m3, m4, m5⟩
  . cases m0
  . have hpk := (m4 rfl).2 (by simpa using hpt)
    rw [hpin] at hpk
    simp only [pi1] at hpk
    obtain ⟨rfl, rfl, rfl, hn⟩ := hpk
    have hRU : RU X ρ o.u (.agg (xs'.toList.take n).toArray) := by
      rw [hn]
      cases o with
      | lit l => exact ⟨_, rfl, m2⟩
      | vec e l => exact ⟨_, rfl, m2⟩
    obtain ⟨ds, cs, gs, k1, k2, k3, k4⟩ := zdq h (o.u :: us) (.agg (xs'.toList.take n).toArray :: vs) prj he ⟨hRU, h1⟩ (zb6 hnd)
    refine ⟨ds, zcs vs, xs', vs, gs, k1, ?_, rfl, m1, rfl, cs, k2, ?_⟩
    . have e1 : results fn a.tmps = (do
          let vs ← fn.results.mapM (resM a)
          pure (if h : vs.size = 1 then vs[0] else .tuple vs)) := by
        unfold results
        congr 1
      rw [e1, Sem.run_bind, Array.mapM_eq_mapM_toList, Sem.run_map, h2]
      simp only [Result.andThen_ok, Sem.run_pure]
      match vs with
      | [] => rfl
      | [v] => rfl
      | v :: v2 :: l => rfl
    . refine k3.mono' fun c hc => ?_
      refine ⟨zbV.own_ge k3 c hc, fun e => ?_⟩
      obtain ⟨i, hi, x, hx, hbx, e1⟩ := k4 c hc
      exact h.inj i id x _ hx hg (fun e => hnm (e ▸ hi)) hbx hB (by rw [e1, e])
theorem zwK {P : Program} {pd : PD} (hp : PDok P pd) (henv : ∀ f g, env f = some g -> SgOK P pd.els f g) {f : FuncId} {fn : Func} (hf : P.funcs[f]? = some fn) (hname : fn.name ≠ "runtime.NumGoroutine") (g : Sg) (hmode : g.mode ≠ 0) (hM : isM g.mode = false) (prj : List U -> Option g.R)
    (hprj : ∀ rs r, prj rs = some r -> g.res r = .tup rs) (N : Nat) (tab : List (Nat × Head)) (d : Nat) (hrun : ∀ us r, g.run us = some r -> zlA pd env fn g.mode prj (mkLp pd env (zdf pd fn prj) N tab d) us = some r) : zjk P pd.els f g := by
  refine ⟨fun h => absurd h hmode, fun _ _ => ?_, fun h => by rw [hM] at h; cases h⟩
  intro u us r hr w v0 vs ok b xs ty gs hok hus hm hh
  have hr' := hrun _ r hr
  unfold zlA at hr'
  simp only at hr'
  split at hr'
  case h_2 => cases hr'
  rename_i c hc
  split at hr'
  case h_2 => cases hr'
  rename_i s hs
  intro o a K Q hK
  have hcall : (callFunc f (v0 :: vs).toArray).run P w = .ok (.enter f (v0 :: vs).toArray) w := by
    simp [callFunc, run_program, hf, hname, hc]
  rw [hcall, Oper.upon_enter]
  have hcalls : Calls P f (v0 :: vs).toArray w fun
      | .returned v, w' => ∃ (xs' : Array Value) (vals : List Value) (l : List U) (gs' : List Nat), g.res r = .tup l /\ v = zcs vals /\
          w'.heap[b]? = some (.cells xs' ty (0, 0)) /\ xs'.size = xs.size /\ zeb pd.els w' (fun c => w.heap.size <= c \/ c ∈ gs) l (.agg (xs'.toList.take u.cells.length).toArray :: vals) gs' /\ KeptX (b :: gs) w w'
      | _, _ => False := by
    refine calls_of_wp hf hc ?_
    obtain ⟨ρ, hsim⟩ := zma (P := P) (pd := pd) hok hus hm hh hs
    have fin : ∀ (s : St) (ρ : Nat -> RI) (a : Act) (w' : World), zdf pd fn prj s = some r -> Sim ⟨P, pd, w, fun k => k = b \/ k ∈ gs, fun _ => (b, xs.size, ty, u.cells.length), fun _ => True⟩ ρ s a w' -> a.defers = [] /\ ∃ v, (results fn a.tmps).run P w' = .ok v w' /\
        ∃ (xs' : Array Value) (vals : List Value) (l : List U) (gs' : List Nat), g.res r = .tup l /\ v = zcs vals /\
          w'.heap[b]? = some (.cells xs' ty (0, 0)) /\ xs'.size = xs.size /\ zeb pd.els w' (fun c => w.heap.size <= c \/ c ∈ gs) l (.agg (xs'.toList.take u.cells.length).toArray :: vals) gs' /\ KeptX (b :: gs) w w' := by
      intro s ρ a w' he hs
      obtain ⟨rs, v, xs', vals, gs', h1, h2, h3, h4, h5, cs, h6, h7⟩ := zmb (X := ⟨P, pd, w, fun k => k = b \/ k ∈ gs, fun _ => (b, xs.size, ty, u.cells.length), fun _ => True⟩) hp hs fn prj (fun _ => rfl) he
      refine ⟨hs.df, v, h2, xs', vals, rs, gs', hprj rs r h1, h3, h4, h5, ⟨cs, h6, h7.mono' fun c hc => ?_⟩, ⟨hs.fr.os, hs.fr.tape, hs.fr.output, hs.fr.size, fun k hk hn => hs.fr.block k hk fun h => hn (List.mem_cons.2 h)⟩⟩
      obtain ⟨h8, h9⟩ := zbV.own_ge h7 c hc
      rcases h8 with h8 | h8 | h8
      . exact .inl h8
      . exact absurd h8 h9
      . exact .inr h8
    refine (zfT (X := ⟨P, pd, w, fun k => k = b \/ k ∈ gs, fun _ => (b, xs.size, ty, u.cells.length), fun _ => True⟩) hp henv (zef hp henv N tab d) c).1 _ _ _ _ _ _ hr' hsim ?_ ?_
    . intro e s' ρ' a' w' he hs'
      cases e with
      | normal => exact fin s' ρ' a' w' he hs'
      | exit id => cases he
      | goto l => cases he
      | fall => exact fun hf => hf.elim
    . exact fun s' ρ' a' w' he hs' => fin s' ρ' a' w' he hs'
  refine hcalls.mono fun e w' he => ?_
  cases e with
  | returned v => exact hK v w' he
  | panicked ch => exact he.elim
  | outgrown => exact he.elim
end
section
variable {X : Ctx} {ρ : Nat -> RI} {s : St} {a : Act} {w : World} {R : Type} {env : Nat -> Option Sg} {ret : St -> Option R} {r : R}
theorem zwL (h : Sim X ρ s a w) (ids : List Nat) {l : List C} {vs : List Value} (hv : RCs X ρ l vs) : RCs X ρ (lenD s ids l) vs := by
  induction l generalizing vs with
  | nil => exact hv
  | cons c l ih => cases vs with
    | nil => exact hv.elim
    | cons v vs =>
      refine ⟨?_, ih hv.2⟩
      have h1 := hv.1
      cases c with
      | row id =>
        simp only
        cases memN id ids with
        | false => exact h1
        | true =>
          simp only [cond_true]
          split
          . rename_i n ty e m hg
            have hv1 : v = (ρ id).val := h1.1
            rcases zb4 (h.ob _ _ hg) with ⟨h3, rfl⟩ | ⟨cap, h3, _, _⟩
            . exact ⟨none, 0, by rw [hv1, h3]; rfl⟩
            . exact ⟨_, cap, by rw [hv1, h3]⟩
          . exact h1
      | _ => exact h1
def Pins (X : Ctx) : Nat -> List Hd -> Prop
  | _, [] => True
  | i, h :: l => X.pin (PIN + i) = (h.b, h.xs.size, h.ty, h.u.length) /\ Pins X (i + 1) l
def PRel (ρ : Nat -> RI) (s : St) : List (Nat × List C) -> List Hd -> Prop
  | [], [] => True
  | p :: ps, h :: l => ((ρ p.1).blk = h.b /\ ∃ n ty, s.get p.1 = some ⟨false, n, ty, .lit p.2⟩) /\ PRel ρ s ps l
  | _, _ => False
theorem zg6 (h : Sim X ρ s a w) : ∀ (hs : List Hd) (i : Nat) (ps : List (Nat × List C)), Pins X i hs -> zfI s i hs.length = some ps ->
    ∃ ys, zkl w hs ys /\ PRel ρ s ps hs /\ ∀ ids us vs, RUs X ρ us vs -> RUs X ρ (zj3 s ids ps ++ us) (Hd.aft hs ys ++ vs)
  | [], i, ps, _, hp => by cases hp; exact ⟨[], trivial, trivial, fun _ _ _ h => h⟩
  | hd :: hs, i, ps, hpin, hp => by
    simp only [List.length_cons] at hp
    unfold zfI at hp
    split at hp
    case h_2 => cases hp
    rename_i id hid
    split at hp
    case h_2 => cases hp
    rename_i n ty l hg
    obtain ⟨hty, hp⟩ := zaa hp
    have hty := Nat.beq_true hty
    split at hp
    case h_2 => cases hp
    rename_i ps' hps
    cases hp
    obtain ⟨ys, q1, q2, q3⟩ := zg6 h hs (i + 1) ps' hpin.2 hps
    have hro := h.ob _ _ hg
    rcases hro.mem with ⟨m0, _, _⟩ | ⟨vs, ty', cap, m1, m2, m3, m4, m5⟩
    . cases m0
    . have hpk := (m4 rfl).2 (by simp only [hty]; exact Nat.le_add_right _ _)
      simp only [hty, hpin.1, pi1] at hpk
      obtain ⟨e1, e2, e3, e4⟩ := hpk
      refine ⟨vs :: ys, ⟨⟨by rw [e1, e3]; exact m1, e2.symm⟩, q1⟩, ⟨⟨e1.symm, n, ty, hg⟩, q2⟩, fun ids us zs hu => ⟨⟨_, rfl, ?_⟩, q3 ids us zs hu⟩⟩
      refine zwL h ids ?_
      rw [e4]
      exact m2
theorem PRel.disj : ∀ {ps : List (Nat × List C)} {hs : List Hd} {m : List Nat}, PRel ρ s ps hs -> disj ps m = true -> ∀ b ∈ Hd.bs hs, ∃ i n ty l, s.get i = some ⟨false, n, ty, .lit l⟩ /\ (ρ i).blk = b /\ i ∉ m
  | [], [], _, _, _, b, hb => by cases hb
  | [], _ :: _, _, h, _, _, _ => h.elim
  | _ :: _, [], _, h, _, _, _ => h.elim
  | p :: ps, h :: hs, m, ⟨⟨h1, n, ty, h2⟩, h3⟩, hd, b, hb => by
    unfold V.disj at hd
    obtain ⟨h4, h5⟩ := zcx hd
    rcases List.mem_cons.1 hb with rfl | hb
    . exact ⟨p.1, n, ty, p.2, h2, h1, zcz.1 h4⟩
    . exact PRel.disj h3 h5 b hb
theorem zjt (s : St) : ∀ l : List C, lenD s [] l = l
  | [] => rfl
  | c :: l => by
    simp only [lenD, zjt s l]
    cases c <;> rfl
theorem zmc {fn : Func} (hq : zex X.pd fn s = true) {ps : List (Nat × List C)} {us : List U} (h1 : zfI s 0 1 = some ps) (h2 : endV X.pd s fn.results.toList = some us) {A vs : List Value}
    (h : RUs X ρ (zj3 s [] ps ++ us) (A ++ vs)) : zh1 (A ++ vs) := by
  unfold zex at hq
  rw [h1, h2] at hq
  intro a b e
  rw [e] at h
  split at hq
  case h_2 => cases hq
  rename_i id m q hps hus
  cases hps
  cases hus
  split at hq
  case h_2 => cases hq
  rename_i i j hm hj
  have hij := Nat.beq_true hq
  subst hij
  simp only [zj3, zjt, List.cons_append, List.nil_append] at h
  obtain ⟨⟨a', ha, h3⟩, ⟨b', hb, h4⟩, _⟩ := h
  cases ha
  cases hb
  obtain ⟨u, h5, h6⟩ := zeK h3 hm
  obtain ⟨v, h7, h8⟩ := zeK h4 hj
  have e1 : u = (ρ i).val := h6.1
  have e2 : v = (ρ i).val := h8.1
  rw [h5, h7, e1, e2]
theorem zmd (hp : PDok X.P X.pd) (h : Sim X ρ s a w) (fn : Func) (prj : List U -> Option R) (hs : List Hd) (hpin : Pins X 0 hs) (he : zew X.pd fn hs.length prj s = some r) :
    ∃ rs v ys vals gs, prj rs = some r /\ (results fn a.tmps).run X.P w = .ok v w /\ v = zcs vals /\ zkl w hs ys /\
      zeb X.pd.els w (fun c => (X.w0.heap.size <= c \/ X.may c) /\ c ∉ Hd.bs hs) rs (Hd.aft hs ys ++ vals) gs /\ (hs.length = 1 -> zex X.pd fn s = true -> zh1 (Hd.aft hs ys ++ vals)) := by
  unfold zew at he
  split at he
  case h_2 => cases he
  rename_i ps us hps hus
  obtain ⟨hnd, he⟩ := zaa he
  simp only [Bool.and_eq_true] at hnd
  obtain ⟨hnd, hdj⟩ := hnd
  obtain ⟨vs, h1, h2⟩ := zfu hp h _ us hus
  obtain ⟨ys, q1, q2, q3⟩ := zg6 h hs 0 ps hpin hps
  obtain ⟨ds, cs, gs, k1, k2, k3, k4⟩ := zdq h _ _ prj he (q3 (idUs us) us vs h1) (zb6 hnd)
  refine ⟨ds, zcs vs, ys, vs, gs, k1, ?_, rfl, q1, ⟨cs, k2, ?_⟩, fun hl hq => zmc hq (by rw [← hl]; exact hps) hus (q3 [] us vs h1)⟩
  . have e1 : results fn a.tmps = (do
        let vs ← fn.results.mapM (resM a)
        pure (if h : vs.size = 1 then vs[0] else .tuple vs)) := by
      unfold results
      congr 1
    rw [e1, Sem.run_bind, Array.mapM_eq_mapM_toList, Sem.run_map, h2]
    simp only [Result.andThen_ok, Sem.run_pure]
    match vs with
    | [] => rfl
    | [v] => rfl
    | v :: v2 :: l => rfl
  . refine k3.mono' fun c hc => ?_
    refine ⟨zbV.own_ge k3 c hc, fun hin => ?_⟩
    obtain ⟨i, n, ty, l, hg, e1, hn⟩ := q2.disj hdj c hin
    obtain ⟨j, hj, x, hx, hbx, e2⟩ := k4 c hc
    exact h.inj j i x _ hx hg (fun e => hn (e ▸ hj)) hbx (.inl rfl) (by rw [e1, e2])
def At (ρ : Nat -> RI) : Nat -> List Hd -> Prop
  | _, [] => True
  | i, h :: l => ρ i = ⟨h.b, .bool true, h.u.length, 1⟩ /\ At ρ (i + 1) l
theorem At.congr {ρ ρ' : Nat -> RI} : ∀ {hs : List Hd} {i : Nat}, (∀ j, i <= j -> j < i + hs.length -> ρ' j = ρ j) -> At ρ i hs -> At ρ' i hs
  | [], _, _, _ => trivial
  | h :: l, i, hc, ⟨h1, h2⟩ => ⟨by rw [hc i (Nat.le_refl _) (by simp)]; exact h1, At.congr (fun j a b => hc j (by omega) (by simp; omega)) h2⟩
theorem Sim.adds : ∀ (hs : List Hd) (i : Nat) (ρ : Nat -> RI) (S : St), Sim X ρ S a w -> Pins X i hs -> (∀ h ∈ hs, w.heap[h.b]? = some (.cells h.xs h.ty (0, 0)) /\ 0 < h.u.length /\ h.u.length <= h.xs.size) ->
    (∀ b ∈ Hd.bs hs, X.may b) -> (Hd.bs hs).Nodup -> (∀ j z, S.get j = some z -> (ρ j).blk ∉ Hd.bs hs) -> (∀ j, i <= j -> S.men j = false) ->
    ∃ ρ', Sim X ρ' (S.puts (zbv i (hs.map Hd.u) (List.replicate (Hd.cs hs).length .dead))) a w /\ At ρ' i hs /\ (∀ j, j < i -> ρ' j = ρ j) /\
      (∀ j, i + hs.length <= j -> (S.puts (zbv i (hs.map Hd.u) (List.replicate (Hd.cs hs).length .dead))).men j = false) /\
      (∀ j z, (S.puts (zbv i (hs.map Hd.u) (List.replicate (Hd.cs hs).length .dead))).get j = some z -> (ρ' j).blk ∈ Hd.bs hs \/ (S.get j = some z /\ ρ' j = ρ j))
  | [], i, ρ, S, hS, _, _, _, _, _, hm => ⟨ρ, hS, trivial, fun _ _ => rfl, fun j hj => hm j (by simpa using hj), fun j z hz => .inr ⟨hz, rfl⟩⟩
  | h :: hs, i, ρ, S, hS, ⟨hp, hpin⟩, hblk, hmay, hnd, hdis, hm => by
    obtain ⟨b1, b2, b3⟩ := hblk h List.mem_cons_self
    have hnd' := List.nodup_cons.1 hnd
    have hro : RO X (upd ρ i ⟨h.b, .bool true, h.u.length, 1⟩) w i ⟨false, 0, PIN + i, .lit (List.replicate h.u.length .dead)⟩ := by
      refine ⟨by rw [zac]; simp [O.sz], by rw [zac]; rfl, fun _ h => absurd rfl h, (fun h => by cases h), .inr ⟨h.xs, h.ty, 0, by rw [zac]; exact b1, ?_, by simpa [O.cells] using b3, fun _ => ⟨by simpa [O.cells] using b3, fun _ => ?_⟩, (fun h => by cases h)⟩⟩
      . simp only [O.cells, List.length_replicate]
        exact zgg _ (by simp only [List.length_take, Array.length_toList]; omega)
      . rw [zac, hp]; simp [O.cells]
    have h1 := hS.add i _ ⟨h.b, .bool true, h.u.length, 1⟩ (hm i (Nat.le_refl _)) hro (fun _ => ⟨fun j y hy _ e => hdis j y hy (by rw [e]; exact List.mem_cons_self), .inr (hmay _ List.mem_cons_self)⟩)
    have e : S.puts (zbv i ((h :: hs).map Hd.u) (List.replicate (Hd.cs (h :: hs)).length .dead)) = St.puts ⟨S.tm, za5 i ⟨false, 0, PIN + i, .lit (List.replicate h.u.length .dead)⟩ S.ob⟩ (zbv (i + 1) (hs.map Hd.u) (List.replicate (Hd.cs hs).length .dead)) := by
      simp only [List.map_cons, zbv, Hd.cs, List.length_append, List.take_replicate, List.drop_replicate, zaC, Nat.add_sub_cancel_left, Nat.min_eq_left (Nat.le_add_right _ _)]
    rw [e]
    have hget1 : ∀ j z, St.get ⟨S.tm, za5 i ⟨false, 0, PIN + i, .lit (List.replicate h.u.length .dead)⟩ S.ob⟩ j = some z -> (j = i /\ upd ρ i ⟨h.b, .bool true, h.u.length, 1⟩ j = ⟨h.b, .bool true, h.u.length, 1⟩) \/ (S.get j = some z /\ upd ρ i ⟨h.b, .bool true, h.u.length, 1⟩ j = ρ j) := fun j z hz => by
      rcases zbt hz with ⟨rfl, rfl⟩ | ⟨hne, hz'⟩
      . exact .inl ⟨rfl, zac ..⟩
      . exact .inr ⟨hz', zbb hne⟩
    obtain ⟨ρ', g1, g2, g3, g4, g5⟩ := Sim.adds hs (i + 1) _ _ h1 hpin (fun h hh => hblk h (List.mem_cons_of_mem _ hh)) (fun b hb => hmay b (List.mem_cons_of_mem _ hb)) hnd'.2 (fun j z hz => by
        rcases hget1 j z hz with ⟨_, e⟩ | ⟨hz', e⟩
        . rw [e]; exact hnd'.1
        . rw [e]; exact fun hin => hdis j z hz' (List.mem_cons_of_mem _ hin))
      (fun j hj => zbU (hm j (by omega)) (by omega) (zgh _ _))
    refine ⟨ρ', g1, ⟨by rw [g3 i (by omega), zac], g2⟩, fun j hj => by rw [g3 j (by omega), zbb (by omega)], fun j hj => g4 j (by simp only [List.length_cons] at hj; omega), fun j z hz => ?_⟩
    rcases g5 j z hz with hz | ⟨hz, e⟩
    . exact .inl (List.mem_cons_of_mem _ hz)
    . rcases hget1 j z hz with ⟨_, e2⟩ | ⟨hz', e2⟩
      . rw [e, e2]; exact .inl List.mem_cons_self
      . exact .inr ⟨hz', by rw [e, e2]⟩
theorem Sim.stores2 : ∀ (hs : List Hd) (i : Nat) (S : St) (ds : List C), Sim X ρ S a w -> Pins X i hs -> At ρ i hs -> (∀ h ∈ hs, w.heap[h.b]? = some (.cells h.xs h.ty (0, 0)) /\ 0 < h.u.length /\ h.u.length <= h.xs.size) ->
    RCs X ρ ds (Hd.vs hs) -> (∀ j, i <= j -> j < i + hs.length -> ∃ x, S.get j = some x /\ x.row = false) -> Sim X ρ (S.puts (zbv i (hs.map Hd.u) ds)) a w
  | [], _, S, ds, hS, _, _, _, _, _ => hS
  | h :: hs, i, S, ds, hS, ⟨hp, hpin⟩, ⟨ha, hat⟩, hblk, hrc, hget => by
    obtain ⟨b1, b2, b3⟩ := hblk h List.mem_cons_self
    obtain ⟨x, hx, hxr⟩ := hget i (Nat.le_refl _) (by simp)
    have hl : (h.xs.toList.take h.u.length).length = h.u.length := by simp only [List.length_take, Array.length_toList]; omega
    have hr1 := zbe hrc h.u.length
    have hr2 := zbn hrc h.u.length
    simp only [Hd.vs] at hr1 hr2
    rw [List.take_append_of_le_length (by omega), List.take_of_length_le (l := h.xs.toList.take h.u.length) (by omega)] at hr1
    rw [List.drop_append_of_le_length (by omega), List.drop_of_length_le (l := h.xs.toList.take h.u.length) (by omega), List.nil_append] at hr2
    have hdl : (ds.take h.u.length).length = h.u.length := by rw [zat hr1, hl]
    have hro : RO X ρ w i ⟨false, 0, PIN + i, .lit (ds.take h.u.length)⟩ := by
      refine ⟨by rw [ha]; simp only [O.sz, hdl], by rw [ha]; rfl, fun _ h => absurd rfl h, (fun h => by cases h), .inr ⟨h.xs, h.ty, 0, by rw [ha]; exact b1, ?_, by simp only [O.cells, hdl]; exact b3, fun _ => ⟨by simp only [O.cells, hdl]; exact b3, fun _ => ?_⟩, (fun h => by cases h)⟩⟩
      . simp only [O.cells, hdl]; exact hr1
      . rw [ha, hp]; simp only [O.cells, hdl]
    have h1 := hS.store i x _ hx (.inl hxr) (.inl rfl) hro (fun _ _ => rfl) ⟨rfl, rfl, rfl, rfl⟩
    simp only [List.map_cons, zbv, zaC]
    refine Sim.stores2 hs (i + 1) _ _ h1 hpin hat (fun h hh => hblk h (List.mem_cons_of_mem _ hh)) hr2 fun j hj1 hj2 => ?_
    obtain ⟨z, hz, hzr⟩ := hget j (by omega) (by simp only [List.length_cons]; omega)
    refine ⟨z, ?_, hzr⟩
    unfold St.get at hz ⊢
    rw [zaJ _ _ (by omega)]
    exact hz
def RVs (X : Ctx) (ρ : Nat -> RI) : List V -> List Value -> Prop
  | [], [] => True
  | v :: l, x :: xs => RV X ρ v x /\ RVs X ρ l xs
  | _, _ => False
theorem RVs.get : ∀ {l : List V} {xs : List Value}, RVs X ρ l xs -> l.length = xs.length /\ ∀ (j : Nat) (v : V), l[j]? = some v -> ∃ z, xs[j]? = some z /\ RV X ρ v z
  | [], [], _ => ⟨rfl, fun j v h => by simp at h⟩
  | [], _ :: _, h => h.elim
  | _ :: _, [], h => h.elim
  | v :: l, x :: xs, ⟨h1, h2⟩ => by
    obtain ⟨h3, h4⟩ := RVs.get h2
    refine ⟨by simp [h3], fun j u hu => ?_⟩
    cases j with
    | zero => simp at hu; subst hu; exact ⟨x, rfl, h1⟩
    | succ j => simpa using h4 j u (by simpa using hu)
theorem RVs.perm {mode : Nat} {l : List V} {xs : List Value} (h : RVs X ρ l xs) : RVs X ρ (zbC mode l) (zbC mode xs) := by
  unfold zbC
  cases Nat.beq mode 4 with
  | false => exact h
  | true =>
    match l, xs, h with
    | [], [], h => exact h
    | [], _ :: _, h => exact h.elim
    | _ :: _, [], h => exact h.elim
    | [_], [_], h => exact h
    | [_], _ :: _ :: _, h => exact h.2.elim
    | _ :: _ :: _, [_], h => exact h.2.elim
    | _ :: _ :: _, _ :: _ :: _, h => exact ⟨h.2.1, h.1, h.2.2⟩
theorem znD {L : List V} {M : List Value} (hLM : RVs X ρ L M) : ∀ (hs : List Hd) (i : Nat), At ρ i hs -> (∀ h ∈ hs, 0 < h.u.length) -> RVs X ρ (zj4 i hs.length ++ L) (hs.map Hd.ptr ++ M)
  | [], _, _, _ => hLM
  | h :: hs, i, ⟨h1, h2⟩, hp => by
    refine ⟨?_, znD hLM hs (i + 1) h2 fun h hh => hp h (List.mem_cons_of_mem _ hh)⟩
    have h3 := hp h List.mem_cons_self
    show RC X ρ (.ptr i 0 0) (Hd.ptr h)
    exact ⟨by rw [h1]; exact Nat.one_pos, by rw [h1]; exact h3, by rw [h1]; simp [Hd.ptr]⟩
theorem znE (us : List U) : ∀ hs : List Hd, ztc hs.length (Hd.us hs ++ us) = some (hs.map Hd.u, us)
  | [] => rfl
  | h :: hs => by
    have := znE us hs
    simp only [Hd.us] at this
    simp only [Hd.us, List.length_cons, List.map_cons, List.cons_append, ztc, this]
theorem zqn : ∀ hs : List Hd, catC (hs.map Hd.u) = Hd.cs hs
  | [] => rfl
  | h :: hs => by simp only [List.map_cons, catC, Hd.cs, zqn hs]
theorem zdr : ∀ (ls : List (List C)) (i : Nat) (ds : List C) (j : Nat), (∃ p ∈ zbv i ls ds, p.1 = j) ↔ (i <= j /\ j < i + ls.length)
  | [], i, ds, j => by simp [zbv]
  | l :: ls, i, ds, j => by
    simp only [zbv, List.mem_cons, exists_eq_or_imp, zdr ls, List.length_cons]
    omega
theorem zik : ∀ (ls : List (List C)) (i : Nat) (ds : List C), ∀ p ∈ zbv i ls ds, p.2.row = false
  | [], _, _, p, hp => by cases hp
  | l :: ls, i, ds, p, hp => by
    rcases List.mem_cons.1 hp with rfl | hp
    . rfl
    . exact zik ls _ _ p hp
def pinF (hs : List Hd) : TypeId -> Nat × Nat × TypeId × Nat := fun k => match hs[k - PIN]? with
  | some h => (h.b, h.xs.size, h.ty, h.u.length)
  | none => (0, 0, 0, 0)
theorem zqo : ∀ (l : List Hd) (i : Nat), (∀ (j : Nat) (h : Hd), l[j]? = some h -> X.pin (PIN + (i + j)) = (h.b, h.xs.size, h.ty, h.u.length)) -> Pins X i l
  | [], _, _ => trivial
  | h :: l, i, hh => ⟨hh 0 h rfl, zqo l (i + 1) fun j x hx => by
    have := hh (j + 1) x (by simpa using hx)
    rw [show i + (j + 1) = i + 1 + j by omega] at this
    exact this⟩
theorem zfU {A : Type} (mode : Nat) (l : List A) : (zbC mode l).length = l.length := by
  unfold zbC
  cases Nat.beq mode 4 with
  | false => rfl
  | true =>
    match l with
    | [] => rfl
    | [_] => rfl
    | _ :: _ :: _ => rfl
theorem zvz : ∀ {us : List U} {vs : List Value}, RUs X ρ us vs -> RVs X ρ (us.map .u) vs
  | [], [], _ => trivial
  | [], _ :: _, h => h.elim
  | _ :: _, [], h => h.elim
  | _ :: _, _ :: _, ⟨h1, h2⟩ => ⟨h1, zvz h2⟩
theorem znF : ∀ (vs : List Value), RVs X ρ (List.replicate vs.length .dead) vs
  | [] => trivial
  | _ :: vs => ⟨trivial, znF vs⟩
theorem zg7 {ok : Nat -> Prop} (hok : ∀ b, ok b -> X.ok b) : ∀ {us : List U} {vs : List Value}, zaX X.w0 ok us vs -> RUs X ρ us vs
  | [], [], _ => trivial
  | [], _ :: _, h => h.elim
  | _ :: _, [], h => h.elim
  | _ :: _, _ :: _, ⟨h1, h2⟩ => ⟨zeU hok h1, zg7 hok h2⟩
theorem zfV : ∀ (i n : Nat), (zj4 i n).length = n
  | _, 0 => rfl
  | i, n + 1 => by simp [zj4, zfV (i + 1) n]
theorem zoH {P : Program} {pd : PD} {w : World} {ok : Nat -> Prop} {us : List U} {vs : List Value} {mode : Nat} {hs : List Hd} {gs : List Nat}
    (hok : ∀ c, ok c -> c < w.heap.size /\ c ∉ Hd.bs hs /\ c ∉ gs) (hus : zaX w ok us vs) (hh : HdOK pd.els w hs gs) (hlen : hs.length = cntM mode) {n : Nat} {s : St} (hst : zlB pd mode (Hd.us hs ++ us) n = some s) :
    ∃ ρ, Sim ⟨P, pd, w, fun k => k ∈ Hd.bs hs \/ k ∈ gs, pinF hs, fun _ => True⟩ ρ s { tmps := (zbC mode (hs.map Hd.ptr ++ vs)).toArray ++ Array.replicate (n - (zbC mode (hs.map Hd.ptr ++ vs)).toArray.size) undef, defers := [] } w /\
      Pins ⟨P, pd, w, fun k => k ∈ Hd.bs hs \/ k ∈ gs, pinF hs, fun _ => True⟩ 0 hs := by
  unfold zlB at hst
  rw [← hlen, znE] at hst
  simp only [zqn] at hst
  split at hst
  case h_2 => cases hst
  rename_i ds obs m hab
  cases hst
  generalize hXd : (⟨P, pd, w, fun k => k ∈ Hd.bs hs \/ k ∈ gs, pinF hs, fun _ => True⟩ : Ctx) = X
  have hXw : X.w0 = w := by rw [← hXd]
  have hXpd : X.pd = pd := by rw [← hXd]
  have hXmay : ∀ k, X.may k ↔ (k ∈ Hd.bs hs \/ k ∈ gs) := fun k => by rw [← hXd]
  have hXok : ∀ c, ok c -> X.ok c := fun c hc => by
    obtain ⟨h1, h2, h3⟩ := hok c hc
    exact ⟨by rw [hXw]; exact h1, fun hmy => ((hXmay c).1 hmy).elim h2 h3, by rw [← hXd]; trivial⟩
  have hpins : Pins X 0 hs := zqo hs 0 fun j h hj => by
    rw [← hXd]
    simp only [pinF, Nat.zero_add, Nat.add_sub_cancel_left, hj]
  obtain ⟨hl, _⟩ := zdp hus
  generalize hM : zbC mode (hs.map Hd.ptr ++ vs) = M
  have hMl : M.length = hs.length + us.length := by rw [← hM, zfU, List.length_append, List.length_map, hl]
  have h0 : Sim X (fun _ => ⟨0, undef, 0, 0⟩) ⟨List.replicate M.length .dead ++ List.replicate (n - M.length) .dead, []⟩ { tmps := M.toArray ++ Array.replicate (n - M.toArray.size) undef, defers := [] } w := by
    obtain ⟨q1, q2⟩ := (znF (X := X) (ρ := fun _ => ⟨0, undef, 0, 0⟩) M).get
    have := zeV (X := X) (ρ := fun _ => ⟨0, undef, 0, 0⟩) (List.replicate M.length .dead) M q1 q2 n
    rw [hXw] at this
    simpa using this
  have hmen0 : ∀ id, St.men ⟨List.replicate M.length .dead ++ List.replicate (n - M.length) .dead, []⟩ id = false := fun id => by
    unfold St.men
    simp only [zdF (zdR _ _) (zdR _ _), cond_false, zbr]
  obtain ⟨ρ1, a1, a2, a3, a4, a5⟩ := Sim.adds hs 0 _ _ h0 hpins hh.blk (fun b hb => (hXmay b).2 (.inl hb)) hh.nd (fun j z hz => by cases hz) (fun j _ => hmen0 j)
  have a5' : ∀ j z, (St.puts ⟨List.replicate M.length .dead ++ List.replicate (n - M.length) .dead, []⟩ (zbv 0 (hs.map Hd.u) (List.replicate (Hd.cs hs).length .dead))).get j = some z -> (ρ1 j).blk ∈ Hd.bs hs := fun j z hz => by
    rcases a5 j z hz with h | ⟨h, _⟩
    . exact h
    . cases h
  obtain ⟨ρ2, g1, g2, g3, g4, g5, g6⟩ := zeF (X := X) (B := fun g => g ∈ gs) (fun g hg => .inr ((hXmay g).2 (.inr hg))) (Hd.vs hs) gs hs.length ds obs m _ _ (by rw [hXpd]; exact hab) (by rw [hXpd]; exact hh.own.mono' fun b hb => hb) a1
    (fun j y hy hb hin => (zbV.own_ge hh.own _ hin).2 (a5' j y hy)) (fun i h1 h2 => a4 i (by omega))
  have hat : At ρ2 0 hs := a2.congr fun j _ h2 => g4 j (.inl (by omega))
  obtain ⟨_, hkeys⟩ := zeJ hab
  have h3 := Sim.stores2 hs 0 _ ds g1 hpins hat hh.blk g2 fun j _ hj => by
    rw [zaM, zcH fun p hp => by have := (hkeys p hp).1; omega, zaM]
    obtain ⟨p, hp, _, hp2⟩ := zkr ((zdr (hs.map Hd.u) 0 (List.replicate (Hd.cs hs).length .dead) j).2 ⟨Nat.zero_le _, by simpa using hj⟩) _
    exact ⟨p.2, hp2, zik _ _ _ p hp⟩
  have hrv : RVs X ρ2 (zbC mode (zj4 0 hs.length ++ us.map .u)) M := by
    rw [← hM]
    exact RVs.perm (znD (zvz (zg7 hXok (by rw [hXw]; exact hus))) hs 0 hat fun h hh' => (hh.blk h hh').2.1)
  obtain ⟨r1, r2⟩ := hrv.get
  have htm := (zeV (X := X) (ρ := ρ2) _ M r1 r2 n).tm
  have hpl : (zbC mode (zj4 0 hs.length ++ us.map V.u)).length = hs.length + us.length := by rw [zfU, List.length_append, List.length_map, zfV]
  rw [hpl] at htm
  have hgets : ∀ j, (St.puts ⟨zbC mode (zj4 0 hs.length ++ us.map .u) ++ List.replicate (n - (hs.length + us.length)) .dead, []⟩ (obs ++ zbv 0 (hs.map Hd.u) ds)).get j = (St.puts (St.puts (St.puts ⟨List.replicate M.length .dead ++ List.replicate (n - M.length) .dead, []⟩ (zbv 0 (hs.map Hd.u) (List.replicate (Hd.cs hs).length .dead))) obs) (zbv 0 (hs.map Hd.u) ds)).get j := fun j => by
    rw [zb5, zaM, zaM _ obs, zaM _ (zbv _ _ ds), zaM _ obs, zaM]
    by_cases hj : ∃ p ∈ zbv 0 (hs.map Hd.u) ds, p.1 = j
    . exact znv hj _ _
    . congr 2
      rw [zcH (l := zbv 0 (hs.map Hd.u) (List.replicate (Hd.cs hs).length .dead))]
      . rfl
      . exact fun p hp e => hj ((zdr _ _ _ _).2 ((zdr _ _ _ _).1 ⟨p, hp, e⟩))
  refine ⟨ρ2, ⟨?_, ?_, rfl, fun id x hx => h3.ob id x (by rw [← hgets]; exact hx), fun i j x y hx hy => h3.inj i j x y (by rw [← hgets]; exact hx) (by rw [← hgets]; exact hy), fun id x hx => h3.own id x (by rw [← hgets]; exact hx), h3.fr⟩, hpins⟩
  . intro t v hv
    rw [zbW] at hv
    exact htm t v hv
  . rw [zbW]
    simp only [List.length_append, hpl, List.length_replicate, Array.size_append, List.size_toArray, Array.size_replicate, hMl]
theorem zkQ {pd : PD} {fn : Func} {mode : Nat} {prj : List U -> Option R} {s : St} (h : zd8 pd fn mode prj s = some r) : zew pd fn (cntM mode) prj s = some r /\ (mode = 7 -> zex pd fn s = true) := by
  unfold zd8 at h
  cases hm : Nat.beq mode 7 with
  | true =>
    rw [hm] at h
    obtain ⟨h1, h2⟩ := zaa h
    exact ⟨h2, fun _ => h1⟩
  | false =>
    rw [hm] at h
    exact ⟨h, fun e => by rw [e] at hm; cases hm⟩
theorem zwM {P : Program} {pd : PD} (hp : PDok P pd) (henv : ∀ f g, env f = some g -> SgOK P pd.els f g) {f : FuncId} {fn : Func} (hf : P.funcs[f]? = some fn) (hname : fn.name ≠ "runtime.NumGoroutine") (g : Sg) (hmode : g.mode ≠ 0) (hM : isM g.mode = true) (prj : List U -> Option g.R)
    (hprj : ∀ rs r, prj rs = some r -> g.res r = .tup rs) (N : Nat) (tab : List (Nat × Head)) (d : Nat) (hrun : ∀ us r, g.run us = some r -> zlC pd env fn g.mode prj (mkLp pd env (zd8 pd fn g.mode prj) N tab d) us = some r) : zjk P pd.els f g := by
  refine ⟨fun h => absurd h hmode, fun _ h => (by rw [hM] at h; cases h), fun _ => ?_⟩
  intro hs us r hlen hr w vs ok gs hok hus hh
  have hr' := hrun _ r hr
  unfold zlC at hr'
  split at hr'
  case h_2 => cases hr'
  rename_i c hc
  split at hr'
  case h_2 => cases hr'
  rename_i s hst
  intro o a K Q hK
  generalize hA : zbC g.mode (hs.map Hd.ptr ++ vs) = A at hK ⊢
  have hcall : (callFunc f A.toArray).run P w = .ok (.enter f A.toArray) w := by
    simp [callFunc, run_program, hf, hname, hc]
  rw [hcall, Oper.upon_enter]
  have hcalls : Calls P f A.toArray w fun
      | .returned v, w' => ∃ (ys : List (Array Value)) (vals : List Value) (l : List U) (gs' : List Nat), g.res r = .tup l /\ v = zcs vals /\
          zkl w' hs ys /\ zeb pd.els w' (fun c => w.heap.size <= c \/ c ∈ gs) l (Hd.aft hs ys ++ vals) gs' /\ KeptX (Hd.bs hs ++ gs) w w' /\ (g.mode = 7 -> zh1 (Hd.aft hs ys ++ vals))
      | _, _ => False := by
    refine calls_of_wp hf hc ?_
    obtain ⟨ρ, hsim, hpins⟩ := zoH (P := P) (pd := pd) hok hus hh hlen hst
    rw [hA] at hsim
    have fin : ∀ (s : St) (ρ : Nat -> RI) (a : Act) (w' : World), zd8 pd fn g.mode prj s = some r -> Sim ⟨P, pd, w, fun k => k ∈ Hd.bs hs \/ k ∈ gs, pinF hs, fun _ => True⟩ ρ s a w' -> a.defers = [] /\ ∃ v, (results fn a.tmps).run P w' = .ok v w' /\
        ∃ (ys : List (Array Value)) (vals : List Value) (l : List U) (gs' : List Nat), g.res r = .tup l /\ v = zcs vals /\
          zkl w' hs ys /\ zeb pd.els w' (fun c => w.heap.size <= c \/ c ∈ gs) l (Hd.aft hs ys ++ vals) gs' /\ KeptX (Hd.bs hs ++ gs) w w' /\ (g.mode = 7 -> zh1 (Hd.aft hs ys ++ vals)) := by
      intro s ρ a w' he hs'
      obtain ⟨he, hq⟩ := zkQ he
      rw [← hlen] at he
      obtain ⟨rs, v, ys, vals, gs', h1, h2, h3, h4, ⟨cs, h6, h7⟩, h10⟩ := zmd (X := ⟨P, pd, w, fun k => k ∈ Hd.bs hs \/ k ∈ gs, pinF hs, fun _ => True⟩) hp hs' fn prj hs hpins he
      refine ⟨hs'.df, v, h2, ys, vals, rs, gs', hprj rs r h1, h3, h4, ⟨cs, h6, h7.mono' fun c hc => ?_⟩, ⟨hs'.fr.os, hs'.fr.tape, hs'.fr.output, hs'.fr.size, fun k hk hn => hs'.fr.block k hk fun h => hn (List.mem_append.2 h)⟩, fun h7 => h10 (by rw [hlen, h7]; rfl) (hq h7)⟩
      obtain ⟨h8, h9⟩ := zbV.own_ge h7 c hc
      rcases h8 with h8 | h8 | h8
      . exact .inl h8
      . exact absurd h8 h9
      . exact .inr h8
    refine (zfT (X := ⟨P, pd, w, fun k => k ∈ Hd.bs hs \/ k ∈ gs, pinF hs, fun _ => True⟩) hp henv (zef hp henv N tab d) c).1 _ _ _ _ _ _ hr' hsim ?_ ?_
    . intro e s' ρ' a' w' he hs'
      cases e with
      | normal => exact fin s' ρ' a' w' he hs'
      | exit id => cases he
      | goto l => cases he
      | fall => exact fun hf => hf.elim
    . exact fun s' ρ' a' w' he hs' => fin s' ρ' a' w' he hs'
  refine hcalls.mono fun e w' he => ?_
  cases e with
  | returned v => exact hK v w' he
  | panicked ch => exact he.elim
  | outgrown => exact he.elim
theorem zil {P : Program} {pd : PD} {w : World} {ok : Nat -> Prop} {ds : List C} {b : Nat} {us : List U} {vs : List Value} {xs : Array Value} {ty : TypeId} (hok : ∀ c, ok c -> c < w.heap.size /\ c ≠ b) (hus : zaX w ok us vs) (hm : w.heap[b]? = some (.cells xs ty (0, 0)))
    (hpos : 0 < ds.length) (hle : ds.length <= xs.size) (hH : zaS w ok ds (xs.toList.take ds.length)) {n : Nat} {s : St} (hs : zpu (.agg ds :: us) n = some s) :
    ∃ ρ, Sim ⟨P, pd, w, fun k => k = b, fun _ => (b, xs.size, ty, ds.length), ok⟩ ρ s { tmps := (Value.pointer (some ⟨b, 0, none⟩) :: vs).toArray ++ Array.replicate (n - (Value.pointer (some ⟨b, 0, none⟩) :: vs).toArray.size) undef, defers := [] } w := by
  simp only [zpu, oi1] at hs
  subst hs
  obtain ⟨hl, hget⟩ := zdp hus
  generalize hXd : (⟨P, pd, w, fun k => k = b, fun _ => (b, xs.size, ty, ds.length), ok⟩ : Ctx) = X
  have hXw : X.w0 = w := by rw [← hXd]
  have hXmay : ∀ k, X.may k ↔ k = b := fun k => by rw [← hXd]
  have hXok : ∀ c, ok c -> X.ok c := fun c hc => ⟨by rw [hXw]; exact (hok c hc).1, fun hmy => (hok c hc).2 ((hXmay c).1 hmy), by rw [← hXd]; exact hc⟩
  have hXpin : ∀ k, X.pin k = (b, xs.size, ty, ds.length) := fun k => by rw [← hXd]
  have h0 : Sim X (fun _ => ⟨0, undef, 0, 0⟩) ⟨(.dead :: us.map .u) ++ List.replicate (n - (us.length + 1)) .dead, []⟩ { tmps := (Value.pointer (some ⟨b, 0, none⟩) :: vs).toArray ++ Array.replicate (n - (Value.pointer (some ⟨b, 0, none⟩) :: vs).toArray.size) undef, defers := [] } w := by
    have := zeV (X := X) (ρ := fun _ => ⟨0, undef, 0, 0⟩) (.dead :: us.map .u) (Value.pointer (some ⟨b, 0, none⟩) :: vs) (by simp [hl]) (fun j v hv => by
      cases j with
      | zero => simp at hv; subst hv; exact ⟨_, rfl, trivial⟩
      | succ j =>
        simp only [List.getElem?_cons_succ, List.getElem?_map] at hv
        obtain ⟨u, hu, rfl⟩ := Option.map_eq_some_iff.1 hv
        obtain ⟨z, hz, hh⟩ := hget j u hu
        refine ⟨z, by simpa using hz, ?_⟩
        exact zeU (X := X) hXok (by rw [hXw]; exact hh)) n
    rw [hXw] at this
    simpa using this
  have hmen0 : St.men ⟨(.dead :: us.map .u) ++ List.replicate (n - (us.length + 1)) .dead, []⟩ 0 = false := by
    unfold St.men
    have : zb3 0 ((.dead :: us.map .u) ++ List.replicate (n - (us.length + 1)) .dead) = false := zdF (by simp [zb3, V.men, zg5 hus 0]) (zdR _ _)
    simp only [this, cond_false, zbr]
  have hRC : ∀ ρ, RCs X ρ ds (xs.toList.take ds.length) := fun ρ => zft hXok (by rw [hXw]; exact hH)
  have h1 := h0.add 0 ⟨false, 0, PIN, .lit ds⟩ ⟨b, undef, ds.length, 1⟩ hmen0 ⟨by rw [zac]; rfl, by rw [zac]; rfl, (fun _ hk => absurd rfl hk), (fun h => by cases h), .inr ⟨xs, ty, 0, by rw [zac]; exact hm, hRC _, hle, (fun _ => ⟨hle, fun _ => by rw [zac, hXpin]; rfl⟩), (fun h => by cases h)⟩⟩
    (fun _ => ⟨fun j y hy => (by cases hy), .inr ((hXmay b).2 rfl)⟩)
  refine ⟨_, h1.put0 0 _ ?_⟩
  show RC X _ (.ptr 0 0 0) _
  simp only [RC, zac]
  refine ⟨Nat.one_pos, hpos, ?_⟩
  rw [Array.getD_eq_getD_getElem?, Array.getElem?_append_left (by simp)]
  simp
theorem zme {fn : Func} {vs : List Value} (h2 : (fn.results.toList.mapM (resM a)).run X.P w = .ok vs w) : (results fn a.tmps).run X.P w = .ok (zcs vs) w := by
  have e1 : results fn a.tmps = (do
      let vs ← fn.results.mapM (resM a)
      pure (if h : vs.size = 1 then vs[0] else .tuple vs)) := by
    unfold results
    congr 1
  rw [e1, Sem.run_bind, Array.mapM_eq_mapM_toList, Sem.run_map, h2]
  simp only [Result.andThen_ok, Sem.run_pure]
  match vs with
  | [] => rfl
  | [v] => rfl
  | v :: v2 :: l => rfl
theorem zg8 (h : Sim X ρ s a w) {hd : Hd} (hpin : Pins X 0 [hd]) {id : Nat} {m : List C} (hp : zfI s 0 1 = some [(id, m)]) (hh : zet m = true) :
    ∃ y, w.heap[hd.b]? = some (.cells y hd.ty (0, 0)) /\ y.size = hd.xs.size /\ (ρ id).blk = hd.b /\ (∃ n ty, s.get id = some ⟨false, n, ty, .lit m⟩) /\ (m.length = hd.u.length -> zaS w X.ok m (y.toList.take m.length)) := by
  obtain ⟨ys, q1, q2, q3⟩ := zg6 h [hd] 0 _ hpin hp
  match ys, q1 with
  | [y], ⟨⟨a1, a2⟩, _⟩ =>
    refine ⟨y, a1, a2, q2.1.1, q2.1.2, fun hl => ?_⟩
    have := q3 [] [] [] trivial
    simp only [zj3, zjt, Hd.aft, List.append_nil] at this
    obtain ⟨⟨z, hz, hrc⟩, _⟩ := this
    cases hz
    have := zjm hh hrc
    rw [hl]
    exact zaS.mono (fun b hb => ⟨hb, h.fr.block b hb.1 hb.2.1⟩) this
theorem zoI (hp : PDok X.P X.pd) (h : Sim X ρ s a w) (fn : Func) (prj : List U -> Option R) {hd : Hd} (hpin : Pins X 0 [hd]) (hmay : ∀ c, X.may c -> c = hd.b) (he : zcp X.pd fn false prj s = some r) :
    ∃ (y : Array Value) (vals : List Value) (rs : List U) (m : List C) (gs : List Nat), prj (.agg m :: rs) = some r /\ (results fn a.tmps).run X.P w = .ok (zcs vals) w /\ w.heap[hd.b]? = some (.cells y hd.ty (0, 0)) /\ y.size = hd.xs.size /\
      (m.length = hd.u.length -> zaS w X.ok m (y.toList.take m.length)) /\ zeb X.pd.els w (fun c => X.w0.heap.size <= c) rs vals gs := by
  unfold zcp at he
  split at he
  case h_2 => cases he
  rename_i id m us hps hus
  obtain ⟨hc, he⟩ := zaa he
  simp only [Bool.and_eq_true, Bool.not_eq_true'] at hc
  rw [cond_false] at he
  obtain ⟨hnd, he⟩ := zaa he
  obtain ⟨vs, h1, h2⟩ := zfu hp h _ us hus
  obtain ⟨ds, cs, gs, k1, k2, k3, k4⟩ := zdq h us vs (fun rs => prj (.agg m :: rs)) he h1 (zb6 hnd)
  obtain ⟨y, q1, q2, q3, ⟨n, ty, q4⟩, q5⟩ := zg8 h hpin hps hc.1
  have hnm := zcz.1 hc.2
  refine ⟨y, vs, ds, m, gs, k1, zme h2, q1, q2, q5, cs, k2, k3.mono' fun c hcg => ?_⟩
  rcases zbV.own_ge k3 c hcg with h3 | h3
  . exact h3
  . exfalso
    obtain ⟨i, hi, x, hx, hbx, e1⟩ := k4 c hcg
    exact h.inj i id x _ hx q4 (fun e => hnm (e ▸ hi)) hbx (.inl rfl) (by rw [e1, hmay c h3, q3])
theorem zoJ (hp : PDok X.P X.pd) (h : Sim X ρ s a w) (fn : Func) (prj : List U -> Option R) {hd : Hd} (hpin : Pins X 0 [hd]) (hmay : ∀ c, X.may c -> c = hd.b) (he : zcp X.pd fn true prj s = some r) :
    ∃ (y : Array Value) (v : Value) (m : List C) (e : El) (q : List e.T), prj [.agg m, .c (.ro e q)] = some r /\ (results fn a.tmps).run X.P w = .ok v w /\ w.heap[hd.b]? = some (.cells y hd.ty (0, 0)) /\ y.size = hd.xs.size /\
      (m.length = hd.u.length -> zaS w X.ok m (y.toList.take m.length)) /\ (errC m = true -> Holds w X.ok (.ro e q) v) /\ (errC m = false -> ∃ gs, OwnL X.pd.els w (fun c => X.w0.heap.size <= c) [.ro e q] [v] gs) := by
  unfold zcp at he
  split at he
  case h_2 => cases he
  rename_i id m us hps hus
  obtain ⟨hc, he1⟩ := zaa he
  clear he
  simp only [Bool.and_eq_true, Bool.not_eq_true'] at hc
  rw [cond_true] at he1
  obtain ⟨vs, h1, h2⟩ := zfu hp h _ us hus
  obtain ⟨y, q1, q2, q3, ⟨n, ty, q4⟩, q5⟩ := zg8 h hpin hps hc.1
  have hnm := zcz.1 hc.2
  split at he1
  . rename_i e q
    obtain ⟨hec, he⟩ := zao he1
    match vs, h1, h2 with
    | [v], ⟨h1, _⟩, h2 =>
      have h1 : Holds X.w0 X.ok (.ro e q) v := h1
      exact ⟨y, v, m, e, q, he, zme h2, q1, q2, q5, fun _ => h1.mono fun b hb => ⟨hb, h.fr.block b hb.1 hb.2.1⟩, fun e1 => by rw [hec] at e1; cases e1⟩
  . rename_i id2
    obtain ⟨hec, he2⟩ := zao he1
    clear he1
    simp only [Bool.not_eq_true'] at hec
    split at he2
    case h_2 => cases he2
    rename_i g e q hy
    obtain ⟨hg, he⟩ := zao he2
    subst hg
    match vs, h1, h2 with
    | [v], ⟨h1, _⟩, h2 =>
      obtain ⟨gs, k3, k4⟩ := zpV h hy h1
      refine ⟨y, v, m, e, q, he, zme h2, q1, q2, q5, fun e1 => (by rw [hec] at e1; cases e1), fun _ => ⟨gs, k3.mono' fun c hcg => ?_⟩⟩
      rcases zbV.own_ge k3 c hcg with h3 | h3
      . exact h3
      . exfalso
        obtain ⟨i, hi, x, hx, hbx, e1⟩ := k4 c hcg
        exact h.inj i id x _ hx q4 (fun e => hnm (by rw [← e]; simp [idUs, U.ids, hi])) hbx (.inl rfl) (by rw [e1, hmay c h3, q3])
  . cases he1
theorem zyU {P : Program} {pd : PD} (hp : PDok P pd) (henv : ∀ f g, env f = some g -> SgOK P pd.els f g) {f : FuncId} {fn : Func} (hf : P.funcs[f]? = some fn) (hname : fn.name ≠ "runtime.NumGoroutine") (g : Sg) (prj : List U -> Option g.R)
    (hprj : ∀ rs r, prj rs = some r -> g.res r = .tup rs) (N : Nat) (tab : List (Nat × Head)) (d : Nat) (hrun : ∀ us r, g.run us = some r -> zhR pd env fn false prj (mkLp pd env (zcp pd fn false prj) N tab d) us = some r) : zpL P pd.els f g := by
  intro ds us r hr w b xs ty vs ok hok hus hm hpos hle hH
  have hr' := hrun _ r hr
  unfold zhR at hr'
  split at hr'
  case h_2 => cases hr'
  rename_i c hc
  split at hr'
  case h_2 => cases hr'
  rename_i s hst
  intro o a K Q hK
  have hcall : (callFunc f (Value.pointer (some ⟨b, 0, none⟩) :: vs).toArray).run P w = .ok (.enter f (Value.pointer (some ⟨b, 0, none⟩) :: vs).toArray) w := by
    simp [callFunc, run_program, hf, hname, hc]
  rw [hcall, Oper.upon_enter]
  have hcalls : Calls P f (Value.pointer (some ⟨b, 0, none⟩) :: vs).toArray w fun
      | .returned v, w' => ∃ (xs' : Array Value) (vals : List Value) (l : List U) (m : List C) (gs' : List Nat), g.res r = .tup (.agg m :: l) /\ v = zcs vals /\ w'.heap[b]? = some (.cells xs' ty (0, 0)) /\ xs'.size = xs.size /\ (m.length = ds.length -> zaS w' ok m (xs'.toList.take m.length)) /\ zeb pd.els w' (fun c => w.heap.size <= c) l vals gs' /\ KeptX [b] w w'
      | _, _ => False := by
    refine calls_of_wp hf hc ?_
    obtain ⟨ρ, hsim⟩ := zil (P := P) (pd := pd) hok hus hm hpos hle hH hst
    have fin : ∀ (s : St) (ρ : Nat -> RI) (a : Act) (w' : World), zcp pd fn false prj s = some r -> Sim ⟨P, pd, w, fun k => k = b, fun _ => (b, xs.size, ty, ds.length), ok⟩ ρ s a w' -> a.defers = [] /\ ∃ v, (results fn a.tmps).run P w' = .ok v w' /\ (∃ (xs' : Array Value) (vals : List Value) (l : List U) (m : List C) (gs' : List Nat), g.res r = .tup (.agg m :: l) /\ v = zcs vals /\ w'.heap[b]? = some (.cells xs' ty (0, 0)) /\ xs'.size = xs.size /\ (m.length = ds.length -> zaS w' ok m (xs'.toList.take m.length)) /\ zeb pd.els w' (fun c => w.heap.size <= c) l vals gs' /\ KeptX [b] w w') := by
      intro s ρ a w' he hs'
      have hX : ∀ (m : List C) (vs : List Value), zaS w' (Ctx.ok ⟨P, pd, w, fun k => k = b, fun _ => (b, xs.size, ty, ds.length), ok⟩) m vs -> zaS w' ok m vs := fun m vs h => zaS.mono (fun b hb => ⟨hb.2.2, rfl⟩) h
      have hkx : KeptX [b] w w' := ⟨hs'.fr.os, hs'.fr.tape, hs'.fr.output, hs'.fr.size, fun k hk hn => hs'.fr.block k hk fun h => hn (List.mem_singleton.2 h)⟩
      obtain ⟨y, vals, rs, m, gs', h1, h2, h3, h4, h5, h6⟩ := zoI (X := ⟨P, pd, w, fun k => k = b, fun _ => (b, xs.size, ty, ds.length), ok⟩) hp hs' fn prj (hd := ⟨ds, b, xs, ty⟩) ⟨rfl, trivial⟩ (fun c h => h) he
      exact ⟨hs'.df, _, h2, y, vals, rs, m, gs', hprj _ r h1, rfl, h3, h4, fun hl => hX _ _ (h5 hl), h6, hkx⟩
    refine (zfT (X := ⟨P, pd, w, fun k => k = b, fun _ => (b, xs.size, ty, ds.length), ok⟩) hp henv (zef hp henv N tab d) c).1 _ _ _ _ _ _ hr' hsim ?_ ?_
    . intro e s' ρ' a' w' he hs'
      cases e with
      | normal => exact fin s' ρ' a' w' he hs'
      | exit id => cases he
      | goto l => cases he
      | fall => exact fun hf => hf.elim
    . exact fun s' ρ' a' w' he hs' => fin s' ρ' a' w' he hs'
  refine hcalls.mono fun e w' he => ?_
  cases e with
  | returned v => exact hK v w' he
  | panicked ch => exact he.elim
  | outgrown => exact he.elim
theorem zyV {P : Program} {pd : PD} (hp : PDok P pd) (henv : ∀ f g, env f = some g -> SgOK P pd.els f g) {f : FuncId} {fn : Func} (hf : P.funcs[f]? = some fn) (hname : fn.name ≠ "runtime.NumGoroutine") (g : Sg) (prj : List U -> Option g.R)
    (hprj : ∀ rs r, prj rs = some r -> g.res r = .tup rs) (N : Nat) (tab : List (Nat × Head)) (d : Nat) (hrun : ∀ us r, g.run us = some r -> zhR pd env fn true prj (mkLp pd env (zcp pd fn true prj) N tab d) us = some r) : zpM P pd.els f g := by
  intro ds us r hr w b xs ty vs ok hok hus hm hpos hle hH
  have hr' := hrun _ r hr
  unfold zhR at hr'
  split at hr'
  case h_2 => cases hr'
  rename_i c hc
  split at hr'
  case h_2 => cases hr'
  rename_i s hst
  intro o a K Q hK
  have hcall : (callFunc f (Value.pointer (some ⟨b, 0, none⟩) :: vs).toArray).run P w = .ok (.enter f (Value.pointer (some ⟨b, 0, none⟩) :: vs).toArray) w := by
    simp [callFunc, run_program, hf, hname, hc]
  rw [hcall, Oper.upon_enter]
  have hcalls : Calls P f (Value.pointer (some ⟨b, 0, none⟩) :: vs).toArray w fun
      | .returned v, w' => ∃ (xs' : Array Value) (m : List C) (e : El) (q : List e.T), g.res r = .tup [.agg m, .c (.ro e q)] /\ w'.heap[b]? = some (.cells xs' ty (0, 0)) /\ xs'.size = xs.size /\ (m.length = ds.length -> zaS w' ok m (xs'.toList.take m.length)) /\ KeptX [b] w w' /\ (errC m = true -> Holds w' ok (.ro e q) v) /\ (errC m = false -> ∃ gs, OwnL pd.els w' (fun c => w.heap.size <= c) [.ro e q] [v] gs)
      | _, _ => False := by
    refine calls_of_wp hf hc ?_
    obtain ⟨ρ, hsim⟩ := zil (P := P) (pd := pd) hok hus hm hpos hle hH hst
    have fin : ∀ (s : St) (ρ : Nat -> RI) (a : Act) (w' : World), zcp pd fn true prj s = some r -> Sim ⟨P, pd, w, fun k => k = b, fun _ => (b, xs.size, ty, ds.length), ok⟩ ρ s a w' -> a.defers = [] /\ ∃ v, (results fn a.tmps).run P w' = .ok v w' /\ (∃ (xs' : Array Value) (m : List C) (e : El) (q : List e.T), g.res r = .tup [.agg m, .c (.ro e q)] /\ w'.heap[b]? = some (.cells xs' ty (0, 0)) /\ xs'.size = xs.size /\ (m.length = ds.length -> zaS w' ok m (xs'.toList.take m.length)) /\ KeptX [b] w w' /\ (errC m = true -> Holds w' ok (.ro e q) v) /\ (errC m = false -> ∃ gs, OwnL pd.els w' (fun c => w.heap.size <= c) [.ro e q] [v] gs)) := by
      intro s ρ a w' he hs'
      have hX : ∀ (m : List C) (vs : List Value), zaS w' (Ctx.ok ⟨P, pd, w, fun k => k = b, fun _ => (b, xs.size, ty, ds.length), ok⟩) m vs -> zaS w' ok m vs := fun m vs h => zaS.mono (fun b hb => ⟨hb.2.2, rfl⟩) h
      have hkx : KeptX [b] w w' := ⟨hs'.fr.os, hs'.fr.tape, hs'.fr.output, hs'.fr.size, fun k hk hn => hs'.fr.block k hk fun h => hn (List.mem_singleton.2 h)⟩
      obtain ⟨y, v, m, e, q, h1, h2, h3, h4, h5, h6, h7⟩ := zoJ (X := ⟨P, pd, w, fun k => k = b, fun _ => (b, xs.size, ty, ds.length), ok⟩) hp hs' fn prj (hd := ⟨ds, b, xs, ty⟩) ⟨rfl, trivial⟩ (fun c h => h) he
      exact ⟨hs'.df, v, h2, y, m, e, q, hprj _ r h1, h3, h4, fun hl => hX _ _ (h5 hl), hkx, fun e1 => (h6 e1).mono fun b hb => ⟨hb.2.2, rfl⟩, h7⟩
    refine (zfT (X := ⟨P, pd, w, fun k => k = b, fun _ => (b, xs.size, ty, ds.length), ok⟩) hp henv (zef hp henv N tab d) c).1 _ _ _ _ _ _ hr' hsim ?_ ?_
    . intro e s' ρ' a' w' he hs'
      cases e with
      | normal => exact fin s' ρ' a' w' he hs'
      | exit id => cases he
      | goto l => cases he
      | fall => exact fun hf => hf.elim
    . exact fun s' ρ' a' w' he hs' => fin s' ρ' a' w' he hs'
  refine hcalls.mono fun e w' he => ?_
  cases e with
  | returned v => exact hK v w' he
  | panicked ch => exact he.elim
  | outgrown => exact he.elim
end
section
def zwN (v : Value) (c : C) : Bool :=
  match c with
  | .ro _ l => match l, v with
    | [], .slice none n k => Nat.beq n 0 && Nat.beq k 0
    | _, _ => false
  | .u64 x => match v with
    | .int .u64 n => decide (n = (x.toNat : Int))
    | _ => false
  | .u32 x => match v with
    | .int .u32 n => decide (n = (x.toNat : Int))
    | _ => false
  | .u8 x => match v with
    | .int .u8 n => decide (n = (x.toNat : Int))
    | _ => false
  | .int m => match v with
    | .int .i64 n => decide (n = m)
    | _ => false
  | .bool b => match v with
    | .bool d => b == d
    | _ => false
  | .str l => match v, l with
    | .string s, [] => Nat.beq s.data.toList.length 0
    | _, _ => false
  | .nilp => match v with
    | .pointer none => true
    | _ => false
  | _ => false
theorem ztR {v : Value} {c : C} (h : zwN v c = true) : zpx v c := by
  unfold zwN at h
  split at h
  . split at h
    . simp only [Bool.and_eq_true] at h
      show _ = Value.slice none 0 0
      rw [Nat.beq_true h.1, Nat.beq_true h.2]
    . cases h
  . split at h
    . simp only [decide_eq_true_eq] at h
      subst h; rfl
    . cases h
  . split at h
    . simp only [decide_eq_true_eq] at h
      subst h; rfl
    . cases h
  . split at h
    . simp only [decide_eq_true_eq] at h
      subst h; rfl
    . cases h
  . split at h
    . simp only [decide_eq_true_eq] at h
      subst h; rfl
    . cases h
  . split at h
    . simp only [beq_iff_eq] at h
      subst h; rfl
    . cases h
  . split at h
    . rename_i s
      have h1 := List.eq_nil_of_length_eq_zero (Nat.beq_true h)
      show some (Value.string ⟨#[]⟩) = some (Value.string s)
      obtain ⟨⟨l⟩⟩ := s
      simp only at h1
      subst h1; rfl
    . cases h
  . split at h
    . rfl
    . cases h
  . cases h
def znG : List Value -> List C -> Bool
  | [], [] => true
  | v :: vs, c :: cs => zwN v c && znG vs cs
  | _, _ => false
theorem zqp {vs : List Value} {cs : List C} (h : znG vs cs = true) : zhV vs cs := by
  induction vs generalizing cs with
  | nil => cases cs with
    | nil => trivial
    | cons _ _ => cases h
  | cons v vs ih => cases cs with
    | nil => cases h
    | cons c cs =>
      simp only [znG, Bool.and_eq_true] at h
      exact ⟨ztR h.1, ih h.2⟩
def znH : List (Nat × TypeId) -> List (Nat × TypeId) -> Bool
  | [], [] => true
  | (a, b) :: l, (c, d) :: m => (Nat.beq a c && Nat.beq b d) && znH l m
  | _, _ => false
theorem zqq {l m : List (Nat × TypeId)} (h : znH l m = true) : l = m := by
  induction l generalizing m with
  | nil => cases m with
    | nil => rfl
    | cons _ _ => cases h
  | cons p l ih => cases m with
    | nil => cases h
    | cons q m =>
      obtain ⟨a, b⟩ := p
      obtain ⟨c, d⟩ := q
      simp only [znH, Bool.and_eq_true] at h
      rw [Nat.beq_true h.1.1, Nat.beq_true h.1.2, ih h.2]
def zju (P : Program) (t : TypeId) (k : TK) : Bool :=
  match k with
  | .int k => match P.underlying t with
    | some (.int k') => decide (k' = k)
    | _ => false
  | .bool => match P.underlying t with
    | some .bool => true
    | _ => false
  | .str => match P.underlying t with
    | some .string => true
    | _ => false
  | .slice e => match P.underlying t with
    | some (.slice e') => Nat.beq e' e
    | _ => false
  | .arr n e => match P.underlying t with
    | some (.array n' e') => (Nat.beq n' n && Nat.beq e' e) && !P.eqGuardType P.depth t
    | _ => false
  | .struct fs => match P.underlying t with
    | some (.struct fields) => (znH (fields.toList.map fun f => (f.offset, f.type)) fs && fields.toList.all (fun f => f.name != "_" && (P.info? f.type).isSome)) && (!P.eqGuardType P.depth t && !P.stoodInHeld t)
    | _ => false
  | .ptr e => match P.underlying t with
    | some (.pointer e') => Nat.beq e' e
    | _ => false
theorem ztS {P : Program} {t : TypeId} {k : TK} (h : zju P t k = true) : zhU P t k := by
  cases k with
  | int k =>
    simp only [zju] at h
    split at h
    . rename_i k' hk; simp only [decide_eq_true_eq] at h; subst h; exact hk
    . cases h
  | bool =>
    simp only [zju] at h
    split at h
    . rename_i hk; exact hk
    . cases h
  | str =>
    simp only [zju] at h
    split at h
    . rename_i hk; exact hk
    . cases h
  | slice e =>
    simp only [zju] at h
    split at h
    . rename_i e' hk; rw [Nat.beq_true h] at hk; exact hk
    . cases h
  | arr n e =>
    simp only [zju] at h
    split at h
    . rename_i n' e' hk
      simp only [Bool.and_eq_true, Bool.not_eq_true'] at h
      rw [Nat.beq_true h.1.1, Nat.beq_true h.1.2] at hk
      exact ⟨hk, h.2⟩
    . cases h
  | struct fs =>
    simp only [zju] at h
    split at h
    . rename_i fields hk
      simp only [Bool.and_eq_true, Bool.not_eq_true'] at h
      exact ⟨⟨fields, hk, zqq h.1.1, h.1.2⟩, h.2.1, h.2.2⟩
    . cases h
  | ptr e =>
    simp only [zju] at h
    split at h
    . rename_i e' hk; rw [Nat.beq_true h] at hk; exact hk
    . cases h
def Value.isAgg : Value -> Bool
  | .agg _ => true
  | _ => false
def tiB (P : Program) (t : TypeId) (ti : TI) : Bool :=
  zju P t ti.k && (Nat.beq ti.zero.length ti.size && (match P.info? t with
    | some i => Nat.beq i.size ti.size && (Nat.beq i.bytes ti.bytes && (match i.zero with
      | some z => znG z.cells.toList ti.zero && (Value.isAgg z == ti.k.agg)
      | none => false))
    | none => false))
theorem zyW {P : Program} {t : TypeId} {ti : TI} (h : tiB P t ti = true) : TIok P t ti := by
  unfold tiB at h
  simp only [Bool.and_eq_true] at h
  obtain ⟨h1, h2, h3⟩ := h
  refine ⟨ztS h1, ?_, Nat.beq_true h2⟩
  split at h3
  . rename_i i hi
    simp only [Bool.and_eq_true] at h3
    obtain ⟨h4, h5, h6⟩ := h3
    split at h6
    . rename_i z hz
      simp only [Bool.and_eq_true, beq_iff_eq] at h6
      refine ⟨i, z, hi, Nat.beq_true h4, Nat.beq_true h5, hz, zqp h6.1, fun ha => ?_, fun ha => ?_⟩
      . rw [ha] at h6
        cases z <;> simp [Value.isAgg] at h6
        exact ⟨_, rfl⟩
      . rw [ha] at h6
        cases z <;> first | rfl | simp [Value.isAgg] at h6
    . cases h6
  . cases h3
def eqCB : C -> C -> Bool
  | .u64 x, .u64 y => x == y
  | .u32 x, .u32 y => x == y
  | .u8 x, .u8 y => x == y
  | .int x, .int y => decide (x = y)
  | .bool x, .bool y => x == y
  | _, _ => false
def zoK : List C -> List C -> Bool
  | [], [] => true
  | a :: l, b :: m => eqCB a b && zoK l m
  | _, _ => false
theorem zjv {l m : List C} (h : zoK l m = true) : l = m := by
  induction l generalizing m with
  | nil => cases m with
    | nil => rfl
    | cons _ _ => cases h
  | cons a l ih => cases m with
    | nil => cases h
    | cons b m =>
      simp only [zoK, Bool.and_eq_true] at h
      have : a = b := by
        have h1 := h.1
        unfold eqCB at h1
        split at h1 <;> first | (cases h1; done) | (simp at h1; rw [h1])
      rw [this, ih h.2]
def pdB (P : Program) (pd : PD) : Bool :=
  pd.tys.all (fun p => tiB P p.1 p.2 && wfTI pd p.2) && (pd.els.all (fun p => (match pd.ti p.1 with
      | some ti => Nat.beq ti.size p.2.size && zoK ti.zero (p.2.toC p.2.zero)
      | none => false) && (match pd.el p.1 with
      | some e => Nat.beq e.idx p.2.idx
      | none => false)) && ((match pd.ti 3 with
      | some ti => zoK ti.zero [.int 0]
      | none => false) && ((match pd.ti 4 with
      | some ti => zoK ti.zero [.bool false]
      | none => false) && P.follows .mixedOrders)))
theorem ztT {e : El} {l : List (Nat × El)} {t : Nat} (h : elTy e l = some t) : ∃ f, (t, f) ∈ l /\ e = f := by
  induction l with
  | nil => cases h
  | cons p l ih =>
    obtain ⟨j, f⟩ := p
    unfold elTy at h
    cases hb : Nat.beq e.idx f.idx with
    | true => rw [hb] at h; simp only [cond_true, oi1] at h; subst h; exact ⟨f, List.mem_cons_self, zfd hb⟩
    | false =>
      rw [hb] at h
      obtain ⟨f', h1, h2⟩ := ih h
      exact ⟨f', List.mem_cons_of_mem _ h1, h2⟩
theorem zyX {P : Program} {pd : PD} (h : pdB P pd = true) : PDok P pd := by
  unfold pdB at h
  simp only [Bool.and_eq_true, List.all_eq_true] at h
  obtain ⟨h1, h2, h3, h4, h5⟩ := h
  refine ⟨fun t ti ht => zyW (h1 _ (zcO ht)).1, fun t ti ht => (h1 _ (zcO ht)).2, fun t e he => ?_, fun t e he => ?_, ?_, ?_, h5⟩
  . have := (h2 _ (zcO he)).1
    simp only at this
    split at this
    . rename_i ti hti
      simp only [Bool.and_eq_true] at this
      exact ⟨ti, hti, Nat.beq_true this.1, zjv this.2⟩
    . cases this
  . obtain ⟨f, hf, rfl⟩ := ztT he
    have := (h2 _ hf).2
    simp only at this
    split at this
    . rename_i g hg; rw [hg, zfd this]
    . cases this
  . split at h3
    . rename_i ti hti; exact ⟨ti, hti, zjv h3⟩
    . cases h3
  . split at h4
    . rename_i ti hti; exact ⟨ti, hti, zjv h4⟩
    . cases h4
end
section
def addS (x y c : UInt64) : UInt64 := UInt64.ofNat ((x.toNat + y.toNat + c.toNat) % 18446744073709551616)
def addC (x y c : UInt64) : UInt64 := UInt64.ofNat ((x.toNat + y.toNat + c.toNat) / 18446744073709551616)
def subS (x y c : UInt64) : UInt64 := UInt64.ofNat ((x.toNat + 18446744073709551616 - y.toNat - c.toNat) % 18446744073709551616)
def subC (x y c : UInt64) : UInt64 := cond (ltN x.toNat (y.toNat + c.toNat)) 1 0
def sg3 (f : UInt64 -> UInt64 -> UInt64 -> Option (UInt64 × UInt64)) : Sg := ⟨UInt64 × UInt64, 0, fun us => match us with
  | [.c (.u64 x), .c (.u64 y), .c (.u64 c)] => f x y c
  | _ => none, fun r => .tup [.c (.u64 r.1), .c (.u64 r.2)]⟩
def kAdd (x y c : UInt64) : Option (UInt64 × UInt64) := cond (leN c.toNat 1) (some (addS x y c, addC x y c)) none
def kSub (x y c : UInt64) : Option (UInt64 × UInt64) := cond (leN c.toNat 1) (some (subS x y c, subC x y c)) none
theorem znI {f : UInt64 -> UInt64 -> UInt64 -> Option (UInt64 × UInt64)} {us : List U} {r : UInt64 × UInt64} (h : (sg3 f).run us = some r) : ∃ x y c, us = [.c (.u64 x), .c (.u64 y), .c (.u64 c)] /\ f x y c = some r := by
  simp only [sg3] at h
  split at h
  . rename_i x y c; exact ⟨x, y, c, rfl, h⟩
  . cases h
theorem zwO {w : World} {ok : Nat -> Prop} {c : C} {v u : Value} (hu : c.val = some u) (h : Holds w ok c v) : v = u := by
  cases h with
  | sc h => rw [hu] at h; cases h; rfl
  | ro => cases hu
  | emp => cases hu
  | rt => cases hu
  | rtemp => cases hu
theorem znJ {w : World} {ok : Nat -> Prop} {x y c : UInt64} {vs : List Value} (h : zaX w ok [.c (.u64 x), .c (.u64 y), .c (.u64 c)] vs) : vs = [.int .u64 x.toNat, .int .u64 y.toNat, .int .u64 c.toNat] := by
  match vs, h with
  | [a, b, d], ⟨h1, h2, h3, _⟩ =>
    rw [zwO rfl h1, zwO rfl h2, zwO rfl h3]
theorem zvA {P : Program} {f : FuncId} {vs : List Value} {w : World} {R : Value -> World -> Prop} {v : Value} (h : (callFunc f vs.toArray).run P w = .ok (.value v) w) (hv : R v w) : zcU P f vs.toArray w R := by
  intro o a K Q hK
  rw [h]
  exact hK v w hv
theorem znK {els : List (Nat × El)} {w : World} (x y : UInt64) : OwnV els w (fun b => w.heap.size <= b) (.tup [.c (.u64 x), .c (.u64 y)]) (.tuple #[.int .u64 x.toNat, .int .u64 y.toNat]) :=
  .inr ⟨#[.int .u64 x.toNat, .int .u64 y.toNat], [], rfl, [.int .u64 x.toNat, .int .u64 y.toNat], .c (.c .nil), .sc rfl (.sc rfl .nil)⟩
theorem zkR (w : World) : Kept w w := ⟨rfl, rfl, rfl, Nat.le_refl _, fun _ _ => rfl⟩
theorem ofN (n : Nat) (h : n < 18446744073709551616) : (UInt64.ofNat n).toNat = n := by simp; omega
theorem zqr {P : Program} {els : List (Nat × El)} {f : FuncId} {fn : Func} (hf : P.funcs[f]? = some fn) (h1 : (fn.name == "runtime.NumGoroutine") = false) (h2 : fn.body.isNone = true) (h3 : Extern.findNext fn = none) (h4 : Extern.find fn = some add64Entry) : zjk P els f (sg3 kAdd) := by
  refine ⟨fun _ => ?_, fun h => absurd rfl h, fun h => by cases h⟩
  intro us r hr w vs ok _ hh
  obtain ⟨x, y, c, rfl, hc⟩ := znI hr
  obtain ⟨hc1, hc2⟩ := zaa hc
  cases hc2
  have hc1' : c.toNat <= 1 := by simpa [leN] using hc1
  have hx := UInt64.toNat_lt x
  have hy := UInt64.toNat_lt y
  rw [znJ hh]
  refine zvA (v := .tuple #[.int .u64 (addS x y c).toNat, .int .u64 (addC x y c).toNat]) ?_ ⟨znK _ _, zkR w⟩
  rw [run_callFunc_extern hf h1 h2 h3 h4, run_add64 _ _ _ (by omega) (by omega) (by omega) (by omega)]
  simp only [Result.andThen]
  rw [addS, addC, ofN _ (Nat.mod_lt _ (by decide)), ofN _ (by omega)]
  congr 5
theorem zqs {P : Program} {els : List (Nat × El)} {f : FuncId} {fn : Func} (hf : P.funcs[f]? = some fn) (h1 : (fn.name == "runtime.NumGoroutine") = false) (h2 : fn.body.isNone = true) (h3 : Extern.findNext fn = none) (h4 : Extern.find fn = some sub64Entry) : zjk P els f (sg3 kSub) := by
  refine ⟨fun _ => ?_, fun h => absurd rfl h, fun h => by cases h⟩
  intro us r hr w vs ok _ hh
  obtain ⟨x, y, c, rfl, hc⟩ := znI hr
  obtain ⟨hc1, hc2⟩ := zaa hc
  cases hc2
  have hc1' : c.toNat <= 1 := by simpa [leN] using hc1
  rw [znJ hh]
  refine zvA (v := .tuple #[.int .u64 (subS x y c).toNat, .int .u64 (subC x y c).toNat]) ?_ ⟨znK _ _, zkR w⟩
  rw [run_callFunc_extern hf h1 h2 h3 h4, run_sub64 _ _ _ hc1']
  simp only [Result.andThen]
  rw [subS, subC, ofN _ (Nat.mod_lt _ (by decide))]
  congr 6
  cases hb : ltN x.toNat (y.toNat + c.toNat) with
  | true => simp only [ltN, decide_eq_true_eq] at hb; simp [hb]
  | false => simp only [ltN, decide_eq_false_iff_not] at hb; simp [hb]
theorem ztU {P : Program} {els : List (Nat × El)} {F f : FuncId} {fn : Func} (hf : P.funcs[f]? = some fn) (h1 : (fn.name == "runtime.NumGoroutine") = false) (h2 : fn.body.isNone = true) (h3 : Extern.findNext fn = none) (h4 : Extern.find fn = some add64Entry) (hF : F % 1000000 = f := by rfl) (hG : Nat.blt F 2000000 = true := by rfl) : SgOK P els F (sg3 kAdd) :=
  SgOK.of0 (zqr hf h1 h2 h3 h4) hF hG
theorem ztV {P : Program} {els : List (Nat × El)} {F f : FuncId} {fn : Func} (hf : P.funcs[f]? = some fn) (h1 : (fn.name == "runtime.NumGoroutine") = false) (h2 : fn.body.isNone = true) (h3 : Extern.findNext fn = none) (h4 : Extern.find fn = some sub64Entry) (hF : F % 1000000 = f := by rfl) (hG : Nat.blt F 2000000 = true := by rfl) : SgOK P els F (sg3 kSub) :=
  SgOK.of0 (zqs hf h1 h2 h3 h4) hF hG
end
section
structure K where
  T : Type
  enc : T -> U
  dec : U -> Option T
  ok : ∀ u x, dec u = some x -> u = enc x
def K.u64 : K := ⟨UInt64, fun x => .c (.u64 x), fun u => match u with | .c (.u64 x) => some x | _ => none, fun u x h => by split at h <;> cases h <;> rfl⟩
def K.u32 : K := ⟨UInt32, fun x => .c (.u32 x), fun u => match u with | .c (.u32 x) => some x | _ => none, fun u x h => by split at h <;> cases h <;> rfl⟩
def K.u8 : K := ⟨UInt8, fun x => .c (.u8 x), fun u => match u with | .c (.u8 x) => some x | _ => none, fun u x h => by split at h <;> cases h <;> rfl⟩
def K.int : K := ⟨Int, fun x => .c (.int x), fun u => match u with | .c (.int x) => some x | _ => none, fun u x h => by split at h <;> cases h <;> rfl⟩
def K.bool : K := ⟨Bool, fun x => .c (.bool x), fun u => match u with | .c (.bool x) => some x | _ => none, fun u x h => by split at h <;> cases h <;> rfl⟩
def K.str : K := ⟨List UInt8, fun x => .c (.str x), fun u => match u with | .c (.str x) => some x | _ => none, fun u x h => by split at h <;> cases h <;> rfl⟩
def K.len : K := ⟨Nat, fun n => .c (.len n), fun u => match u with | .c (.len n) => some n | _ => none, fun u x h => by split at h <;> cases h <;> rfl⟩
theorem zdS {f e : El} {l : List f.T} {m : List e.T} (h : zbK f e l = some m) : ∃ p : f = e, m = p ▸ l := by
  cases f <;> cases e <;> first
    | (simp only [zbK, oi1] at h; subst h; exact ⟨rfl, rfl⟩)
    | (simp [zbK] at h)
def K.ro (e : El) : K := ⟨List e.T, fun l => .c (.ro e l), fun u => match u with | .c (.ro f l) => zbK f e l | _ => none, fun u x h => by
  split at h
  . obtain ⟨p, q⟩ := zdS h
    subst p; subst q; rfl
  . cases h⟩
def K.rt : K := ⟨List Tn, fun l => .c (.rt l), fun u => match u with | .c (.rt l) => some l | _ => none, fun u x h => by split at h <;> cases h; rfl⟩
def K.room (e : El) : K := ⟨List e.T × Nat, fun x => .c (.rop e x.1 1 x.2), fun u => match u with | .c (.rop f l 1 m) => (match zbK f e l with | some l => some (l, m) | none => none) | _ => none, fun u x h => by
  split at h
  . rename_i f l m
    split at h
    . rename_i l' hc
      cases h
      obtain ⟨p, q⟩ := zdS hc
      subst p; subst q; rfl
    . cases h
  . cases h⟩
def K.view (e : El) : K := ⟨List e.T, fun l => .c (.rop e l 0 0), fun u => match u with | .c (.rop f l 0 0) => zbK f e l | _ => none, fun u x h => by
  split at h
  . obtain ⟨p, q⟩ := zdS h
    subst p; subst q; rfl
  . cases h⟩
def K.vec (e : El) : K := ⟨List e.T, fun l => .vec e l, fun u => match u with | .vec f l => zbK f e l | _ => none, fun u x h => by
  split at h
  . obtain ⟨p, q⟩ := zdS h
    subst p; subst q; rfl
  . cases h⟩
def Fr.of? (l : List UInt64) : Option Fr := cond (Nat.beq l.length 4) (some ⟨l.getD 0 0, l.getD 1 0, l.getD 2 0, l.getD 3 0⟩) none
def Fr.l (x : Fr) : List UInt64 := [x.a0, x.a1, x.a2, x.a3]
theorem Fr.of_ok {l : List UInt64} {x : Fr} (h : Fr.of? l = some x) : l = x.l := by
  unfold Fr.of? at h
  cases hb : Nat.beq l.length 4 with
  | false => rw [hb] at h; cases h
  | true =>
    rw [hb] at h
    have hl := Nat.eq_of_beq_eq_true hb
    match l, hl with
    | [a, b, c, d], _ => cases h; rfl
def K.fr : K := ⟨Fr, fun x => .vec .u64 x.l, fun u => match u with | .vec f l => (zbK f .u64 l).bind Fr.of? | _ => none, fun u x h => by
  split at h
  . rename_i f l
    obtain ⟨m, h1, h2⟩ := Option.bind_eq_some_iff.1 h
    obtain ⟨p, q⟩ := zdS h1
    subst p; subst q
    rw [Fr.of_ok h2]
  . cases h⟩
theorem zbj {α : Type} {k : Fr -> List C -> Option α} {l : List C} {r : α} (h : pFr k l = some r) : ∃ x m, l = Fr.c x ++ m /\ k x m = some r := by
  unfold pFr at h
  split at h
  . exact ⟨_, _, rfl, h⟩
  . cases h
theorem zbY {α : Type} {k : Int -> List C -> Option α} {l : List C} {r : α} (h : pInt k l = some r) : ∃ x m, l = .int x :: m /\ k x m = some r := by
  unfold pInt at h
  split at h
  . exact ⟨_, _, rfl, h⟩
  . cases h
theorem zeW {α : Type} {x r : α} {l : List C} (h : pEnd x l = some r) : l = [] /\ x = r := by
  unfold pEnd at h
  split at h
  . cases h; exact ⟨rfl, rfl⟩
  . cases h
theorem zwP {e : El} {l : List C} {x : e.T} (h : e.ofC l = some x) : l = e.toC x := by
  cases e with
  | u64 => simp only [El.ofC] at h; split at h <;> cases h; rfl
  | u32 => simp only [El.ofC] at h; split at h <;> cases h; rfl
  | u8 => simp only [El.ofC] at h; split at h <;> cases h; rfl
  | int => simp only [El.ofC] at h; split at h <;> cases h; rfl
  | bool => simp only [El.ofC] at h; split at h <;> cases h; rfl
  | fr =>
    obtain ⟨q, m, rfl, hq⟩ := zbj (show pFr (fun x => pEnd x) l = some x from h)
    obtain ⟨rfl, rfl⟩ := zeW hq
    simp [El.toC]
  | row =>
    simp only [El.ofC] at h
    obtain ⟨q0, m1, rfl, h1⟩ := zbj h
    obtain ⟨q1, m2, rfl, h2⟩ := zbj h1
    obtain ⟨q2, m3, rfl, h3⟩ := zbj h2
    obtain ⟨q3, m4, rfl, h4⟩ := zbj h3
    obtain ⟨q4, m5, rfl, h5⟩ := zbj h4
    obtain ⟨q5, m6, rfl, h6⟩ := zbj h5
    obtain ⟨q6, m7, rfl, h7⟩ := zbj h6
    obtain ⟨q7, m8, rfl, h8⟩ := zbj h7
    obtain ⟨w0, m9, rfl, h9⟩ := zbY h8
    obtain ⟨w1, m10, rfl, h10⟩ := zbY h9
    obtain ⟨w2, m11, rfl, h11⟩ := zbY h10
    obtain ⟨rfl, rfl⟩ := zeW h11
    simp [El.toC]
  | pair =>
    simp only [El.ofC] at h
    obtain ⟨w1, m12, rfl, h12⟩ := zbY h
    obtain ⟨w2, m13, rfl, h13⟩ := zbY h12
    obtain ⟨rfl, rfl⟩ := zeW h13
    simp [El.toC]
  | step =>
    simp only [El.ofC] at h
    obtain ⟨w0, m14, rfl, h14⟩ := zbY h
    obtain ⟨w1, m15, rfl, h15⟩ := zbY h14
    obtain ⟨w2, m16, rfl, h16⟩ := zbY h15
    obtain ⟨w3, m17, rfl, h17⟩ := zbY h16
    obtain ⟨q0, m18, rfl, h18⟩ := zbj h17
    obtain ⟨q1, m19, rfl, h19⟩ := zbj h18
    obtain ⟨q2, m20, rfl, h20⟩ := zbj h19
    obtain ⟨q3, m21, rfl, h21⟩ := zbj h20
    obtain ⟨q4, m22, rfl, h22⟩ := zbj h21
    obtain ⟨rfl, rfl⟩ := zeW h22
    simp [El.toC]
def K.st (e : El) : K := ⟨e.T, fun x => .agg (e.toC x), fun u => match u with | .agg l => e.ofC l | _ => none, fun u x h => by
  split at h
  . rw [zwP h]
  . cases h⟩
def K.c? : U -> Option C
  | .c x => some x
  | _ => none
def znL : CS -> Bool
  | .u64 | .u32 | .u8 | .int | .bool | .str | .ro _ => true
  | _ => false
def zjw : List CS -> Bool
  | [] => true
  | c :: l => cond (znL c) (zjw l) false
theorem zqt {f e : El} {l : List f.T} {m : List e.T} (h : zbK f e l = some m) : C.ro f l = C.ro e m := by
  obtain ⟨p, q⟩ := zdS h
  subst p; subst q; rfl
theorem ztW {c : CS} (hl : znL c = true) {x : C} {y : c.T} (h : c.dec x = some y) : x = c.enc y := by
  cases c <;> simp [znL] at hl
  case u64 => cases x <;> simp [CS.dec, C.u64?] at h; cases h; rfl
  case u32 => cases x <;> simp [CS.dec, C.u32?] at h; cases h; rfl
  case u8 => cases x <;> simp [CS.dec, C.u8?] at h; cases h; rfl
  case int => cases x <;> simp [CS.dec, C.int?] at h; cases h; rfl
  case bool => cases x <;> simp [CS.dec, C.bool?] at h; cases h; rfl
  case str => cases x <;> simp [CS.dec, C.str?] at h; cases h; rfl
  case ro e => cases x <;> simp [CS.dec, C.ro?] at h; exact zqt h
theorem zim {l : List CS} (hl : zjw l = true) {xs : List C} {y : TCs l} (h : zey l xs = some y) : xs = zi7 l y := by
  induction l generalizing xs with
  | nil => rw [zg4 h]; rfl
  | cons c l ih =>
    unfold zjw at hl
    cases h1 : znL c with
    | false => rw [h1] at hl; cases hl
    | true =>
      rw [h1] at hl
      obtain ⟨x, r, p, q, rfl, rfl, h2, h3⟩ := zfr h
      rw [ztW h1 h2, ih hl h3]
      rfl
def K.agg (l : List CS) (hl : zjw l = true) : K := ⟨TCs l, fun x => .agg (zi7 l x), fun u => match u with | .agg xs => zey l xs | _ => none, fun u x h => by
  split at h
  . rw [zim hl h]
  . cases h⟩
def TKs : List K -> Type
  | [] => Unit
  | k :: l => k.T × TKs l
def zeg : (l : List K) -> TKs l -> List U
  | [], _ => []
  | k :: l, x => k.enc x.1 :: zeg l x.2
def zcb : (l : List K) -> List U -> Option (TKs l)
  | [], us => match us with
    | [] => some ()
    | _ :: _ => none
  | k :: l, us => match us with
    | [] => none
    | u :: r => match k.dec u with
      | some a => match zcb l r with
        | some b => some (a, b)
        | none => none
      | none => none
theorem zbZ {l : List K} {us : List U} {x : TKs l} (h : zcb l us = some x) : us = zeg l x := by
  induction l generalizing us with
  | nil => cases us with
    | nil => rfl
    | cons _ _ => cases h
  | cons k l ih =>
    cases us with
    | nil => cases h
    | cons u us =>
      simp only [zcb] at h
      split at h
      . rename_i a ha
        split at h
        . rename_i b hb
          cases h
          rw [k.ok _ _ ha, ih hb]
          rfl
        . cases h
      . cases h
def sgK (ps rs : List K) (f : TKs ps -> Option (TKs rs)) : Sg := ⟨TKs rs, 0, fun us => match zcb ps us with | some x => f x | none => none, fun r => zql (zeg rs r)⟩
theorem zaO {P : Program} {pd : PD} (hp : PDok P pd) {env : Nat -> Option Sg} (henv : ∀ f g, env f = some g -> SgOK P pd.els f g) {n : FuncId} {fn : Func} (hf : P.funcs[n]? = some fn) (hname : fn.name ≠ "runtime.NumGoroutine")
    (ps rs : List K) (f : TKs ps -> Option (TKs rs)) (N : Nat) (tab : List (Nat × Head)) (d : Nat)
    (hrun : ∀ x, zj5 pd env fn (zcb rs) (mkLp pd env (zdv pd fn (zcb rs)) N tab d) (zeg ps x) = f x) {F : Nat} (hF : F % 1000000 = n := by rfl) (hG : Nat.blt F 2000000 = true := by rfl) : SgOK P pd.els F (sgK ps rs f) := by
  refine SgOK.of0 ?_ hF hG
  refine zBP hp henv hf hname (sgK ps rs f) rfl (zcb rs) (fun us r h => ?_) N tab d (fun us r h => ?_)
  . rw [zbZ h]; rfl
  . simp only [sgK] at h
    split at h
    . rename_i x hx
      rw [zbZ hx]
      exact (hrun x).trans h
    . cases h
def sgIO (mode : Nat) (ps rs : List K) (f : TKs ps -> Option (TKs rs)) : Sg := ⟨TKs rs, mode, fun us => match zcb ps us with | some x => f x | none => none, fun r => .tup (zeg rs r)⟩
theorem zqu {P : Program} {pd : PD} (hp : PDok P pd) {env : Nat -> Option Sg} (henv : ∀ f g, env f = some g -> SgOK P pd.els f g) {n : FuncId} {fn : Func} (hf : P.funcs[n]? = some fn) (hname : fn.name ≠ "runtime.NumGoroutine")
    (mode : Nat) (hmode : mode ≠ 0) (ps rs : List K) (f : TKs ps -> Option (TKs rs)) (N : Nat) (tab : List (Nat × Head)) (d : Nat)
    (hrun : ∀ x, zlA pd env fn mode (zcb rs) (mkLp pd env (zdf pd fn (zcb rs)) N tab d) (zeg ps x) = f x) {F : Nat} (hF : F % 1000000 = n := by rfl) (hM : isM mode = false := by rfl) (hG : Nat.blt F 2000000 = true := by rfl) : SgOK P pd.els F (sgIO mode ps rs f) := by
  refine SgOK.of0 ?_ hF hG
  refine zwK hp henv hf hname (sgIO mode ps rs f) hmode hM (zcb rs) (fun us r h => ?_) N tab d (fun us r h => ?_)
  . rw [zbZ h]; rfl
  . simp only [sgIO] at h
    split at h
    . rename_i x hx
      rw [zbZ hx]
      exact (hrun x).trans h
    . cases h
theorem zjx {P : Program} {pd : PD} (hp : PDok P pd) {env : Nat -> Option Sg} (henv : ∀ f g, env f = some g -> SgOK P pd.els f g) {n : FuncId} {fn : Func} (hf : P.funcs[n]? = some fn) (hname : fn.name ≠ "runtime.NumGoroutine")
    (mode : Nat) (hmode : mode ≠ 0) (ps rs : List K) (f : TKs ps -> Option (TKs rs)) (N : Nat) (tab : List (Nat × Head)) (d : Nat)
    (hrun : ∀ x, zlC pd env fn mode (zcb rs) (mkLp pd env (zd8 pd fn mode (zcb rs)) N tab d) (zeg ps x) = f x) {F : Nat} (hF : F % 1000000 = n := by rfl) (hM : isM mode = true := by rfl) (hG : Nat.blt F 2000000 = true := by rfl) : SgOK P pd.els F (sgIO mode ps rs f) := by
  refine SgOK.of0 ?_ hF hG
  refine zwM hp henv hf hname (sgIO mode ps rs f) hmode hM (zcb rs) (fun us r h => ?_) N tab d (fun us r h => ?_)
  . rw [zbZ h]; rfl
  . simp only [sgIO] at h
    split at h
    . rename_i x hx
      rw [zbZ hx]
      exact (hrun x).trans h
    . cases h
def K.nil : K := ⟨Unit, fun _ => .c .nilp, fun u => match u with | .c .nilp => some () | _ => none, fun u x h => by split at h <;> cases h; rfl⟩
def zaQ (P : Program) (els : List (Nat × El)) : List (Nat × Sg) -> Prop
  | [] => True
  | p :: l => SgOK P els p.1 p.2 /\ zaQ P els l
theorem zaj {P : Program} {els : List (Nat × El)} {l : List (Nat × Sg)} (h : zaQ P els l) (f : Nat) (g : Sg) (hl : look f l = some g) : SgOK P els f g := by
  induction l with
  | nil => cases hl
  | cons p l ih =>
    obtain ⟨m, x⟩ := p
    unfold look at hl
    cases hb : Nat.beq m f with
    | true =>
      rw [hb] at hl
      obtain rfl := Nat.eq_of_beq_eq_true hb
      cases hl
      exact h.1
    | false => rw [hb] at hl; exact ih h.2 hl
theorem zas {s : String} (h : (s == "runtime.NumGoroutine") = false) : s ≠ "runtime.NumGoroutine" := fun e => by rw [e] at h; simp at h
theorem znM {P : Program} {pd : PD} (hp : PDok P pd) {env : Nat -> Option Sg} (henv : ∀ f g, env f = some g -> SgOK P pd.els f g) {n : FuncId} {fn : Func} (hf : P.funcs[n]? = some fn) (hname : fn.name ≠ "runtime.NumGoroutine")
    (ps rs : List K) (f : TKs ps -> Option (TKs rs)) (N : Nat) (tab : List (Nat × Head)) (d : Nat)
    (hrun : ∀ x, zhR pd env fn false (zcb rs) (mkLp pd env (zcp pd fn false (zcb rs)) N tab d) (zeg ps x) = f x) {F : Nat} (hF : F % 1000000 = n := by rfl) (hG : F / 1000000 = 6 := by rfl) : SgOK P pd.els F (sgIO 6 ps rs f) := by
  refine ⟨fun h => by omega, fun h => by omega, fun h => by omega, fun h => by omega, fun _ => ?_, fun h => by omega⟩
  rw [hF]
  refine zyU hp henv hf hname (sgIO 6 ps rs f) (zcb rs) (fun us r h => ?_) N tab d (fun us r h => ?_)
  . rw [zbZ h]; rfl
  . simp only [sgIO] at h
    split at h
    . rename_i x hx
      rw [zbZ hx]
      exact (hrun x).trans h
    . cases h
theorem zyY {P : Program} {pd : PD} (hp : PDok P pd) {env : Nat -> Option Sg} (henv : ∀ f g, env f = some g -> SgOK P pd.els f g) {n : FuncId} {fn : Func} (hf : P.funcs[n]? = some fn) (hname : fn.name ≠ "runtime.NumGoroutine")
    (ps rs : List K) (f : TKs ps -> Option (TKs rs)) (N : Nat) (tab : List (Nat × Head)) (d : Nat)
    (hrun : ∀ x, zhR pd env fn true (zcb rs) (mkLp pd env (zcp pd fn true (zcb rs)) N tab d) (zeg ps x) = f x) {F : Nat} (hF : F % 1000000 = n := by rfl) (hG : F / 1000000 = 7 := by rfl) : SgOK P pd.els F (sgIO 7 ps rs f) := by
  refine ⟨fun h => by omega, fun h => by omega, fun h => by omega, fun h => by omega, fun h => by omega, fun _ => ?_⟩
  rw [hF]
  refine zyV hp henv hf hname (sgIO 7 ps rs f) (zcb rs) (fun us r h => ?_) N tab d (fun us r h => ?_)
  . rw [zbZ h]; rfl
  . simp only [sgIO] at h
    split at h
    . rename_i x hx
      rw [zbZ hx]
      exact (hrun x).trans h
    . cases h
theorem SgOK.none {P : Program} {els : List (Nat × El)} {F : Nat} {g : Sg} (hG : F / 1000000 = 5) : SgOK P els F g :=
  ⟨fun h => by omega, fun h => by omega, fun h => by omega, fun h => by omega, fun h => by omega, fun h => by omega⟩
end
section
theorem zbD {x : Int} (h1 : -9223372036854775808 <= x) (h2 : x <= 9223372036854775807) : wr x = x := by
  have hw : wr x = if 9223372036854775808 <= x % 18446744073709551616 then x % 18446744073709551616 - 18446744073709551616 else x % 18446744073709551616 := by
    simp [wr, IntKind.wrap, IntKind.bits, IntKind.signed]
  rw [hw]
  split <;> omega
theorem zaD {i : Nat} (h : i < 9223372036854775807) : wr ((i : Int) + 1) = ((i + 1 : Nat) : Int) := by
  rw [zbD (by omega) (by omega)]; omega
theorem za4 (a b : Nat) : ltI (a : Int) (b : Int) = ltN a b := by simp [ltI, ltN]
theorem zjy (a b : Nat) : leI (a : Int) (b : Int) = leN a b := by simp [leI, leN]
theorem zaq (a : Nat) : leI 0 (a : Int) = true := by simp [leI]
theorem zjz (a : Nat) : ltI (a : Int) 0 = false := by simp [ltI]
theorem zax {a b : Nat} (h : a < b) : ltN a b = true := by simp [ltN, h]
theorem zby {a b : Nat} (h : ¬ a < b) : ltN a b = false := by simp only [ltN, decide_eq_false_iff_not]; exact h
theorem zay {a b : Nat} (h : a <= b) : leN a b = true := by simp [leN, h]
theorem zqv {a b : Nat} (h : ¬ a <= b) : leN a b = false := by simp only [leN, decide_eq_false_iff_not]; exact h
theorem zae {a b : Int} (h : a < b) : ltI a b = true := by simp [ltI, h]
theorem zad {a b : Int} (h : ¬ a < b) : ltI a b = false := by simp only [ltI, decide_eq_false_iff_not]; exact h
theorem zbp {a b : Int} (h : a <= b) : leI a b = true := by simp [leI, h]
theorem zaG {a b : Int} (h : ¬ a <= b) : leI a b = false := by simp only [leI, decide_eq_false_iff_not]; exact h
theorem zaI {a b : Int} (h : a = b) : eqI a b = true := by simp [eqI, h]
theorem zaZ {a b : Int} (h : ¬ a = b) : eqI a b = false := by simp only [eqI, decide_eq_false_iff_not]; exact h
theorem zdw {R : Type} {g : Bool} {x : Option R} (h : g = true) : must g x = x := by rw [h]; rfl
theorem zbE {R : Type} {x : Option R} : must (true && true) x = x := rfl
end
end Go.Proofs.Ytgimohchocjgcaa.V
