import Derived.ScopeJumps
import Derived.Shelf.Spec.BitsCarry
import Derived.KernelRfl
import Derived.Test.YtgimohchocjgcaaVMD
set_option linter.unusedVariables false
set_option linter.unusedSimpArgs false
namespace Go.Proofs.Ytgimohchocjgcaa.V
section
variable {X : Ctx} {ρ : Nat -> RI} {s : St} {a : Act} {w : World}
theorem zb8 {f e : El} {l : List f.T} {m : List e.T} (h : za3 f e l = some m) : (⟨f, l⟩ : (e : El) × List e.T) = ⟨e, m⟩ := by
  obtain ⟨rfl, h⟩ := za0 h
  change l = m at h
  subst h; rfl
theorem CS.dec_ok {c : CS} {x : C} {y : c.T} (h : c.dec x = some y) : c.enc y = x \/ c.enc y = .dead := by
  cases c with
  | dead => right; rfl
  | u64 => left; unfold CS.dec at h; simp only [C.u64?] at h; split at h <;> cases h; rfl
  | u32 => left; unfold CS.dec at h; simp only [C.u32?] at h; split at h <;> cases h; rfl
  | u8 => left; unfold CS.dec at h; simp only [C.u8?] at h; split at h <;> cases h; rfl
  | int => left; unfold CS.dec at h; simp only [C.int?] at h; split at h <;> cases h; rfl
  | bool => left; unfold CS.dec at h; simp only [C.bool?] at h; split at h <;> cases h; rfl
  | str => left; unfold CS.dec at h; simp only [C.str?] at h; split at h <;> cases h; rfl
  | rt => left; unfold CS.dec at h; simp only [C.rt?] at h; split at h <;> cases h; rfl
  | nilp => left; unfold CS.dec at h; simp only [C.nilp?] at h; split at h <;> cases h; rfl
  | ro e =>
    left
    unfold CS.dec at h
    simp only [C.ro?] at h
    split at h
    . have := zb8 h
      cases this
      rfl
    . cases h
  | row id =>
    left
    unfold CS.dec at h
    simp only [C.row?] at h
    split at h
    . obtain ⟨h1, h2⟩ := zab h
      rw [CS.enc, Nat.beq_true h1]
    . cases h
  | sl id =>
    left
    unfold CS.dec at h
    simp only [C.sl?] at h
    split at h
    . obtain ⟨h1, h2⟩ := zab h
      cases h2
      have e1 := Nat.beq_true h1
      subst e1; rfl
    . cases h
  | asl id off n =>
    left
    unfold CS.dec at h
    simp only [C.asl?] at h
    split at h
    . rename_i j o e m
      obtain ⟨h1, h2⟩ := zab h
      cases h2
      simp only [Bool.and_eq_true] at h1
      have e1 := Nat.beq_true h1.1
      have e2 := Nat.beq_true h1.2.1
      have e3 := Nat.beq_true h1.2.2.1
      have e4 : e = .u64 := zdC (f := .u64) h1.2.2.2
      subst e1; subst e2; subst e3; subst e4; rfl
    . cases h
  | slc id =>
    left
    unfold CS.dec at h
    simp only [C.slc?] at h
    split at h
    . obtain ⟨h1, h2⟩ := zab h
      cases h2
      simp only [Bool.and_eq_true] at h1
      have e1 := Nat.beq_true h1.1
      have e2 := Nat.beq_true h1.2
      subst e1; subst e2; rfl
    . cases h
  | ptr id sub =>
    left
    unfold CS.dec at h
    simp only [C.ptr?] at h
    split at h
    . obtain ⟨h1, h2⟩ := zab h
      cases h2
      simp only [Bool.and_eq_true] at h1
      have e1 := Nat.beq_true h1.1
      have e2 := Nat.beq_true h1.2
      subst e1; subst e2; rfl
    . cases h
  | ptr0 id sub =>
    left
    unfold CS.dec at h
    simp only [C.ptr0?] at h
    split at h
    . obtain ⟨h1, h2⟩ := zab h
      cases h2
      simp only [Bool.and_eq_true] at h1
      have e1 := Nat.beq_true h1.1
      have e2 := Nat.beq_true h1.2.1
      have e3 := Nat.beq_true h1.2.2
      subst e1; subst e2; subst e3; rfl
    . cases h
theorem zpa {c : CS} {x : C} {y : c.T} {v : Value} (h : c.dec x = some y) (hr : RC X ρ x v) : RC X ρ (c.enc y) v := by
  rcases CS.dec_ok h with h | h
  . rw [h]; exact hr
  . rw [h]; trivial
theorem zdP {c : CS} {l : List CS} {xs : List C} {y : TCs (c :: l)} (h : zdB (c :: l) xs = some y) : ∃ x r p q, xs = x :: r /\ y = (p, q) /\ c.dec x = some p /\ zdB l r = some q := by
  unfold zdB at h
  cases xs with
  | nil => cases h
  | cons x r =>
    simp only at h
    cases hp : c.dec x with
    | none => rw [hp] at h; cases h
    | some p =>
      rw [hp] at h
      simp only at h
      cases hq : zdB l r with
      | none => rw [hq] at h; cases h
      | some q => rw [hq] at h; cases h; exact ⟨x, r, p, q, rfl, rfl, hp, hq⟩
theorem zeZ {xs : List C} {y : TCs []} (h : zdB [] xs = some y) : xs = [] := by
  cases xs with
  | nil => rfl
  | cons x r => cases h
theorem zlA {l : List CS} {xs : List C} {y : TCs l} {vs : List Value} (h : zdB l xs = some y) (hr : RCs X ρ xs vs) : RCs X ρ (zbh l y) vs := by
  induction l generalizing xs vs with
  | nil => rw [zeZ h] at hr; exact hr
  | cons c l ih =>
    obtain ⟨x, r, p, q, rfl, rfl, hp, hq⟩ := zdP h
    cases vs with
    | nil => exact hr.elim
    | cons v vs => exact ⟨zpa hp hr.1, ih hq hr.2⟩
theorem zlB {l : List CS} {xs : List C} {y : TCs l} (h : zdB l xs = some y) : (zbh l y).length = xs.length := by
  induction l generalizing xs with
  | nil => rw [zeZ h]; rfl
  | cons c l ih =>
    obtain ⟨x, r, p, q, rfl, rfl, hp, hq⟩ := zdP h
    simp [zbh, ih hq]
theorem zra {u : US} {x : U} {y : u.T} {v : Value} (h : u.dec x = some y) (hr : RU X ρ x v) : RU X ρ (u.enc y) v := by
  cases u with
  | c c =>
    unfold US.dec at h
    cases x with
    | c x => exact zpa h hr
    | _ => cases h
  | agg l =>
    unfold US.dec at h
    cases x with
    | agg r => obtain ⟨vs, h1, h2⟩ := hr; exact ⟨vs, h1, zlA h h2⟩
    | _ => cases h
  | vec e =>
    unfold US.dec at h
    cases x with
    | vec f l =>
      have := zb8 h
      cases this
      exact hr
    | _ => cases h
  | fr =>
    unfold US.dec at h
    cases x with
    | vec f l =>
      simp only [U.vec?] at h
      split at h
      . rename_i m hm
        have := zb8 hm
        cases this
        have := zkQ h
        subst this
        exact hr
      . cases h
    | _ => cases h
  | st e =>
    unfold US.dec at h
    cases x with
    | agg r =>
      have := zed e r y h
      subst this
      exact hr
    | _ => cases h
theorem zrb {v : VS} {x : V} {y : v.T} {z : Value} (h : v.dec x = some y) (hr : RV X ρ x z) : RV X ρ (v.enc y) z := by
  cases v with
  | u u =>
    unfold VS.dec at h
    cases x with
    | u x => exact zra h hr
    | _ => cases h
  | dead => trivial
theorem znQ {l : List (Nat × VS)} {xs b : List V} {y : TVs l} (h : zjy xs l = some y) (hb : b.length = xs.length) (hb2 : ∀ (t : Nat) (v : V), b[t]? = some v -> v = .dead) :
    (zjx b l y).length = xs.length /\ ∀ (t : Nat) (v : V), (zjx b l y)[t]? = some v -> ∃ x, xs[t]? = some x /\ ∀ (X : Ctx) (ρ : Nat -> RI) (z : Value), RV X ρ x z -> RV X ρ v z := by
  induction l with
  | nil =>
    refine ⟨hb, fun t v hv => ?_⟩
    have hv' : b[t]? = some v := hv
    have hlt : t < xs.length := by rw [← hb]; exact (List.getElem?_eq_some_iff.1 hv').1
    exact ⟨_, List.getElem?_eq_getElem hlt, fun X ρ z _ => by rw [hb2 t v hv']; trivial⟩
  | cons c l ih =>
    unfold zjy at h
    cases hp : c.2.dec (xs.getD c.1 .dead) with
    | none => rw [hp] at h; cases h
    | some p =>
      rw [hp] at h
      simp only at h
      cases hq : zjy xs l with
      | none => rw [hq] at h; cases h
      | some q =>
        rw [hq] at h
        cases h
        obtain ⟨h1, h2⟩ := ih hq
        refine ⟨by simp only [zjx]; rw [zcj]; exact h1, fun t v hv => ?_⟩
        simp only [zjx] at hv
        rw [zee] at hv
        split at hv
        . rename_i ht
          simp only [oi1] at hv
          subst hv
          obtain ⟨rfl, hlt⟩ := ht
          rw [h1] at hlt
          refine ⟨_, List.getElem?_eq_getElem hlt, fun X ρ z hz => ?_⟩
          rw [List.getD_eq_getElem?_getD, List.getElem?_eq_getElem hlt, Option.getD_some] at hp
          exact zrb hp hz
        . exact h2 t v hv
def Less (x y : Ob) : Prop := y.row = x.row /\ y.n = x.n /\ y.ty = x.ty /\ y.o.cells.length = x.o.cells.length /\ y.o.sz = x.o.sz /\ y.o.len = x.o.len /\ (∀ e l, x.o = .vec e l -> y.o = .vec e l) /\ (∀ e l, y.o = .vec e l -> x.o = .vec e l) /\
  ∀ (X : Ctx) (ρ : Nat -> RI) (vs : List Value), RCs X ρ x.o.cells vs -> RCs X ρ y.o.cells vs
theorem RO.less {id : Nat} {x y : Ob} (h : Less x y) (hr : RO X ρ w id x) : RO X ρ w id y := by
  obtain ⟨h1, h2, h3, h4, h5, h6, h7, h7', h8⟩ := h
  refine ⟨by rw [h5]; exact hr.sz, by rw [h6]; exact hr.len, fun hrow hn0 e l he => by rw [h2]; exact hr.n (by rw [← h1]; exact hrow) (by rw [← h2]; exact hn0) e l (h7' e l he), fun hrow => ?_, ?_⟩
  . obtain ⟨⟨e, l, he⟩, hn⟩ := hr.vec (by rw [← h1]; exact hrow)
    exact ⟨⟨e, l, h7 e l he⟩, by rw [h2]; exact hn⟩
  . rcases hr.mem with ⟨m1, m2, m3⟩ | ⟨vs, ty, cap, m1, m2, m3, m4, m5⟩
    . left
      refine ⟨by rw [h1]; exact m1, m2, ?_⟩
      rw [m3] at h4
      exact List.eq_nil_of_length_eq_zero h4
    . right
      exact ⟨vs, ty, cap, m1, by rw [h4]; exact h8 _ _ _ m2, by rw [h4]; exact m3, fun hrow => by rw [h4, h3]; exact m4 (by rw [← h1]; exact hrow), fun hrow => by rw [h3, h6, h5]; exact m5 (by rw [← h1]; exact hrow)⟩
theorem OS.dec_less {o : OS} {x : O} {y : o.T} (h : o.dec x = some y) (row : Bool) (n : Nat) (ty : TypeId) : Less ⟨row, n, ty, x⟩ ⟨row, n, ty, o.enc y⟩ := by
  cases o with
  | lit l =>
    unfold OS.dec at h
    cases x with
    | lit r =>
      have h' : zdB l r = some y := h
      have hl := zlB h'
      exact ⟨rfl, rfl, rfl, hl, hl, rfl, fun e l h => O.noConfusion h, fun e l h => O.noConfusion h, fun X ρ vs hr => zlA h' hr⟩
    | vec f l => cases h
  | vec e =>
    unfold OS.dec at h
    cases x with
    | lit r => cases h
    | vec f l =>
      have := zb8 h
      cases this
      exact ⟨rfl, rfl, rfl, rfl, rfl, rfl, fun _ _ h => h, fun _ _ h => h, fun _ _ _ h => h⟩
  | fr =>
    unfold OS.dec at h
    cases x with
    | lit r => cases h
    | vec f l =>
      simp only [O.vec?] at h
      split at h
      . rename_i m hm
        have := zb8 hm
        cases this
        have := zkQ h
        subst this
        exact ⟨rfl, rfl, rfl, rfl, rfl, rfl, fun _ _ h => h, fun _ _ h => h, fun _ _ _ h => h⟩
      . cases h
  | st e =>
    unfold OS.dec at h
    cases x with
    | lit r =>
      have := zed e r y h
      subst this
      exact ⟨rfl, rfl, rfl, rfl, rfl, rfl, fun _ _ h => h, fun _ _ h => h, fun _ _ _ h => h⟩
    | vec f l => cases h
theorem zlC {l : List (Nat × ObS)} {xs : List (Nat × Ob)} {y : TObs l} (h : zfs l xs = some y) : ∀ id z, look id (ziP l y) = some z -> ∃ x, look id xs = some x /\ Less x z := by
  induction l generalizing xs with
  | nil => intro id z hz; cases hz
  | cons c l ih =>
    obtain ⟨i, c⟩ := c
    cases xs with
    | nil => cases h
    | cons x xs =>
      obtain ⟨j, x⟩ := x
      unfold zfs at h
      simp only at h
      obtain ⟨h1, h2⟩ := zab h
      cases hp : c.o.dec x.o with
      | none => rw [hp] at h2; cases h2
      | some p =>
        rw [hp] at h2
        simp only at h2
        cases hq : zfs l xs with
        | none => rw [hq] at h2; cases h2
        | some q =>
          rw [hq] at h2
          cases h2
          simp only [Bool.and_eq_true, beq_iff_eq] at h1
          obtain ⟨e1, e2, e3, e4⟩ := h1
          intro id z hz
          simp only [ziP, look] at hz ⊢
          rw [Nat.beq_true e1]
          cases hb : Nat.beq i id with
          | true =>
            simp only [hb, cond_true, oi1] at hz ⊢
            subst hz
            refine ⟨x, rfl, ?_⟩
            have := OS.dec_less hp c.row c.n c.ty
            have hx : x = ⟨c.row, c.n, c.ty, x.o⟩ := by
              obtain ⟨r, n, t, o⟩ := x
              simp only at e2 e3 e4 ⊢
              rw [e2, Nat.beq_true e3, Nat.beq_true e4]
            rw [← hx] at this
            exact this
          | false =>
            simp only [hb, cond_false] at hz ⊢
            exact ih hq id z hz
theorem Sim.dec (h : Sim X ρ s a w) {sh : Shape} {x : sh.T} (hd : sh.dec s = some x) : Sim X ρ (sh.enc x) a w := by
  unfold Shape.dec at hd
  obtain ⟨hn, hd⟩ := zab hd
  have hn' := Nat.beq_true hn
  cases hp : zjy s.tm sh.tm with
  | none => rw [hp] at hd; cases hd
  | some p =>
    rw [hp] at hd
    simp only at hd
    cases hq : zfs sh.ob s.ob with
    | none => rw [hq] at hd; cases hd
    | some q =>
      rw [hq] at hd
      cases hd
      obtain ⟨h1, h2⟩ := znQ (b := List.replicate sh.n .dead) hp (by simp [hn']) (fun t v hv => by
        rw [List.getElem?_replicate] at hv
        split at hv
        . simpa using hv.symm
        . cases hv)
      have h3 := zlC hq
      have hB : ∀ id x z, Less x z -> hasB ρ id z -> hasB ρ id x := fun id x z hl hb => by unfold hasB at *; rw [← hl.1]; exact hb
      refine ⟨fun t v hv => ?_, by simp only [Shape.enc]; rw [h1]; exact h.sz, h.df, fun id z hz => ?_, fun i j y z hy hz hij hb1 hb2 => ?_, fun id z hz hb => ?_, h.fr⟩
      . obtain ⟨x, hx, hr⟩ := h2 t v hv
        exact hr _ _ _ (h.tm t x hx)
      . obtain ⟨x, hx, hl⟩ := h3 id z hz
        exact (h.ob id x hx).less hl
      . obtain ⟨y', hy', hl1⟩ := h3 i y hy
        obtain ⟨z', hz', hl2⟩ := h3 j z hz
        exact h.inj i j y' z' hy' hz' hij (hB _ _ _ hl1 hb1) (hB _ _ _ hl2 hb2)
      . obtain ⟨x, hx, hl⟩ := h3 id z hz
        exact h.own id x hx (hB _ _ _ hl hb)
theorem zdQ {l acc : List Nat} (h : acc.Nodup) : (addN acc l).Nodup := by
  induction l generalizing acc with
  | nil => exact h
  | cons n l ih =>
    unfold addN
    cases hm : memN n acc with
    | true => exact ih h
    | false =>
      refine ih ?_
      rw [List.nodup_append]
      refine ⟨h, by simp, fun a ha b hb => ?_⟩
      simp only [List.mem_singleton] at hb
      subst hb
      intro e
      subst e
      exact zfE.1 hm ha
theorem zhx (ob : List (Nat × Ob)) : (zc8 ob).Nodup := by
  induction ob with
  | nil => exact List.nodup_nil
  | cons p l ih =>
    obtain ⟨id, x⟩ := p
    unfold zc8
    cases (!x.row && Nat.ble PIN x.ty)
    . exact ih
    . exact zdQ ih
theorem zis {l : List V} {acc : List Nat} (h : acc.Nodup) : (zhX acc l).Nodup := by
  induction l generalizing acc with
  | nil => exact h
  | cons v l ih => exact ih (zdQ h)
theorem zdp {ob : List (Nat × Ob)} {l acc : List Nat} (h : acc.Nodup) : (zch ob acc l).Nodup := by
  induction l generalizing acc with
  | nil => exact h
  | cons n l ih =>
    unfold zch
    split
    . exact ih (zdQ h)
    . exact ih h
structure Ren (m : List (Nat × Nat)) : Prop where
  fst : (m.map (·.1)).Nodup
  snd : (m.map (·.2)).Nodup
theorem zc3 {ob : List (Nat × Ob)} : ∀ {l : List Nat} {b : Nat}, l.Nodup -> (∀ p ∈ zcS ob b l, p.1 ∈ l /\ b <= p.2) /\ Ren (zcS ob b l)
  | [], b, _ => ⟨fun p hp => by simp [zcS] at hp, ⟨by simp [zcS], by simp [zcS]⟩⟩
  | id :: l, b, h => by
    rw [List.nodup_cons] at h
    unfold zcS
    cases look id ob with
    | none =>
      obtain ⟨h1, h2⟩ := zc3 (ob := ob) (b := b) h.2
      exact ⟨fun p hp => ⟨List.mem_cons_of_mem _ (h1 p hp).1, (h1 p hp).2⟩, h2⟩
    | some x =>
      obtain ⟨h1, h2⟩ := zc3 (ob := ob) (b := b + 1) h.2
      refine ⟨fun p hp => ?_, ⟨?_, ?_⟩⟩
      . rcases List.mem_cons.1 hp with rfl | hp
        . exact ⟨List.mem_cons_self, Nat.le_refl _⟩
        . have := h1 p hp; exact ⟨List.mem_cons_of_mem _ this.1, by omega⟩
      . simp only [List.map_cons, List.nodup_cons]
        refine ⟨fun hm => ?_, h2.fst⟩
        obtain ⟨p, hp, he⟩ := List.mem_map.1 hm
        exact h.1 (he ▸ (h1 p hp).1)
      . simp only [List.map_cons, List.nodup_cons]
        refine ⟨fun hm => ?_, h2.snd⟩
        obtain ⟨p, hp, he⟩ := List.mem_map.1 hm
        have := (h1 p hp).2
        omega
def zp1 (m : List (Nat × Nat)) (j : Nat) : Option Nat := (m.find? (fun p => p.2 == j)).map (·.1)
theorem zbX {α : Type} {m : List (Nat × α)} {i : Nat} {j : α} (h : look i m = some j) : (i, j) ∈ m := by
  induction m with
  | nil => cases h
  | cons p m ih =>
    obtain ⟨k, x⟩ := p
    simp only [look] at h
    cases hb : Nat.beq k i with
    | true => simp only [hb, cond_true, oi1] at h; rw [Nat.beq_true hb, h]; exact List.mem_cons_self
    | false => simp only [hb, cond_false] at h; exact List.mem_cons_of_mem _ (ih h)
theorem zlD {m : List (Nat × Nat)} (hm : Ren m) {i j : Nat} (h : (i, j) ∈ m) : zp1 m j = some i := by
  have h2 := hm.snd
  clear hm
  induction m with
  | nil => cases h
  | cons p m ih =>
    unfold zp1
    simp only [List.map_cons, List.nodup_cons] at h2
    rcases List.mem_cons.1 h with rfl | h
    . simp
    . have hne : p.2 ≠ j := fun e => h2.1 (List.mem_map.2 ⟨(i, j), h, e.symm⟩)
      rw [List.find?_cons_of_neg (by simpa using hne)]
      exact ih h h2.2
def newR (m : List (Nat × Nat)) (ρ : Nat -> RI) (j : Nat) : RI := match zp1 m j with
  | some i => ρ i
  | none => ρ j
theorem zbn {m : List (Nat × Nat)} (hm : Ren m) {i j : Nat} (h : (i, j) ∈ m) : newR m ρ j = ρ i := by
  unfold newR; rw [zlD hm h]
theorem zpb {m : List (Nat × Nat)} (hm : Ren m) {c : C} {v : Value} (h : RC X ρ c v) : RC X (newR m ρ) (renC m c) v := by
  cases c with
  | row id =>
    simp only [renC]
    cases hl : look id m with
    | none => trivial
    | some j => simp only [RC] at h ⊢; rw [zbn hm (zbX hl)]; exact h
  | sl id i n =>
    simp only [renC]
    cases hl : look id m with
    | none => trivial
    | some j => simp only [RC] at h ⊢; rw [zbn hm (zbX hl)]; exact h
  | ptr id i n =>
    simp only [renC]
    cases hl : look id m with
    | none => trivial
    | some j => simp only [RC] at h ⊢; rw [zbn hm (zbX hl)]; exact h
  | slc id i n c =>
    simp only [renC]
    cases hl : look id m with
    | none => trivial
    | some j => simp only [RC] at h ⊢; rw [zbn hm (zbX hl)]; exact h
  | asl id i e n =>
    simp only [renC]
    cases hl : look id m with
    | none => trivial
    | some j => simp only [RC] at h ⊢; rw [zbn hm (zbX hl)]; exact h
  | _ => exact h
theorem zlE {m : List (Nat × Nat)} (hm : Ren m) {l : List C} {vs : List Value} (h : RCs X ρ l vs) : RCs X (newR m ρ) (zjv m l) vs := by
  induction l generalizing vs with
  | nil => cases vs with
    | nil => trivial
    | cons v vs => exact h.elim
  | cons c l ih => cases vs with
    | nil => exact h.elim
    | cons v vs => exact ⟨zpb hm h.1, ih h.2⟩
theorem zpc {m : List (Nat × Nat)} (hm : Ren m) {u : U} {v : Value} (h : RU X ρ u v) : RU X (newR m ρ) (renU m u) v := by
  cases u with
  | c x => exact zpb hm h
  | agg l => obtain ⟨vs, h1, h2⟩ := h; exact ⟨vs, h1, zlE hm h2⟩
  | vec e l =>
    obtain ⟨vs, h1, h2⟩ := h
    refine ⟨vs, h1, za9 (fun id hid => ?_) h2⟩
    rw [zaH] at hid; cases hid
  | box l => exact h
theorem zp2 {m : List (Nat × Nat)} (hm : Ren m) {l : List U} {vs : List Value} (h : RUs X ρ l vs) : RUs X (newR m ρ) (zpy m l) vs := by
  induction l generalizing vs with
  | nil => cases vs with
    | nil => trivial
    | cons v vs => exact h.elim
  | cons c l ih => cases vs with
    | nil => exact h.elim
    | cons v vs => exact ⟨zpc hm h.1, ih h.2⟩
theorem zrc {m : List (Nat × Nat)} (hm : Ren m) {v : V} {z : Value} (h : RV X ρ v z) : RV X (newR m ρ) (renV m v) z := by
  cases v with
  | u x => exact zpc hm h
  | tup l => obtain ⟨vs, h1, h2⟩ := h; exact ⟨vs, h1, zp2 hm h2⟩
  | dead => trivial
theorem zlF (m : List (Nat × Nat)) (l : List C) : (zjv m l).length = l.length := by
  induction l with
  | nil => rfl
  | cons c l ih => simp [zjv, ih]
theorem zrd {m : List (Nat × Nat)} (hm : Ren m) {i j : Nat} (hij : (i, j) ∈ m) {x : Ob} (h : RO X ρ w i x) : RO X (newR m ρ) w j ⟨x.row, x.n, x.ty, renO m x.o⟩ := by
  have e := zbn (ρ := ρ) hm hij
  obtain ⟨row, n, ty, o⟩ := x
  cases o with
  | lit l =>
    have hl := zlF m l
    refine ⟨by rw [e]; simp only [renO, O.sz, hl]; exact h.sz, by rw [e]; exact h.len, (fun _ _ e l he => by cases he), (fun hrow => by obtain ⟨⟨e, l, he⟩, _⟩ := h.vec hrow; cases he), ?_⟩
    rcases h.mem with ⟨m1, m2, m3⟩ | ⟨vs, t, cap, m1, m2, m3, m4, m5⟩
    . left
      refine ⟨m1, by rw [e]; exact m2, ?_⟩
      simp only [O.cells] at m3
      subst m3; rfl
    . right
      rw [e]
      simp only [renO, O.cells, O.sz, O.len, hl] at m2 m3 m4 m5 ⊢
      exact ⟨vs, t, cap, m1, zlE hm m2, m3, m4, m5⟩
  | vec f l =>
    refine ⟨by rw [e]; exact h.sz, by rw [e]; exact h.len, by rw [e]; exact h.n, h.vec, ?_⟩
    rcases h.mem with ⟨m1, m2, m3⟩ | ⟨vs, t, cap, m1, m2, m3, m4, m5⟩
    . left; exact ⟨m1, by rw [e]; exact m2, m3⟩
    . right
      rw [e]
      refine ⟨vs, t, cap, m1, za9 (fun id hid => ?_) m2, m3, m4, m5⟩
      have : anyC (C.men id) (flat f l) = true := hid
      rw [zaH] at this; cases this
theorem zbj {ob : List (Nat × Ob)} {m : List (Nat × Nat)} : ∀ {l : List (Nat × Nat)} {j : Nat} {z : Ob}, look j (zgU ob m l) = some z -> ∃ i x, (i, j) ∈ l /\ look i ob = some x /\ z = ⟨x.row, x.n, x.ty, renO m x.o⟩
  | [], j, z, h => by cases h
  | (i, k) :: l, j, z, h => by
    unfold zgU at h
    cases hx : look i ob with
    | none =>
      simp only [hx] at h
      obtain ⟨i', x, h1, h2⟩ := zbj h
      exact ⟨i', x, List.mem_cons_of_mem _ h1, h2⟩
    | some x =>
      simp only [hx, look] at h
      cases hb : Nat.beq k j with
      | true =>
        simp only [hb, cond_true, oi1] at h
        obtain rfl := Nat.beq_true hb
        exact ⟨i, x, List.mem_cons_self, hx, h.symm⟩
      | false =>
        simp only [hb, cond_false] at h
        obtain ⟨i', x, h1, h2⟩ := zbj h
        exact ⟨i', x, List.mem_cons_of_mem _ h1, h2⟩
theorem zhy {keep : List Nat} : ∀ {l : List V} {i : Nat}, (zbT keep i l).length = l.length /\ ∀ (t : Nat) (v : V), (zbT keep i l)[t]? = some v -> ∃ x, l[t]? = some x /\ (v = x \/ v = .dead)
  | [], i => ⟨rfl, fun t v h => by simp [zbT] at h⟩
  | x :: l, i => by
    obtain ⟨h1, h2⟩ := zhy (keep := keep) (l := l) (i := i + 1)
    refine ⟨by simp [zbT, h1], fun t v h => ?_⟩
    cases t with
    | zero =>
      simp only [zbT, List.getElem?_cons_zero, oi1] at h
      refine ⟨x, by simp, ?_⟩
      cases hm : memN i keep with
      | true => rw [hm] at h; exact .inl h.symm
      | false => rw [hm] at h; exact .inr h.symm
    | succ t => simpa [zbT] using h2 t v (by simpa [zbT] using h)
theorem zhz {m : List (Nat × Nat)} : ∀ {l : List V}, (zgT m l).length = l.length /\ ∀ t : Nat, (zgT m l)[t]? = (l[t]?).map (renV m)
  | [] => ⟨rfl, fun t => by simp [zgT]⟩
  | x :: l => by
    obtain ⟨h1, h2⟩ := zhz (m := m) (l := l)
    refine ⟨by simp [zgT, h1], fun t => ?_⟩
    cases t with
    | zero => simp [zgT]
    | succ t => simpa [zgT] using h2 t
theorem Sim.norm0 (h : Sim X ρ s a w) (kp : List Nat) (key : Nat) : ∃ ρ', Sim X ρ' (V.norm kp key s) a w := by
  unfold V.norm
  . simp only
    generalize hids : zch s.ob (zch s.ob (zhX (zc8 s.ob) (zbT kp 0 s.tm)) (zhX (zc8 s.ob) (zbT kp 0 s.tm))) (zch s.ob (zhX (zc8 s.ob) (zbT kp 0 s.tm)) (zhX (zc8 s.ob) (zbT kp 0 s.tm))) = ids
    have hnd : ids.Nodup := by rw [← hids]; exact zdp (zdp (zis (zhx s.ob)))
    obtain ⟨_, hm⟩ := zc3 (ob := s.ob) (b := 1000000 * (key + 1)) hnd
    generalize zcS s.ob (1000000 * (key + 1)) ids = m at hm
    obtain ⟨c1, c2⟩ := zhy (keep := kp) (l := s.tm) (i := 0)
    obtain ⟨r1, r2⟩ := zhz (m := m) (l := zbT kp 0 s.tm)
    have hB : ∀ i j x, (i, j) ∈ m -> hasB (newR m ρ) j ⟨x.row, x.n, x.ty, renO m x.o⟩ -> hasB ρ i x := fun i j x hij hb => by
      unfold hasB at *; rw [zbn hm hij] at hb; exact hb
    refine ⟨newR m ρ, fun t v hv => ?_, by simp only; rw [r1, c1]; exact h.sz, h.df, fun j z hz => ?_, fun j k y z hy hz hjk hb1 hb2 => ?_, fun j z hz hb => ?_, h.fr⟩
    . simp only at hv
      rw [r2] at hv
      obtain ⟨u, hu, rfl⟩ := Option.map_eq_some_iff.1 hv
      obtain ⟨x, hx, hux⟩ := c2 t u hu
      rcases hux with rfl | rfl
      . exact zrc hm (h.tm t _ hx)
      . trivial
    . obtain ⟨i, x, hij, hx, rfl⟩ := zbj hz
      exact zrd hm hij (h.ob i x hx)
    . obtain ⟨i, x, hij, hx, rfl⟩ := zbj hy
      obtain ⟨i', x', hij', hx', rfl⟩ := zbj hz
      rw [zbn hm hij, zbn hm hij']
      refine h.inj i i' x x' hx hx' ?_ (hB _ _ _ hij hb1) (hB _ _ _ hij' hb2)
      intro e
      subst e
      have : ∀ (m : List (Nat × Nat)), (m.map (·.1)).Nodup -> (i, j) ∈ m -> (i, k) ∈ m -> j = k := by
        intro m
        induction m with
        | nil => intro _ h; cases h
        | cons p m ih =>
          intro hn h1 h2
          simp only [List.map_cons, List.nodup_cons] at hn
          rcases List.mem_cons.1 h1 with e1 | h1 <;> rcases List.mem_cons.1 h2 with e2 | h2
          . rw [← e1] at e2; cases e2; rfl
          . exact absurd (List.mem_map.2 ⟨(i, k), h2, by rw [← e1]⟩) hn.1
          . exact absurd (List.mem_map.2 ⟨(i, j), h1, by rw [← e2]⟩) hn.1
          . exact ih hn.2 h1 h2
      exact hjk (this m hm.fst hij hij')
    . obtain ⟨i, x, hij, hx, rfl⟩ := zbj hz
      rw [zbn hm hij]
      exact h.own i x hx (hB _ _ _ hij hb)
theorem Sim.put0 (h : Sim X ρ s a w) (t : Nat) (v : V) (hv : RV X ρ v (a.tmps.getD t undef)) : Sim X ρ ⟨setV s.tm t v, s.ob⟩ a w := by
  refine ⟨fun i u hu => ?_, by simp [zcj, h.sz], h.df, h.ob, h.inj, h.own, h.fr⟩
  simp only [zee] at hu
  split at hu
  . rename_i hc
    obtain ⟨rfl, hlt⟩ := hc
    cases hu
    exact hv
  . exact h.tm i u hu
theorem znR (h : Sim X ρ s a w) {v : V} {x : Value} (hv : RV X ρ v x) : RV X ρ (zpz s v) x := by
  unfold zpz
  split
  . rename_i id
    split
    . rename_i n ty e l hg
      have hro := h.ob _ _ hg
      refine ⟨by rw [hro.len]; simp [O.len], ?_⟩
      rcases zbv hro with ⟨h1, rfl⟩ | ⟨cap, h1, h2, h3⟩
      . exact ⟨0, Nat.le_refl _, by simp [maxLen], (fun hu => by rw [h1] at hu; simp [undef] at hu), .inr ⟨rfl, none, by rw [hv.1, h1]⟩⟩
      . exact ⟨cap, h2, h3, (fun hu => by rw [h1] at hu; simp [undef] at hu), .inl (by rw [hv.1, h1]; simp)⟩
    . exact hv
  . exact hv
theorem zlG {s0 : St} : ∀ (l : List (Nat × VS)) (tm : List V), Sim X ρ s0 a w -> Sim X ρ ⟨tm, s0.ob⟩ a w -> Sim X ρ ⟨ziQ s0 l tm, s0.ob⟩ a w := by
  intro l
  induction l with
  | nil => intro tm _ h; exact h
  | cons p l ih =>
    intro tm h0 h
    unfold ziQ
    refine ih _ h0 ?_
    cases p.2.isSl with
    | false => exact h
    | true => exact h.put0 p.1 _ (znR h0 (h.eval p.1))
theorem Sim.norm (h : Sim X ρ s a w) (sh : Shape) (key : Nat) : ∃ ρ', Sim X ρ' (sh.norm key s) a w := by
  obtain ⟨ρ', h1⟩ := h.norm0 (zhY sh.tm) key
  exact ⟨ρ', zlG sh.tm _ h1 h1⟩
end
section
variable {X : Ctx} {ρ : Nat -> RI} {s : St} {a : Act} {w : World} {R : Type} {env : Nat -> Option Sg} {ret : St -> Option R} {lp : Lp R} {r : R}
def QE (Q : Exit -> Act -> World -> Prop) (F : Prop) : Ex -> Act -> World -> Prop
  | .normal, a, w => Q .normal a w
  | .exit id, a, w => Q (.exit id) a w
  | .goto l, a, w => Q (.goto l) a w
  | .fall, a, w => F -> Q .normal a w
def Ends (X : Ctx) (k : Kn R) (r : R) (Q : Exit -> Act -> World -> Prop) (F : Prop) : Prop :=
  ∀ e s ρ a w, k e s = some r -> Sim X ρ s a w -> QE Q F e a w
def Rets (X : Ctx) (ret : St -> Option R) (r : R) (Q : Exit -> Act -> World -> Prop) : Prop :=
  ∀ s ρ a w, ret s = some r -> Sim X ρ s a w -> Q .ret a w
def zjf (P : Program) (l : Nat) (b : Code) (Q : Exit -> Act -> World -> Prop) (I : Nat -> Act -> World -> Prop) : Prop :=
  ∀ n a w, I n a w -> b.wp P (Exit.jump l (fun a' w' => ∃ m, m < n /\ I m a' w') Q) a w
structure LpOK (X : Ctx) (ret : St -> Option R) (lp : Lp R) (r : R) : Prop where
  loop : ∀ key c s k Q ρ a w, key < 1000 -> lp key c s k = some r -> Sim X ρ s a w -> Ends X k r Q False -> Rets X ret r Q -> (Code.loop c).wp X.P Q a w
  label : ∀ l c s k Q ρ a w, lp (1000 + l) c s k = some r -> Sim X ρ s a w -> Ends X k r Q True -> Rets X ret r Q -> ∃ I n, I n a w /\ zjf X.P l c Q I
theorem zre {p : Nat -> Prop} (h : ∃ n, p n) : ∃ n, p n /\ ∀ m, p m -> n <= m := by
  obtain ⟨n, hn⟩ := h
  induction n using Nat.strongRecOn with
  | _ n ih =>
    by_cases h : ∃ m, m < n /\ p m
    . obtain ⟨m, hm, hp⟩ := h; exact ih m hm hp
    . exact ⟨n, hn, fun m hm => Nat.le_of_not_lt fun hlt => h ⟨m, hlt, hm⟩⟩
open Classical in
noncomputable def rank (I : Nat -> Act -> World -> Prop) (a : Act) (w : World) : Nat := if h : ∃ n, I n a w then (zre h).choose else 0
theorem zdq {I : Nat -> Act -> World -> Prop} {n : Nat} {a : Act} {w : World} (h : I n a w) : I (rank I a w) a w /\ rank I a w <= n := by
  have hex : ∃ n, I n a w := ⟨n, h⟩
  unfold rank
  rw [dif_pos hex]
  have := (zre hex).choose_spec
  exact ⟨this.1, this.2 n h⟩
theorem zit {P : Program} {c : Code} {Q : Exit -> Act -> World -> Prop} (I : Nat -> Act -> World -> Prop) {n : Nat} (h0 : I n a w) (round : ∀ n a w, I n a w -> c.wp P (Exit.then (fun a' w' => ∃ m, m < n /\ I m a' w') Q) a w) : (Code.loop c).wp P Q a w := by
  refine wp_loop (fun a w => ∃ n, I n a w) (rank I) ⟨n, h0⟩ fun a w ⟨n, hn⟩ => ?_
  obtain ⟨h1, _⟩ := zdq hn
  refine wp_mono (round _ a w h1) fun e a' w' hq => ?_
  cases e with
  | normal =>
    obtain ⟨m, hm, hI⟩ := hq
    exact ⟨⟨m, hI⟩, Nat.lt_of_le_of_lt (zdq hI).2 hm⟩
  | _ => exact hq
theorem zhA {P : Program} {c rest : Code} {l : Nat} {Q : Exit -> Act -> World -> Prop} (G : Nat -> Act -> World -> Prop) (hf : findLabel c l = some rest) (first : c.wp P (Exit.jump l (fun a w => ∃ n, G n a w) Q) a w)
    (pass : zjf P l rest Q G) : (Code.scope c).wp P Q a w := by
  refine wp_scope_jumps l (fun a w => ∃ n, G n a w) (rank G) hf first fun a w ⟨n, hn⟩ => ?_
  obtain ⟨h1, _⟩ := zdq hn
  refine wp_mono (pass _ a w h1) fun e a' w' hq => ?_
  cases e with
  | goto l' =>
    obtain ⟨e1, m, hm, hI⟩ := hq
    exact ⟨e1, ⟨m, hI⟩, Nat.lt_of_le_of_lt (zdq hI).2 hm⟩
  | _ => exact hq
def zdr : Code -> Code
  | .seq a b => match a with
    | .label _ => b
    | _ => zdr b
  | c => c
theorem zfQ {x y : Code} (h : ∀ l, x = .label l -> False) : zdr (.seq x y) = zdr y := by
  cases x <;> first | rfl | exact (h _ rfl).elim
theorem zj4 {l : Nat} {pre : List Code} (h : zne l pre = true) : ∀ c ∈ pre, findLabel c l = none := by
  induction pre with
  | nil => intro c hc; cases hc
  | cons p pre ih =>
    unfold zne at h
    intro c hc
    cases hp : findLabel p l with
    | some x => rw [hp] at h; cases h
    | none =>
      rw [hp] at h
      rcases List.mem_cons.1 hc with rfl | hc
      . exact hp
      . exact ih h c hc
theorem zj5 : ∀ (c : Code) (pre : List Code) (l : Nat), zb1 pre c = some l -> (∀ p ∈ pre, findLabel p l = none) /\ findLabel c l = some (.seq .skip (zdr c)) := by
  intro c
  induction c with
  | seq a b iha ihb =>
    intro pre l h
    unfold zb1 at h
    split at h
    . rename_i l'
      obtain ⟨h1, h2⟩ := zab h
      simp only [oi1] at h2
      subst h2
      exact ⟨zj4 h1, by simp [findLabel, zdr]⟩
    . rename_i hne
      obtain ⟨h1, h2⟩ := ihb _ l h
      refine ⟨fun p hp => h1 p (List.mem_cons_of_mem _ hp), ?_⟩
      have ha := h1 a List.mem_cons_self
      rw [findLabel, ha]
      simp only
      rw [h2]
      rw [zfQ hne]
  | _ => intro pre l h; simp [zb1] at h
theorem Ends.mono {k : Kn R} {Q Q' : Exit -> Act -> World -> Prop} {F F' : Prop} (h : Ends X k r Q F) (hq : ∀ e a w, QE Q F e a w -> QE Q' F' e a w) : Ends X k r Q' F' :=
  fun e s ρ a w hk hs => hq e a w (h e s ρ a w hk hs)
theorem zlH (id : Nat) (x : Ob) : Less x ⟨x.row, x.n, x.ty, zkE id x.o⟩ := by
  have hl : ∀ l : List C, (zkD id l).length = l.length := fun l => by
    induction l with
    | nil => rfl
    | cons c l ih => simp [zkD, ih]
  have hr : ∀ (X : Ctx) (ρ : Nat -> RI) (l : List C) (vs : List Value), RCs X ρ l vs -> RCs X ρ (zkD id l) vs := fun X ρ l => by
    induction l with
    | nil => intro vs h; exact h
    | cons c l ih =>
      intro vs h
      cases vs with
      | nil => exact h.elim
      | cons v vs =>
        refine ⟨?_, ih vs h.2⟩
        cases c.men id with
        | true => exact trivial
        | false => exact h.1
  obtain ⟨row, n, ty, o⟩ := x
  cases o with
  | lit l => exact ⟨rfl, rfl, rfl, by simp [zkE, O.cells, hl], by simp [zkE, O.sz, hl], rfl, (fun e l h => by cases h), (fun e l h => by cases h), fun X ρ vs h => hr X ρ l vs h⟩
  | vec e l => exact ⟨rfl, rfl, rfl, rfl, rfl, rfl, fun e l h => h, fun e l h => h, fun X ρ vs h => h⟩
theorem Sim.kill (h : Sim X ρ s a w) (id : Nat) : Sim X ρ (s.kill id) a w := by
  have hd := h.del id
  have hget : ∀ (ob : List (Nat × Ob)) (j : Nat) (y : Ob), look j (zgb id ob) = some y -> ∃ x, look j ob = some x /\ y = ⟨x.row, x.n, x.ty, zkE id x.o⟩ := fun ob => by
    induction ob with
    | nil => intro j y h; cases h
    | cons p l ih =>
      obtain ⟨m, x⟩ := p
      intro j y h
      simp only [zgb, look] at h ⊢
      cases hb : Nat.beq m j with
      | true => rw [hb] at h; cases h; exact ⟨x, rfl, rfl⟩
      | false => rw [hb] at h; exact ih j y h
  have htm : ∀ (l : List V) (t : Nat) (v : V), (zhR id l)[t]? = some v -> ∃ x, l[t]? = some x /\ (v = x \/ v = .dead) := fun l => by
    induction l with
    | nil => intro t v h; cases h
    | cons x l ih =>
      intro t v h
      cases t with
      | zero =>
        simp only [zhR, List.getElem?_cons_zero, oi1] at h
        refine ⟨x, rfl, ?_⟩
        cases hb : x.men id with
        | true => rw [hb] at h; exact .inr h.symm
        | false => rw [hb] at h; exact .inl h.symm
      | succ t => simpa using ih t v (by simpa [zhR] using h)
  have hlen : ∀ l : List V, (zhR id l).length = l.length := fun l => by
    induction l with
    | nil => rfl
    | cons x l ih => simp [zhR, ih]
  refine ⟨fun t v hv => ?_, by simp only [St.kill, hlen]; exact h.sz, h.df, fun j y hy => ?_, fun i j x y hx hy hij hbi hbj => ?_, fun j y hy hb => ?_, h.fr⟩
  . obtain ⟨x, hx, hor⟩ := htm _ _ _ hv
    rcases hor with rfl | rfl
    . exact h.tm t _ hx
    . exact trivial
  . obtain ⟨x, hx, rfl⟩ := hget _ _ _ hy
    exact (hd.ob j x hx).less (zlH id x)
  . obtain ⟨x', hx', rfl⟩ := hget _ _ _ hx
    obtain ⟨y', hy', rfl⟩ := hget _ _ _ hy
    exact hd.inj i j x' y' hx' hy' hij hbi hbj
  . obtain ⟨x, hx, rfl⟩ := hget _ _ _ hy
    exact hd.own j x hx hb
theorem Sim.kills (h : Sim X ρ s a w) (l : List Nat) : Sim X ρ (s.kills l) a w := by
  induction l generalizing s with
  | nil => exact h
  | cons id l ih => exact ih (h.kill id)
theorem zsC (hp : PDok X.P X.pd) (henv : ∀ f g, env f = some g -> SgOK X.P X.pd.els f g) {ops : Array Oper} {i : Nat} {o p : Oper} {t x d f : Nat} (hpair : ziO o p = some (t, x, d, f)) (ho : ops[i]? = some o) (hp2 : ops[i + 1]? = some p) {k : St -> Option R}
    (h : fzK X.pd env t x d f p s k = some r) (hs : Sim X ρ s a w) {rest : List Nat} {Q : Exit -> Act -> World -> Prop} (hk : ∀ s' ρ' a' w', k s' = some r -> Sim X ρ' s' a' w' -> wpOps X.P ops Q rest a' w') : wpOps X.P ops Q (i :: (i + 1) :: rest) a w := by
  unfold ziO at hpair
  split at hpair
  case h_2 => cases hpair
  rename_i d0 t0 u0 x0 f0 args ts hg1 hg2 hdo hop hop2
  split at hpair
  case h_2 => cases hpair
  rename_i e0 hargs
  obtain ⟨hc, hpr⟩ := zab hpair
  clear hpair
  simp only [Bool.and_eq_true] at hc
  obtain ⟨c1, c2⟩ := hc
  have c1 := Nat.beq_true c1
  have c2 := Nat.beq_true c2
  subst c1; subst c2
  simp only [oi1, pi1] at hpr
  obtain ⟨e1, e2, e3, e4⟩ := hpr
  have e1 := e1.symm
  have e2 := e2.symm
  have e3 := e3.symm
  have e4 := e4.symm
  subst e1; subst e2; subst e3; subst e4
  have hargs' : args = #[.tmp d] := by apply Array.ext'; simpa using hargs
  subst hargs'
  unfold fzK at h
  split at h
  case h_2 => cases h
  rename_i et sz by' z ht
  split at h
  case h_2 => cases h
  rename_i sz2 by2 z2 id het hsx
  split at h
  case h_2 => cases h
  rename_i n ty l hg
  obtain ⟨hpos, h⟩ := zag h
  have hpos : 0 < l.length := by simpa [ltN] using hpos
  split at h
  case h_2 => cases h
  rename_i g hgf
  obtain ⟨hm, h⟩ := zab h
  simp only [Bool.and_eq_true] at hm
  obtain ⟨hf1, hm1, hd1⟩ := hm
  have hf1 : f < 1000000 := by simpa [Nat.blt_eq] using hf1
  have hd1 : d < s.tm.length := by simpa [Nat.blt_eq] using hd1
  cases hr : g.run [.c (.ro .u8 l)] with
  | none => rw [hr] at h; cases h
  | some q =>
    rw [hr] at h
    simp only [Option.bind_some] at h
    split at h
    case h_2 => cases h
    rename_i v obs m hab
    obtain ⟨hnew, h⟩ := zc9 h
    have hu := (hp.ti _ _ ht).kind
    have hue := (hp.ti _ _ het).kind
    simp only [zfu] at hu hue
    have hro := hs.ob _ _ hg
    have hvx : RV X ρ (.u (.c (.row id))) (a.eval (.tmp x)) := by rw [← hsx]; exact hs.eval x
    obtain ⟨hvx, _⟩ := hvx
    rcases zbv hro with ⟨_, rfl⟩ | ⟨cap, h2, h3, h4⟩
    . simp at hpos
    rcases hro.mem with ⟨_, m2, _⟩ | ⟨vs, ty', cap', m1, m2, m3, m4, m5⟩
    . rw [m2] at h2; cases h2
    have hB : hasB ρ id ⟨true, n, ty, .vec .u8 l⟩ := .inr (by rw [h2]; simp)
    simp only [O.cells] at m2 m3
    rw [h2] at hvx
    generalize hw1d : w.freeze ⟨(ρ id).blk, vs.size, none⟩ 1 = w1
    have hrun1 : (execOp a.eval o).run X.P w = .ok (.value (.slice (some ⟨(ρ id).blk, 0, none⟩) l.length cap)) w1 := by
      rw [← hw1d]
      simp [execOp, hop, convert, run_underlying hu, run_underlying hue, hvx, markStringish, World.shape?, m1]
    have hw1 : w1.heap[(ρ id).blk]? = some (.cells vs ty' (vs.size, vs.size + 1)) := by
      rw [← hw1d]
      simp [World.freeze, Array.getElem?_modify, m1]
    have hw1o : ∀ j, j ≠ (ρ id).blk -> w1.heap[j]? = w.heap[j]? := fun j hj => by
      rw [← hw1d]
      simp only [World.freeze]
      rw [if_neg (by decide)]
      simp only [Array.getElem?_modify]
      rw [if_neg (fun e => hj e.symm)]
    have hw1s : w1.heap.size = w.heap.size := by rw [← hw1d]; simp [World.freeze]
    have hfrm : Frm X w1 := by
      refine ⟨?_, ?_, ?_, by rw [hw1s]; exact hs.fr.size, fun j hj hm => ?_⟩
      . rw [← hw1d]; exact hs.fr.os
      . rw [← hw1d]; exact hs.fr.tape
      . rw [← hw1d]; exact hs.fr.output
      . rw [hw1o j ?_]
        . exact hs.fr.block j hj hm
        . intro e
          subst e
          rcases hs.own id _ hg hB with h5 | h5
          . omega
          . exact hm h5
    have hs1 : Sim X ρ ⟨s.tm, za4 id s.ob⟩ a w1 := (hs.del id).world (fun j y hy hby => by
      refine hw1o _ ?_
      unfold St.get at hy
      by_cases e : j = id
      . subst e; simp only at hy; rw [za7] at hy; cases hy
      . simp only at hy
        rw [zbH _ e] at hy
        exact hs.inj j id y _ hy hg e hby hB) hfrm
    have hs2 := (hs1.kill id).set d (v := .dead) (x := .slice (some ⟨(ρ id).blk, 0, none⟩) l.length cap) trivial
    generalize (⟨setV (St.kill ⟨s.tm, za4 id s.ob⟩ id).tm d .dead, (St.kill ⟨s.tm, za4 id s.ob⟩ id).ob⟩ : St) = s1 at hs2 hnew h
    generalize ha1 : a.put (some d) (.slice (some ⟨(ρ id).blk, 0, none⟩) l.length cap) = a1 at hs2
    have hev : a1.eval (.tmp d) = .slice (some ⟨(ρ id).blk, 0, none⟩) l.length cap := by
      rw [← ha1]
      have : d < a.tmps.size := by rw [← hs.sz]; exact hd1
      simp [Act.put, Act.eval, this]
    rw [wpOps_cons]
    unfold Go.wpOp
    simp only [ho]
    rw [if_pos (by simp [Region.wanted, hg1])]
    left
    unfold Oper.wp
    rw [hrun1]
    show wpOps X.P ops Q ((i + 1) :: rest) (a.put o.dst _) w1
    rw [hdo, ha1, wpOps_cons]
    unfold Go.wpOp
    simp only [hp2]
    rw [if_pos (by simp [Region.wanted, hg2])]
    left
    unfold Oper.wp
    have h1 : (execOp a1.eval p).run X.P w1 = (callFunc f #[.slice (some ⟨(ρ id).blk, 0, none⟩) l.length cap]).run X.P w1 := by
      have hef : a1.eval (.func f) = ({ tmps := a.tmps, defers := [] } : Act).eval (.func f) := rfl
      simp [execOp, hop2, resolve, Deferred.ofValue, invoke, hev]
      simp [Act.eval]
    rw [h1]
    have hplain : zib X.P X.pd.els f g := by
      have := henv f g hgf
      have := this.1 (Nat.lt_trans hf1 (by decide))
      rw [Nat.mod_eq_of_lt hf1] at this
      exact this.1 (Nat.beq_true hm1)
    have hlt : (ρ id).blk < w1.heap.size := (Array.getElem?_eq_some_iff.1 hw1).1
    have hget : ∀ (j : Nat) (c : C), (flat .u8 l)[j]? = some c -> ∃ u, w1.cell? ⟨(ρ id).blk, 0 + j, none⟩ = some u /\ Holds w1 (fun b => b < w1.heap.size) c u := by
      intro j c hj
      obtain ⟨u, hu1, hcu⟩ := zh1 m2 j c hj
      obtain ⟨v', hv'⟩ := zdf .u8 l c (List.mem_of_getElem? hj)
      refine ⟨u, ?_, by rw [zaf hv' hcu]; exact .sc hv'⟩
      rw [Nat.zero_add, cell_of_row w1 _ j vs ty' (vs.size, vs.size + 1) hw1]
      rw [List.getElem?_take] at hu1
      split at hu1
      . simpa using hu1
      . cases hu1
    have hh : zaL w1 (fun b => b < w1.heap.size) [.c (.ro .u8 l)] [.slice (some ⟨(ρ id).blk, 0, none⟩) l.length cap] :=
      ⟨.ro (fun j => (w1.cell? ⟨(ρ id).blk, 0 + j, none⟩).getD undef) h3 h4 hlt (fun j c hj => by
        obtain ⟨u, hu1, _⟩ := hget j c hj
        simp only [hu1, Option.getD_some]) (fun j c hj => by
        obtain ⟨u, hu1, hh⟩ := hget j c hj
        simp only [hu1, Option.getD_some]; exact hh), trivial⟩
    have h5 := hplain _ q hr w1 _ (fun b => b < w1.heap.size) (fun _ h => h) hh
    refine h5 p a1 _ Q fun val w2 ⟨hown, hkp⟩ => ?_
    have hs3 : Sim X ρ s1 a1 w2 := hs2.world (fun id x hx hb => hkp.block _ (hs2.lt hx hb)) (hkp.frm hs2.fr)
    obtain ⟨ρ', g1, g2, g3⟩ := zdg (fun g hg => .inl (Nat.le_trans hs2.fr.size hg)) hab hown hs3 (fun id x hx hb => Nat.not_le.2 (hs2.lt hx hb)) (fun id h1 h2 => zaM hnew h1 (by omega))
    refine hk _ ρ' _ _ h ?_
    cases hd : p.dst with
    | none => simpa [Eff.app, St.dels, Act.put] using g1
    | some d2 => simpa [Eff.app, St.dels] using g1.set d2 g2
theorem zlI (hp : PDok X.P X.pd) (henv : ∀ f g, env f = some g -> SgOK X.P X.pd.els f g) {id : Nat} {ops : Array Oper} {draw : Bool} {k : St -> Option R} {Q : Exit -> Act -> World -> Prop} (h : zhW X.pd env ops.toList draw s k = some r) (hs : Sim X ρ s a w)
    (hk : ∀ s' ρ' a' w', k s' = some r -> Sim X ρ' s' a' w' -> Q .normal a' w') : (Code.region id ops draw).wp X.P Q a w := by
  unfold zhW at h
  replace hs := hs.kills (zcg X.pd s ops.toList)
  generalize s.kills (zcg X.pd s ops.toList) = s at h hs
  unfold zkN at h
  split at h
  . rename_i i hi
    cases draw with
    | true => cases hi
    | false =>
      unfold zkM at h
      obtain ⟨fs, s', h1, h2⟩ := zeT h
      split at h1
      case h_2 => cases h1
      rename_i o p rest hdr
      split at h1
      case h_2 => cases h1
      rename_i t x d f hpair
      have hlen : ops.toList.length = i + 2 + rest.length := by
        have := congrArg List.length hdr
        simp only [List.length_drop, List.length_cons] at this
        omega
      have htk : (ops.toList.take i).length = i := by rw [List.length_take]; omega
      have ho : ops[i]? = some o := by
        rw [← Array.getElem?_toList]
        have := congrArg (·[0]?) hdr
        simpa using this
      have hp2 : ops[i + 1]? = some p := by
        rw [← Array.getElem?_toList]
        have := congrArg (·[1]?) hdr
        simpa using this
      have hrest : ops.toList.drop (i + 2) = rest := by
        have := congrArg (List.drop 2) hdr
        rw [List.drop_drop] at this
        simpa using this
      refine wp_region ?_
      have hrange : List.range ops.size = List.range' 0 (ops.toList.take i).length ++ (i :: (i + 1) :: List.range' (i + 2) rest.length) := by
        rw [List.range_eq_range', htk, show ops.size = i + (2 + rest.length) by have : ops.toList.length = ops.size := Array.length_toList; omega, ← List.range'_append_1]
        congr 1
        rw [Nat.zero_add, show 2 + rest.length = (rest.length + 1) + 1 by omega, List.range'_succ, List.range'_succ]
      rw [hrange]
      refine h2.wpPre hp henv 0 ρ a w _ (by rw [List.drop_zero, htk]) hs fun ρ1 a1 w1 hs1 => ?_
      refine zsC hp henv hpair ho hp2 h1 hs1 fun s2 ρ2 a2 w2 h3 hs2 => ?_
      obtain ⟨fs2, s3, h4, h5⟩ := zeT h3
      exact h5.wpOps hp henv (i + 2) ρ2 a2 w2 hrest hs2 (fun ρ' a' w' h' => hk s3 ρ' a' w' h4 h')
  obtain ⟨fs, s', h1, h2⟩ := zeT h
  simp only [List.reverse_nil, List.nil_append] at h1
  cases draw with
  | false =>
    simp only [cond_false] at h1
    refine wp_region ?_
    have := h2.wpOps hp henv 0 ρ a w (by simp) hs (Q := Q) (fun ρ' a' w' h' => hk s' ρ' a' w' h1 h')
    rw [List.range_eq_range']
    simpa using this
  | true =>
    simp only [cond_true] at h1
    obtain ⟨h3, h4⟩ := zab h1
    exact zp0 hp henv h2 h3 (fun ρ' a' w' h' => hk s' ρ' a' w' h4 h') hs id
theorem zhB (hp : PDok X.P X.pd) (henv : ∀ f g, env f = some g -> SgOK X.P X.pd.els f g) (hlp : LpOK X ret lp r) : ∀ (c : Code),
    (∀ s k Q ρ a w, (ex2 X.pd env ret lp c).1 s k = some r -> Sim X ρ s a w -> Ends X k r Q False -> Rets X ret r Q -> c.wp X.P Q a w) /\
    (∀ pre l s k Q ρ a w, zb1 pre c = some l -> (ex2 X.pd env ret lp c).2 s (Kn.noGoto k) = some r -> Sim X ρ s a w -> Ends X k r Q False -> Rets X ret r Q ->
      c.wp X.P (Exit.jump l (fun a w => ∃ n I, I n a w /\ zjf X.P l (zdr c) Q I) Q) a w) := by
  intro c
  induction c with
  | skip => exact ⟨fun s k Q ρ a w h hs hk hr => wp_skip (hk _ _ _ _ _ h hs), fun pre l s k Q ρ a w hsp => by simp [zb1] at hsp⟩
  | region id ops draw => exact ⟨fun s k Q ρ a w h hs hk hr => zlI hp henv h hs fun s' ρ' a' w' h1 h2 => hk _ _ _ _ _ h1 h2, fun pre l s k Q ρ a w hsp => by simp [zb1] at hsp⟩
  | seq x y ihx ihy =>
    refine ⟨fun s k Q ρ a w h hs hk hr => ?_, fun pre l s k Q ρ a w hsp h hs hk hr => ?_⟩
    . refine wp_seq (ihx.1 s _ _ ρ a w h hs ?_ ?_)
      . intro e s' ρ' a' w' he hs'
        cases e with
        | normal => exact ihy.1 s' k Q ρ' a' w' he hs' hk hr
        | exit id => exact hk (.exit id) s' ρ' a' w' he hs'
        | goto l => exact hk (.goto l) s' ρ' a' w' he hs'
        | fall => exact fun hf => hf.elim
      . exact fun s' ρ' a' w' h1 h2 => hr s' ρ' a' w' h1 h2
    . unfold zb1 at hsp
      split at hsp
      . rename_i l'
        obtain ⟨_, hsp⟩ := zab hsp
        simp only [oi1] at hsp
        subst hsp
        obtain ⟨I, n, hI, hR⟩ := hlp.label l' y s (Kn.fall (Kn.noGoto k)) Q ρ a w h hs (by
          intro e s' ρ' a' w' he hs'
          cases e with
          | normal => exact hk .normal s' ρ' a' w' he hs'
          | exit id => exact hk (.exit id) s' ρ' a' w' he hs'
          | goto l => cases he
          | fall => exact fun _ => hk .normal s' ρ' a' w' he hs') hr
        refine wp_seq (wp_label ?_)
        refine wp_mono (hR n a w hI) fun e a' w' hq => ?_
        cases e with
        | goto l'' =>
          obtain ⟨e1, m, hm, hIm⟩ := hq
          exact ⟨e1, m, I, hIm, hR⟩
        | _ => exact hq
      . rename_i hne
        have htail : zdr (.seq x y) = zdr y := zfQ hne
        have h' : (ex2 X.pd env ret lp x).1 s (Kn.seq (fun s => (ex2 X.pd env ret lp y).2 s (Kn.noGoto k)) (Kn.noGoto k)) = some r := by
          cases x <;> first | exact h | exact (hne _ rfl).elim
        rw [htail]
        refine wp_seq (ihx.1 s _ _ ρ a w h' hs ?_ ?_)
        . intro e s' ρ' a' w' he hs'
          cases e with
          | normal => exact ihy.2 _ l s' k Q ρ' a' w' hsp he hs' hk hr
          | exit id => exact hk (.exit id) s' ρ' a' w' he hs'
          | goto l => cases he
          | fall => exact fun hf => hf.elim
        . exact fun s' ρ' a' w' h1 h2 => hr s' ρ' a' w' h1 h2
  | cond c x y ihx ihy =>
    refine ⟨fun s k Q ρ a w h hs hk hr => ?_, fun pre l s k Q ρ a w hsp => by simp [zb1] at hsp⟩
    simp only [ex2] at h
    split at h
    . rename_i t ht
      refine wp_cond (zkV hs ht) ?_
      cases t with
      | true => exact ihx.1 s k Q ρ a w h hs hk hr
      | false => exact ihy.1 s k Q ρ a w h hs hk hr
    . cases h
  | block id c ih =>
    refine ⟨fun s k Q ρ a w h hs hk hr => ?_, fun pre l s k Q ρ a w hsp => by simp [zb1] at hsp⟩
    refine wp_block (ih.1 s _ _ ρ a w h hs ?_ ?_)
    . intro e s' ρ' a' w' he hs'
      cases e with
      | normal => exact hk .normal s' ρ' a' w' he hs'
      | exit j =>
        simp only [QE, Exit.inBlock]
        have he' : cond (Nat.beq j id) (k .normal s') (k (.exit j) s') = some r := he
        cases hb : Nat.beq j id with
        | true =>
          rw [hb] at he'
          rw [if_pos (Nat.beq_true hb)]
          exact hk .normal s' ρ' a' w' he' hs'
        | false =>
          rw [hb] at he'
          rw [if_neg (fun e => by subst e; simp at hb)]
          exact hk (.exit j) s' ρ' a' w' he' hs'
      | goto l => exact hk (.goto l) s' ρ' a' w' he hs'
      | fall => exact fun hf => hf.elim
    . exact fun s' ρ' a' w' h1 h2 => hr s' ρ' a' w' h1 h2
  | loop c ih =>
    refine ⟨fun s k Q ρ a w h hs hk hr => ?_, fun pre l s k Q ρ a w hsp => by simp [zb1] at hsp⟩
    have h' : cond (Nat.blt (zgh c) 1000) (lp (zgh c) c s k) none = some r := h
    obtain ⟨h1, h2⟩ := zab h'
    exact hlp.loop _ c s k Q ρ a w (by simpa [Nat.blt_eq] using h1) h2 hs hk hr
  | exit id => exact ⟨fun s k Q ρ a w h hs hk hr => wp_exit (hk (.exit id) _ _ _ _ h hs), fun pre l s k Q ρ a w hsp => by simp [zb1] at hsp⟩
  | goto l => exact ⟨fun s k Q ρ a w h hs hk hr => wp_goto (hk (.goto l) _ _ _ _ h hs), fun pre l s k Q ρ a w hsp => by simp [zb1] at hsp⟩
  | label l => exact ⟨fun s k Q ρ a w h hs hk hr => wp_label (hk .normal _ _ _ _ h hs), fun pre l s k Q ρ a w hsp => by simp [zb1] at hsp⟩
  | ret => exact ⟨fun s k Q ρ a w h hs hk hr => wp_ret (hr _ _ _ _ h hs), fun pre l s k Q ρ a w hsp => by simp [zb1] at hsp⟩
  | scope c ih =>
    refine ⟨fun s k Q ρ a w h hs hk hr => ?_, fun pre l s k Q ρ a w hsp => by simp [zb1] at hsp⟩
    have h' : (match zb1 [] c with
      | some _ => (ex2 X.pd env ret lp c).2 s (Kn.noGoto k)
      | none => none) = some r := h
    split at h'
    . rename_i l hl
      have h1 := ih.2 [] l s k Q ρ a w hl h' hs hk hr
      obtain ⟨_, hf⟩ := zj5 c [] l hl
      refine zhA (fun n a w => ∃ I, I n a w /\ zjf X.P l (zdr c) Q I) hf h1 ?_
      intro n a w ⟨I, hI, hR⟩
      refine wp_seq (wp_skip ?_)
      refine wp_mono (hR n a w hI) fun e a' w' hq => ?_
      cases e with
      | goto l' =>
        obtain ⟨e1, m, hm, hIm⟩ := hq
        exact ⟨e1, m, hm, I, hIm, hR⟩
      | _ => exact hq
    . cases h'
  | rangeFunc _ _ _ _ => exact ⟨fun s k Q ρ a w h => (by cases h), fun pre l s k Q ρ a w hsp => by simp [zb1] at hsp⟩
  | refuse _ => exact ⟨fun s k Q ρ a w h => (by cases h), fun pre l s k Q ρ a w hsp => by simp [zb1] at hsp⟩
end
section
variable {X : Ctx} {ρ : Nat -> RI} {s : St} {a : Act} {w : World} {R : Type} {env : Nat -> Option Sg} {ret : St -> Option R} {lp : Lp R} {r : R}
theorem ziu {sh : Shape} {nm : St -> St} {out : Ex} {A E : sh.T -> Option R} {e : Ex} {s : St} (h : Kc sh.dec nm out.is A E e s = some r) :
    (e = .normal /\ ∃ x, sh.dec (nm s) = some x /\ A x = some r) \/ (e ≠ .normal /\ (e = out /\ out.is e = true) /\ ∃ x, sh.dec (nm s) = some x /\ E x = some r) := by
  unfold Kc at h
  split at h
  . split at h
    . rename_i x hx
      exact .inl ⟨rfl, x, hx, h⟩
    . cases h
  . rename_i hne
    obtain ⟨h1, h2⟩ := zab h
    split at h2
    . rename_i x hx
      refine .inr ⟨hne, ⟨?_, h1⟩, x, hx, h2⟩
      cases e <;> cases out <;> simp [Ex.is] at h1 <;> first | rfl | rw [h1]
    . cases h2
theorem zgB (hp : PDok X.P X.pd) (henv : ∀ f g, env f = some g -> SgOK X.P X.pd.els f g) (N : Nat) (tab : List (Nat × Head)) : ∀ d, LpOK X ret (mkLp X.pd env ret N tab d) r
  | 0 => ⟨fun key c s k Q ρ a w _ h => by (cases h), fun l c s k Q ρ a w h => by (cases h)⟩
  | d + 1 => by
    have ih := zgB hp henv N tab d
    have head : ∀ key c s k, mkLp X.pd env ret N tab (d + 1) key c s k = some r -> ∃ hd : Head, ∃ x, hd.sh.dec (hd.sh.norm key s) = some x /\
        zaj (fun A x => exec X.pd env ret (mkLp X.pd env ret N tab d) c (hd.sh.enc x) (zjz key (Kc hd.sh.dec (hd.sh.norm key) hd.out.is A fun y => k hd.out (hd.sh.enc y)))) N x = some r := by
      intro key c s k h
      have h' : (match look key tab with
        | some hd => zpA (fun _ => zaj) X.pd env ret N (mkLp X.pd env ret N tab d) hd key c s k
        | none => none) = some r := h
      cases hl : look key tab with
      | none => rw [hl] at h'; cases h'
      | some hd =>
        rw [hl] at h'
        unfold zpA at h'
        simp only at h'
        cases hx : hd.sh.dec (hd.sh.norm key s) with
        | none => rw [hx] at h'; cases h'
        | some x => rw [hx] at h'; exact ⟨hd, x, hx, h'⟩
    refine ⟨fun key c s k Q ρ a w hkey h hs hk hr => ?_, fun l c s k Q ρ a w h hs hk hr => ?_⟩
    . obtain ⟨hd, x, hx, h⟩ := head key c s k h
      obtain ⟨ρ1, hs1⟩ := hs.norm hd.sh key
      have hwr : ∀ k' : Kn R, zjz key k' = k' := fun k' => by
        unfold zjz
        have : Nat.blt key 1000 = true := by rw [Nat.blt_eq]; exact hkey
        rw [this]; rfl
      simp only [hwr] at h
      refine zit (fun n a w => ∃ x ρ, zaj (fun A x => exec X.pd env ret (mkLp X.pd env ret N tab d) c (hd.sh.enc x) (Kc hd.sh.dec (hd.sh.norm key) hd.out.is A fun y => k hd.out (hd.sh.enc y))) n x = some r /\ Sim X ρ (hd.sh.enc x) a w)
        (n := N) ⟨x, ρ1, h, hs1.dec hx⟩ ?_
      rintro n a w ⟨x, ρ, h, hs⟩
      cases n with
      | zero => cases h
      | succ n =>
        refine (zhB hp henv ih c).1 _ _ _ ρ a w h hs ?_ (fun s' ρ' a' w' h1 h2 => hr s' ρ' a' w' h1 h2)
        intro e s' ρ' a' w' he hs'
        obtain ⟨ρ2, hs2⟩ := hs'.norm hd.sh key
        rcases ziu he with ⟨rfl, y, hy, hA⟩ | ⟨hne, ⟨rfl, _⟩, y, hy, hE⟩
        . exact ⟨n, Nat.lt_succ_self n, y, ρ2, hA, hs2.dec hy⟩
        . have := hk hd.out _ ρ2 a' w' hE (hs2.dec hy)
          cases ho : hd.out with
          | normal => exact absurd ho hne
          | exit id => rw [ho] at this; exact this
          | goto l => rw [ho] at this; exact this
          | fall => exact fun hf => hf.elim
    . obtain ⟨hd, x, hx, h⟩ := head (1000 + l) c s k h
      obtain ⟨ρ1, hs1⟩ := hs.norm hd.sh (1000 + l)
      have hwr : ∀ k' : Kn R, zjz (1000 + l) k' = Kn.again l k' := fun k' => by
        unfold zjz
        have : Nat.blt (1000 + l) 1000 = false := by
          cases hb : Nat.blt (1000 + l) 1000 with
          | false => rfl
          | true => rw [Nat.blt_eq] at hb; omega
        rw [this, Nat.add_sub_cancel_left]; rfl
      simp only [hwr] at h
      refine ⟨fun n a w => ∃ x ρ, zaj (fun A x => exec X.pd env ret (mkLp X.pd env ret N tab d) c (hd.sh.enc x) (Kn.again l (Kc hd.sh.dec (hd.sh.norm (1000 + l)) hd.out.is A fun y => k hd.out (hd.sh.enc y)))) n x = some r /\ Sim X ρ (hd.sh.enc x) a w,
        N, ⟨x, ρ1, h, hs1.dec hx⟩, ?_⟩
      rintro n a w ⟨x, ρ, h, hs⟩
      cases n with
      | zero => cases h
      | succ n =>
        refine (zhB hp henv ih c).1 _ _ _ ρ a w h hs ?_ (fun s' ρ' a' w' h1 h2 => hr s' ρ' a' w' h1 h2)
        intro e s' ρ' a' w' he hs'
        obtain ⟨ρ2, hs2⟩ := hs'.norm hd.sh (1000 + l)
        have leave : ∀ e' : Ex, Kc hd.sh.dec (hd.sh.norm (1000 + l)) hd.out.is (zaj (fun A x => exec X.pd env ret (mkLp X.pd env ret N tab d) c (hd.sh.enc x) (Kn.again l (Kc hd.sh.dec (hd.sh.norm (1000 + l)) hd.out.is A fun y => k hd.out (hd.sh.enc y)))) n) (fun y => k hd.out (hd.sh.enc y)) e' s' = some r ->
            (e' = .normal /\ ∃ y, Sim X ρ2 (hd.sh.enc y) a' w' /\ zaj (fun A x => exec X.pd env ret (mkLp X.pd env ret N tab d) c (hd.sh.enc x) (Kn.again l (Kc hd.sh.dec (hd.sh.norm (1000 + l)) hd.out.is A fun y => k hd.out (hd.sh.enc y)))) n y = some r) \/ (e' ≠ .normal /\ QE Q True e' a' w') := by
          intro e' he'
          rcases ziu he' with ⟨rfl, y, hy, hA⟩ | ⟨hne, ⟨rfl, _⟩, y, hy, hE⟩
          . exact .inl ⟨rfl, y, hs2.dec hy, hA⟩
          . exact .inr ⟨hne, hk hd.out _ ρ2 a' w' hE (hs2.dec hy)⟩
        cases e with
        | normal =>
          rcases leave .fall he with ⟨h1, _⟩ | ⟨_, h1⟩
          . cases h1
          . exact h1 trivial
        | exit id =>
          rcases leave (.exit id) he with ⟨h1, _⟩ | ⟨_, h1⟩
          . cases h1
          . exact h1
        | goto m =>
          have he' : cond (Nat.beq m l) (Kc hd.sh.dec (hd.sh.norm (1000 + l)) hd.out.is _ _ .normal s') (Kc hd.sh.dec (hd.sh.norm (1000 + l)) hd.out.is _ _ (.goto m) s') = some r := he
          cases hb : Nat.beq m l with
          | true =>
            rw [hb] at he'
            rcases leave .normal he' with ⟨_, y, h1, h2⟩ | ⟨h1, _⟩
            . exact ⟨Nat.beq_true hb, n, Nat.lt_succ_self n, y, ρ2, h2, h1⟩
            . exact absurd rfl h1
          | false =>
            rw [hb] at he'
            simp only [cond_false] at he'
            rcases ziu he' with ⟨h1, _⟩ | ⟨_, ⟨_, h1⟩, _⟩
            . cases h1
            . exfalso
              revert h1
              cases hd.out <;> simp [Ex.is]
        | fall => exact fun hf => hf.elim
end
section
variable {X : Ctx} {ρ : Nat -> RI} {s : St} {a : Act} {w : World} {R : Type} {env : Nat -> Option Sg} {ret : St -> Option R} {r : R}
theorem zfR {ok : Nat -> Prop} (hok : ∀ b, ok b -> X.ok b) {l : List C} {vs : List Value} (h : zbd X.w0 ok l vs) : RCs X ρ l vs := by
  induction l generalizing vs with
  | nil => cases vs with
    | nil => trivial
    | cons _ _ => exact h.elim
  | cons c l ih => cases vs with
    | nil => exact h.elim
    | cons v vs => exact ⟨zcl (h.1.mono fun b hb => ⟨hok b hb, rfl⟩), ih h.2⟩
theorem zhC {ok : Nat -> Prop} (hok : ∀ b, ok b -> X.ok b) {u : U} {v : Value} (h : zfA X.w0 ok u v) : RU X ρ u v := by
  cases u with
  | c x => exact zcl (h.mono fun b hb => ⟨hok b hb, rfl⟩)
  | agg l => obtain ⟨vs, h1, h2⟩ := h; exact ⟨vs, h1, zfR hok h2⟩
  | vec e l => obtain ⟨vs, h1, h2⟩ := h; exact ⟨vs, h1, zfR hok h2⟩
  | box l => exact h
theorem ze0 {w : World} {ok : Nat -> Prop} {us : List U} {vs : List Value} (h : zaL w ok us vs) : us.length = vs.length /\ ∀ (j : Nat) (u : U), us[j]? = some u -> ∃ v, vs[j]? = some v /\ zfA w ok u v := by
  induction us generalizing vs with
  | nil => cases vs with
    | nil => exact ⟨rfl, fun j u h => by simp at h⟩
    | cons _ _ => exact h.elim
  | cons u us ih => cases vs with
    | nil => exact h.elim
    | cons v vs =>
      obtain ⟨h1, h2⟩ := ih h.2
      refine ⟨by simp [h1], fun j x hx => ?_⟩
      cases j with
      | zero => simp at hx; subst hx; exact ⟨v, by simp, h.1⟩
      | succ j => simpa using h2 j x (by simpa using hx)
theorem zhD {P : Program} {pd : PD} {w : World} {ok : Nat -> Prop} (hok : ∀ b, ok b -> b < w.heap.size) {us : List U} {vs : List Value} (h : zaL w ok us vs) (n : Nat) :
    Sim ⟨P, pd, w, fun _ => False, fun _ => (0, 0, 0, 0)⟩ (fun _ => ⟨0, undef, 0, 0⟩) ⟨us.map .u ++ List.replicate (n - us.length) .dead, []⟩ { tmps := vs.toArray ++ Array.replicate (n - vs.toArray.size) undef, defers := [] } w := by
  obtain ⟨hl, hg⟩ := ze0 h
  refine ⟨fun t v hv => ?_, by simp [hl], rfl, fun id x hx => (by cases hx), fun i j x y hx => (by cases hx), fun id x hx => (by cases hx), ⟨rfl, rfl, rfl, Nat.le_refl _, fun _ _ _ => rfl⟩⟩
  simp only [List.getElem?_append, List.length_map] at hv
  split at hv
  . rename_i hlt
    rw [List.getElem?_map] at hv
    obtain ⟨u, hu, rfl⟩ := Option.map_eq_some_iff.1 hv
    obtain ⟨z, hz, hh⟩ := hg t u hu
    have e1 : (vs.toArray ++ Array.replicate (n - vs.toArray.size) undef).getD t undef = z := by
      have hlt' : t < vs.length := by omega
      rw [List.getElem?_eq_getElem hlt'] at hz
      cases hz
      simp [Array.getElem_append, hlt', Nat.lt_add_right _ hlt']
    rw [e1]
    exact zhC (X := ⟨P, pd, w, fun _ => False, fun _ => (0, 0, 0, 0)⟩) (fun b hb => ⟨hok b hb, fun h => h⟩) hh
  . obtain ⟨_, rfl⟩ := List.getElem?_eq_some_iff.1 hv
    simp [RV]
theorem zej (h : Sim X ρ s a w) : ∀ (us : List U) (vs : List Value) (k : List U -> Option R), zjw X.pd s us k = some r -> RUs X ρ us vs -> (idUs us).Nodup ->
    ∃ ds cs gs, k ds = some r /\ Split ds vs cs /\ OwnL X.pd.els w (fun b => X.w0.heap.size <= b \/ X.may b) (cellsOf ds) cs gs /\ Blks ρ s (idUs us) gs
  | [], vs, k, hk, hv, _ => by
    cases vs with
    | nil => exact ⟨[], [], [], hk, .nil, .nil, fun g hg => (by cases hg)⟩
    | cons _ _ => exact hv.elim
  | u :: us, vs, k, hk, hv, hnd => by
    cases vs with
    | nil => exact hv.elim
    | cons v vs =>
      unfold zjw at hk
      simp only [idUs, List.nodup_append] at hnd
      obtain ⟨n1, n2, n3⟩ := hnd
      have join : ∀ {g1 gs : List Nat}, Blks ρ s u.ids g1 -> Blks ρ s (idUs us) gs -> Blks ρ s (idUs (u :: us)) (g1 ++ gs) := by
        intro g1 gs b1 b2 g hg
        rcases List.mem_append.1 hg with hg | hg
        . obtain ⟨i, hi, hr⟩ := b1 g hg; exact ⟨i, List.mem_append_left _ hi, hr⟩
        . obtain ⟨i, hi, hr⟩ := b2 g hg; exact ⟨i, List.mem_append_right _ hi, hr⟩
      cases u with
      | c x =>
        have hk' : (match rsR X.pd s x with
          | some (g, y) => must g (zjw X.pd s us fun r => k (.c y :: r))
          | none => none) = some r := hk
        split at hk'
        . rename_i g y hy
          obtain ⟨hg, hk'⟩ := zag hk'
          subst hg
          obtain ⟨ds, cs, gs, k1, k2, k3, k4⟩ := zej h us vs _ hk' hv.2 n2
          obtain ⟨g1, o1, b1⟩ := zq4 h hy hv.1
          exact ⟨.c y :: ds, v :: cs, g1 ++ gs, k1, .c k2, zcp o1 k3 (Blks.apart h b1 k4 fun i hi hj => n3 i hi i hj rfl), join b1 k4⟩
        . cases hk'
      | agg l =>
        obtain ⟨xs, rfl, hx⟩ := hv.1
        obtain ⟨d, g1, k0, o1, b1, hlen⟩ := zdi h l xs.toList (fun r => zjw X.pd s us fun q => k (.agg r :: q)) hk hx n1
        obtain ⟨ds, cs, gs, k1, k2, k3, k4⟩ := zej h us vs _ k0 hv.2 n2
        exact ⟨.agg d :: ds, xs.toList ++ cs, g1 ++ gs, k1, .agg (by rw [hlen, zai hx]) k2, zcp o1 k3 (Blks.apart h b1 k4 fun i hi hj => n3 i hi i hj rfl), join b1 k4⟩
      | vec e l =>
        obtain ⟨xs, rfl, hx⟩ := hv.1
        obtain ⟨ds, cs, gs, k1, k2, k3, k4⟩ := zej h us vs (fun q => k (.vec e l :: q)) hk hv.2 n2
        refine ⟨.vec e l :: ds, xs.toList ++ cs, gs, k1, .vec (zai hx) k2, ?_, join (g1 := []) (fun g hg => (by cases hg)) k4⟩
        have : ∀ (l : List C) (vs : List Value), Vals l vs -> OwnL X.pd.els w (fun b => X.w0.heap.size <= b \/ X.may b) (l ++ cellsOf ds) (vs ++ cs) gs := by
          intro l
          induction l with
          | nil => intro vs h; cases vs with
            | nil => exact k3
            | cons _ _ => exact h.elim
          | cons c l ih => intro vs h; cases vs with
            | nil => exact h.elim
            | cons v vs => exact .sc h.1 (ih vs h.2)
        exact this _ _ (zbt hx)
      | box l => exact hv.1.elim
def resM (a : Act) : ResultVar -> Sem Value
  | .tmp t => pure (a.tmps.getD t undef)
  | .cell b t => do loadVar t (← asAddr (a.tmps.getD b undef))
theorem zlJ (hp : PDok X.P X.pd) (h : Sim X ρ s a w) : ∀ (l : List ResultVar) (us : List U), endV X.pd s l = some us ->
    ∃ vs : List Value, RUs X ρ us vs /\ (l.mapM (resM a)).run X.P w = .ok vs w
  | [], us, he => by
    simp only [endV, oi1] at he
    subst he
    exact ⟨[], trivial, by simp⟩
  | x :: l, us, he => by
    unfold endV at he
    split at he
    . rename_i u hu
      split at he
      . rename_i us' hus
        simp only [oi1] at he
        subst he
        obtain ⟨vs, h1, h2⟩ := zlJ hp h l us' hus
        cases x with
        | tmp t =>
          simp only at hu
          split at hu
          . rename_i u' hs
            simp only [oi1] at hu
            subst hu
            have hv := h.eval t
            rw [hs] at hv
            refine ⟨a.eval (.tmp t) :: vs, ⟨hv, h1⟩, ?_⟩
            rw [List.mapM_cons]
            simp only [resM, Sem.run_bind, Sem.run_pure, Result.andThen_ok, h2]
            rfl
          . cases hu
        | cell b t =>
          simp only at hu
          split at hu
          . rename_i id i sub hs
            split at hu
            . rename_i y hy
              split at hu
              . rename_i g u' hr
                obtain ⟨hg, hu'⟩ := zab hu
                subst hg
                cases hu'
                have hv := h.eval b
                rw [hs] at hv
                obtain ⟨hi, hsub, hv⟩ := hv
                have hv' : a.tmps.getD b undef = .pointer (some ⟨(ρ id).blk, i * (ρ id).sz + sub, none⟩) := hv
                cases hti : X.pd.ti t with
                | none =>
                  exfalso
                  unfold zen at hr
                  split at hr
                  . simp [hti] at hr
                  . unfold zcw at hr; simp [hti] at hr
                | some ti =>
                  have hro := h.ob id y hy
                  obtain ⟨r1, r2⟩ := zg1 hp hti hr hro hi hsub
                  have hTI := hp.ti t ti hti
                  have fin : ∀ cs : List Value, cs.length = ti.size -> (∀ j v, cs[j]? = some v -> w.cell? ⟨(ρ id).blk, i * (ρ id).sz + sub + j, none⟩ = some v) -> RU X ρ u (zbq ti.k.agg cs) ->
                      ∃ vs' : List Value, RUs X ρ (u :: us') vs' /\ ((ResultVar.cell b t :: l).mapM (resM a)).run X.P w = .ok vs' w := by
                    intro cs c1 c2 c3
                    have hrun := zdb hTI w (ρ id).blk (i * (ρ id).sz + sub) cs c1 c2
                    refine ⟨zbq ti.k.agg cs :: vs, ⟨c3, h1⟩, ?_⟩
                    rw [List.mapM_cons]
                    simp only [resM, hv', asAddr, Sem.run_bind, Sem.run_pure, Result.andThen_ok, hrun, h2]
                  rcases Nat.eq_zero_or_pos ti.size with hz | hz
                  . exact fin [] (by simp [hz]) (by simp) (r2 [] (by rw [hz, List.take_zero]; trivial))
                  . obtain ⟨cs, c1, c2, c3⟩ := hro.cell r1 hz
                    exact fin cs c2 c3 (r2 cs c1)
              . cases hu
            . cases hu
          . cases hu
      . cases he
    . cases he
def zj6 : List U -> V
  | [u] => .u u
  | l => .tup l
theorem ze1 (hp : PDok X.P X.pd) (h : Sim X ρ s a w) (fn : Func) (prj : List U -> Option R) (he : zbp X.pd fn prj s = some r) :
    ∃ rs v, prj rs = some r /\ (results fn a.tmps).run X.P w = .ok v w /\ OwnV X.pd.els w (fun b => X.w0.heap.size <= b \/ X.may b) (zj6 rs) v := by
  unfold zbp at he
  split at he
  . rename_i us hus
    obtain ⟨vs, h1, h2⟩ := zlJ hp h _ us hus
    have hrun : (results fn a.tmps).run X.P w = .ok (if h : vs.toArray.size = 1 then vs.toArray[0] else .tuple vs.toArray) w := by
      have e1 : results fn a.tmps = (do
          let vs ← fn.results.mapM (resM a)
          pure (if h : vs.size = 1 then vs[0] else .tuple vs)) := by
        unfold results
        congr 1
      rw [e1, Sem.run_bind, Array.mapM_eq_mapM_toList, Sem.run_map, h2]
      rfl
    split at he
    . rename_i id
      match vs, h1, hrun with
      | [v], ⟨h1, _⟩, hrun =>
        have h1 : RC X ρ (.ptr id 0 0) v := h1
        obtain ⟨hp1, hp2, rfl⟩ := h1
        split at he
        . rename_i nn pty o hg
          have hro := h.ob _ _ hg
          have hB : hasB ρ id ⟨false, nn, pty, o⟩ := .inl rfl
          rcases hro.mem with ⟨m0, _, _⟩ | ⟨xs', ty', cap, m1, m2, m3, m4, m5⟩
          . cases m0
          . split at he
            . rename_i l
              obtain ⟨hc, he⟩ := zab he
              simp only [Bool.and_eq_true] at hc
              have hnd := zcJ hc.2
              obtain ⟨d, g1, k0, o1, b1, hlen⟩ := zdi h l _ (fun r => prj [.box [], .agg r]) he m2 (List.nodup_cons.1 hnd).2
              refine ⟨[.box [], .agg d], _, k0, hrun, .inl ⟨_, _, rfl, (ρ id).blk, xs', ty', g1, by simp, m1, h.own id _ hg hB, ?_, ?_, ?_, ?_, fun e l h => by cases h⟩⟩
              . intro hin
                obtain ⟨i, hi, x, hx, hbx, e1⟩ := b1 _ hin
                exact h.inj i id x _ hx hg (fun e => (List.nodup_cons.1 hnd).1 (e ▸ hi)) hbx hB e1
              . simp only [U.cells, hlen]; exact Nat.lt_of_lt_of_eq (Nat.le_of_ble_eq_true hc.1) rfl
              . simp only [U.cells, hlen]; exact m3
              . simp only [U.cells, hlen]; exact o1
            . rename_i e l
              obtain ⟨hc, he⟩ := zab he
              have hn : 0 < nn := Nat.le_of_ble_eq_true hc
              have hl : l.length = nn := hro.nl rfl (by simp only; omega) e l rfl
              refine ⟨[.box [.len nn], .vec e l], _, he, hrun, .inl ⟨_, _, rfl, (ρ id).blk, xs', ty', [], by simp, m1, h.own id _ hg hB, by simp, ?_, m3, ?_, fun e' l' hh => by cases hh; exact ⟨nn, rfl, hl⟩⟩⟩
              . simp only [U.cells, zaa]; exact Nat.mul_pos (by omega) (zak e)
              . have : ∀ (l : List C) (vs : List Value), Vals l vs -> OwnL X.pd.els w (fun b => X.w0.heap.size <= b \/ X.may b) l vs [] := by
                  intro l
                  induction l with
                  | nil => intro vs h; cases vs with
                    | nil => exact .nil
                    | cons _ _ => exact h.elim
                  | cons c l ih => intro vs h; cases vs with
                    | nil => exact h.elim
                    | cons v vs => exact .sc h.1 (ih vs h.2)
                exact this _ _ (zbt m2)
        . cases he
    rename_i hne
    obtain ⟨hnd, he⟩ := zab he
    obtain ⟨ds, cs, gs, k1, k2, k3, _⟩ := zej h us vs prj he h1 (zcJ hnd)
    refine ⟨ds, _, k1, hrun, ?_⟩
    have hlen : ∀ {ds : List U} {vs cs : List Value}, Split ds vs cs -> ds.length = vs.length := by
      intro ds vs cs h
      induction h with
      | nil => rfl
      | c _ ih => simp [ih]
      | agg _ _ ih => simp [ih]
      | vec _ _ ih => simp [ih]
    have hl := hlen k2
    match ds, vs, k2, k3, hl with
    | [], [], k2, k3, _ => exact .inr ⟨#[], gs, rfl, cs, k2, k3⟩
    | [u], [v], k2, k3, _ => exact ⟨gs, cs, k2, k3⟩
    | u :: u' :: ds, v :: v' :: vs, k2, k3, _ => exact .inr ⟨(v :: v' :: vs).toArray, gs, by rw [dif_neg (by simp)], cs, by simpa using k2, k3⟩
  . cases he
theorem OwnL.mono {els : List (Nat × El)} {B B' : Nat -> Prop} {cs : List C} {vs : List Value} {gs : List Nat} (h : OwnL els w B cs vs gs) (hb : ∀ b, B b -> B' b) : OwnL els w B' cs vs gs := by
  induction h with
  | nil => exact .nil
  | sc h _ ih => exact .sc h ih
  | nilr _ ih => exact .nilr ih
  | len _ ih => exact .len ih
  | row h1 h2 h3 h4 h5 h6 h7 h8 _ ih => exact .row h1 h2 (hb _ h3) h4 h5 h6 h7 h8 ih
  | view h1 h2 h3 h4 h5 h6 h7 _ ih => exact .view h1 (hb _ h2) h3 h4 h5 h6 h7 ih
  | room h1 h2 h3 h4 h5 h6 h7 _ ih => exact .room h1 (hb _ h2) h3 h4 h5 h6 h7 ih
theorem OwnV.mono {els : List (Nat × El)} {B B' : Nat -> Prop} {v : V} {x : Value} (h : OwnV els w B v x) (hb : ∀ b, B b -> B' b) : OwnV els w B' v x := by
  cases v with
  | u y => obtain ⟨gs, cs, h1, h2⟩ := h; exact ⟨gs, cs, h1, h2.mono hb⟩
  | tup l =>
    rcases h with ⟨m, u, hl, g, xs, ty, gs, h1, h2, h3, h4, h5, h6, h7, h8⟩ | ⟨vs, gs, h0, cs, h1, h2⟩
    . exact .inl ⟨m, u, hl, g, xs, ty, gs, h1, h2, hb _ h3, h4, h5, h6, h7.mono hb, h8⟩
    . exact .inr ⟨vs, gs, h0, cs, h1, h2.mono hb⟩
  | dead => trivial
theorem zsD {P : Program} {pd : PD} (hp : PDok P pd) (henv : ∀ f g, env f = some g -> SgOK P pd.els f g) {f : FuncId} {fn : Func} (hf : P.funcs[f]? = some fn) (hname : fn.name ≠ "runtime.NumGoroutine") (g : Sg) (hmode : g.mode = 0) (prj : List U -> Option g.R)
    (hprj : ∀ rs r, prj rs = some r -> g.res r = zj6 rs) (N : Nat) (tab : List (Nat × Head)) (d : Nat) (hrun : ∀ us r, g.run us = some r -> zgV pd env fn prj (mkLp pd env (zbp pd fn prj) N tab d) us = some r) : zjH P pd.els f g := by
  refine ⟨fun _ => ?_, fun h => absurd hmode h, fun h => by rw [hmode] at h; cases h⟩
  intro us r hr w vs ok hok hh
  have hr' := hrun us r hr
  unfold zgV at hr'
  split at hr'
  . rename_i c hc
    intro o a K Q hK
    have hcall : (callFunc f vs.toArray).run P w = .ok (.enter f vs.toArray) w := by
      simp [callFunc, run_program, hf, hname, hc]
    rw [hcall, Oper.upon_enter]
    have hcalls : Calls P f vs.toArray w fun
        | .returned v, w' => OwnV pd.els w' (fun b => w.heap.size <= b) (g.res r) v /\ Kept w w'
        | _, _ => False := by
      refine calls_of_wp hf hc ?_
      have hs := zhD (P := P) (pd := pd) hok hh fn.ntmps
      have fin : ∀ (s : St) (ρ : Nat -> RI) (a : Act) (w' : World), zbp pd fn prj s = some r -> Sim ⟨P, pd, w, fun _ => False, fun _ => (0, 0, 0, 0)⟩ ρ s a w' -> a.defers = [] /\ ∃ v, (results fn a.tmps).run P w' = .ok v w' /\ (OwnV pd.els w' (fun b => w.heap.size <= b) (g.res r) v /\ Kept w w') := by
        intro s ρ a w' he hs
        obtain ⟨rs, v, h1, h2, h3⟩ := ze1 (X := ⟨P, pd, w, fun _ => False, fun _ => (0, 0, 0, 0)⟩) hp hs fn prj he
        refine ⟨hs.df, v, h2, ?_, ⟨hs.fr.os, hs.fr.tape, hs.fr.output, hs.fr.size, fun k hk => hs.fr.block k hk fun h => h⟩⟩
        rw [hprj rs r h1]; exact h3.mono fun b hb => hb.resolve_right fun h => h
      refine (zhB (X := ⟨P, pd, w, fun _ => False, fun _ => (0, 0, 0, 0)⟩) hp henv (zgB hp henv N tab d) c).1 _ _ _ _ _ _ hr' hs ?_ ?_
      . intro e s' ρ' a' w' he hs'
        cases e with
        | normal => exact fin s' ρ' a' w' he hs'
        | exit id => cases he
        | goto l => cases he
        | fall => exact fun hf => hf.elim
      . exact fun s' ρ' a' w' he hs' => fin s' ρ' a' w' he hs'
    refine hcalls.mono fun e w' he => ?_
    cases e with
    | returned v => exact hK v w' he
    | panicked ch => exact he.elim
    | outgrown => exact he.elim
  . cases hr'
theorem znS {P : Program} {pd : PD} (hp : PDok P pd) (henv : ∀ f g, env f = some g -> SgOK P pd.els f g) {f : FuncId} {fn : Func} (hf : P.funcs[f]? = some fn) (hname : fn.name ≠ "runtime.NumGoroutine") (g : Sg) (hmode : g.mode = 0) (prj : List U -> Option g.R)
    (hprj : ∀ rs r, prj rs = some r -> g.res r = zj6 rs) (N : Nat) (tab : List (Nat × Head)) (d : Nat) (hrun : ∀ us r, g.run us = some r -> zgV pd env fn prj (mkLp pd env (zbp pd fn prj) N tab d) us = some r)
    (us : List U) (r : g.R) (hr : g.run us = some r) (w : World) (vs : List Value) (ok : Nat -> Prop) (hok : ∀ b, ok b -> b < w.heap.size) (hh : zaL w ok us vs) :
    Calls P f vs.toArray w fun
        | .returned v, w' => OwnV pd.els w' (fun b => w.heap.size <= b) (g.res r) v /\ Kept w w'
        | _, _ => False := by
  have hr' := hrun us r hr
  unfold zgV at hr'
  split at hr'
  . rename_i c hc
    refine calls_of_wp hf hc ?_
    have hs := zhD (P := P) (pd := pd) hok hh fn.ntmps
    have fin : ∀ (s : St) (ρ : Nat -> RI) (a : Act) (w' : World), zbp pd fn prj s = some r -> Sim ⟨P, pd, w, fun _ => False, fun _ => (0, 0, 0, 0)⟩ ρ s a w' -> a.defers = [] /\ ∃ v, (results fn a.tmps).run P w' = .ok v w' /\ (OwnV pd.els w' (fun b => w.heap.size <= b) (g.res r) v /\ Kept w w') := by
      intro s ρ a w' he hs
      obtain ⟨rs, v, h1, h2, h3⟩ := ze1 (X := ⟨P, pd, w, fun _ => False, fun _ => (0, 0, 0, 0)⟩) hp hs fn prj he
      refine ⟨hs.df, v, h2, ?_, ⟨hs.fr.os, hs.fr.tape, hs.fr.output, hs.fr.size, fun k hk => hs.fr.block k hk fun h => h⟩⟩
      rw [hprj rs r h1]; exact h3.mono fun b hb => hb.resolve_right fun h => h
    refine (zhB (X := ⟨P, pd, w, fun _ => False, fun _ => (0, 0, 0, 0)⟩) hp henv (zgB hp henv N tab d) c).1 _ _ _ _ _ _ hr' hs ?_ ?_
    . intro e s' ρ' a' w' he hs'
      cases e with
      | normal => exact fin s' ρ' a' w' he hs'
      | exit id => cases he
      | goto l => cases he
      | fall => exact fun hf => hf.elim
    . exact fun s' ρ' a' w' he hs' => fin s' ρ' a' w' he hs'
  . cases hr'
theorem zlK {X : Ctx} {ρ : Nat -> RI} (vv : List V) (vs : List Value) (hl : vv.length = vs.length) (hg : ∀ (j : Nat) (v : V), vv[j]? = some v -> ∃ z, vs[j]? = some z /\ RV X ρ v z) (n : Nat) :
    Sim X ρ ⟨vv ++ List.replicate (n - vv.length) .dead, []⟩ { tmps := vs.toArray ++ Array.replicate (n - vs.toArray.size) undef, defers := [] } X.w0 := by
  refine ⟨fun t v hv => ?_, by simp [hl], rfl, fun id x hx => (by cases hx), fun i j x y hx => (by cases hx), fun id x hx => (by cases hx), ⟨rfl, rfl, rfl, Nat.le_refl _, fun _ _ _ => rfl⟩⟩
  simp only [List.getElem?_append] at hv
  split at hv
  . rename_i hlt
    obtain ⟨z, hz, hh⟩ := hg t v hv
    have e1 : (vs.toArray ++ Array.replicate (n - vs.toArray.size) undef).getD t undef = z := by
      have hlt' : t < vs.length := by omega
      rw [List.getElem?_eq_getElem hlt'] at hz
      cases hz
      simp [Array.getElem_append, hlt', Nat.lt_add_right _ hlt']
    rw [e1]
    exact hh
  . obtain ⟨_, rfl⟩ := List.getElem?_eq_some_iff.1 hv
    simp [RV]
theorem zhE {w : World} {ok : Nat -> Prop} {c : C} {v : Value} (h : Holds w ok c v) (id : Nat) : c.men id = false := by
  cases h with
  | sc h => cases c <;> first | rfl | (simp [C.val] at h)
  | ro => rfl
  | emp => rfl
  | rt => rfl
  | rtemp => rfl
theorem zj7 {w : World} {ok : Nat -> Prop} {l : List C} {vs : List Value} (h : zbd w ok l vs) (id : Nat) : anyC (C.men id) l = false := by
  induction l generalizing vs with
  | nil => rfl
  | cons c l ih => cases vs with
    | nil => exact h.elim
    | cons v vs => simp [anyC, zhE h.1 id, ih h.2]
theorem ziv {w : World} {ok : Nat -> Prop} {us : List U} {vs : List Value} (h : zaL w ok us vs) (id : Nat) : zbu id (us.map .u) = false := by
  induction us generalizing vs with
  | nil => rfl
  | cons u us ih => cases vs with
    | nil => exact h.elim
    | cons v vs =>
      have h1 : u.men id = false := by
        cases u with
        | c x => exact zhE h.1 id
        | agg l => obtain ⟨_, _, h⟩ := h.1; exact zj7 h id
        | vec e l => rfl
        | box l => exact h.1.elim
      simp [zbu, V.men, h1, ih h.2]
theorem zhF {l m : List V} {id : Nat} (h1 : zbu id l = false) (h2 : zbu id m = false) : zbu id (l ++ m) = false := by
  induction l with
  | nil => exact h2
  | cons v l ih =>
    simp only [zbu, List.cons_append] at h1 ⊢
    cases hv : v.men id with
    | true => simp [hv] at h1
    | false => simp only [hv, cond_false] at h1 ⊢; exact ih h1
theorem zj8 (n id : Nat) : zbu id (List.replicate n .dead) = false := by
  induction n with
  | zero => rfl
  | succ n ih => simp [List.replicate_succ, zbu, V.men, ih]
where
  zgt {pd : PD} {n m : Nat} {l ds : List C} {obs : List (Nat × Ob)} (h : abCs pd n l = some (ds, obs, m)) : ds.length = l.length := by
    induction l generalizing n m ds obs with
    | nil => simp only [abCs, oi1, pi1] at h; rw [← h.1]
    | cons c l ih =>
      simp only [abCs] at h
      split at h
      . split at h
        . rename_i hr
          simp only [oi1, pi1] at h
          obtain ⟨rfl, _, _⟩ := h
          simp [ih hr]
        . cases h
      . cases h
end
section
variable {X : Ctx} {ρ : Nat -> RI} {s : St} {a : Act} {w : World} {R : Type} {env : Nat -> Option Sg} {ret : St -> Option R} {r : R}
def At (ρ : Nat -> RI) : Nat -> List Hd -> Prop
  | _, [] => True
  | i, h :: l => ρ i = ⟨h.b, .bool true, h.u.length, 1⟩ /\ At ρ (i + 1) l
theorem At.congr {ρ ρ' : Nat -> RI} : ∀ {hs : List Hd} {i : Nat}, (∀ j, i <= j -> j < i + hs.length -> ρ' j = ρ j) -> At ρ i hs -> At ρ' i hs
  | [], _, _, _ => trivial
  | h :: l, i, hc, ⟨h1, h2⟩ => ⟨by rw [hc i (Nat.le_refl _) (by simp)]; exact h1, At.congr (fun j a b => hc j (by omega) (by simp; omega)) h2⟩
def RVs (X : Ctx) (ρ : Nat -> RI) : List V -> List Value -> Prop
  | [], [] => True
  | v :: l, x :: xs => RV X ρ v x /\ RVs X ρ l xs
  | _, _ => False
theorem RVs.get : ∀ {l : List V} {xs : List Value}, RVs X ρ l xs -> l.length = xs.length /\ ∀ (j : Nat) (v : V), l[j]? = some v -> ∃ z, xs[j]? = some z /\ RV X ρ v z
  | [], [], _ => ⟨rfl, fun j v h => by simp at h⟩
  | [], _ :: _, h => h.elim
  | _ :: _, [], h => h.elim
  | v :: l, x :: xs, ⟨h1, h2⟩ => by
    obtain ⟨h3, h4⟩ := RVs.get h2
    refine ⟨by simp [h3], fun j u hu => ?_⟩
    cases j with
    | zero => simp at hu; subst hu; exact ⟨x, rfl, h1⟩
    | succ j => simpa using h4 j u (by simpa using hu)
theorem zj9 {P : Program} {pd : PD} {w : World} {ok : Nat -> Prop} {e : El} {l : List e.T} {m b : Nat} {us : List U} {vs : List Value} {xs : Array Value} {ty : TypeId} (hok : ∀ c, ok c -> c < w.heap.size /\ c ≠ b) (hus : zaL w ok us vs) (hm : w.heap[b]? = some (.cells xs ty (0, 0)))
    (hle : l.length * e.size <= xs.size) (hV : Vals (flat e l) (xs.toList.take (l.length * e.size))) (hml : m <= l.length) (hmax : l.length <= maxLen) {n : Nat} {s : St} (hs : zkO (.c (.rop e l 1 m) :: us) n = some s) :
    ∃ ρ, Sim ⟨P, pd, w, fun k => k = b, fun _ => (0, 0, 0, 0)⟩ ρ s { tmps := (Value.slice (some ⟨b, 0, none⟩) m l.length :: vs).toArray ++ Array.replicate (n - (Value.slice (some ⟨b, 0, none⟩) m l.length :: vs).toArray.size) undef, defers := [] } w := by
  simp only [zkO, oi1] at hs
  subst hs
  obtain ⟨hl, hget⟩ := ze0 hus
  generalize hXd : (⟨P, pd, w, fun k => k = b, fun _ => (0, 0, 0, 0)⟩ : Ctx) = X
  have hXw : X.w0 = w := by rw [← hXd]
  have hXmay : ∀ k, X.may k ↔ k = b := fun k => by rw [← hXd]
  have hXok : ∀ c, ok c -> X.ok c := fun c hc => ⟨by rw [hXw]; exact (hok c hc).1, fun hmy => (hok c hc).2 ((hXmay c).1 hmy)⟩
  have h0 : Sim X (fun _ => ⟨0, undef, 0, 0⟩) ⟨(.dead :: us.map .u) ++ List.replicate (n - (us.length + 1)) .dead, []⟩ { tmps := (Value.slice (some ⟨b, 0, none⟩) m l.length :: vs).toArray ++ Array.replicate (n - (Value.slice (some ⟨b, 0, none⟩) m l.length :: vs).toArray.size) undef, defers := [] } w := by
    have := zlK (X := X) (ρ := fun _ => ⟨0, undef, 0, 0⟩) (.dead :: us.map .u) (Value.slice (some ⟨b, 0, none⟩) m l.length :: vs) (by simp [hl]) (fun j v hv => by
      cases j with
      | zero => simp at hv; subst hv; exact ⟨_, rfl, trivial⟩
      | succ j =>
        simp only [List.getElem?_cons_succ, List.getElem?_map] at hv
        obtain ⟨u, hu, rfl⟩ := Option.map_eq_some_iff.1 hv
        obtain ⟨z, hz, hh⟩ := hget j u hu
        refine ⟨z, by simpa using hz, ?_⟩
        exact zhC (X := X) hXok (by rw [hXw]; exact hh)) n
    rw [hXw] at this
    simpa using this
  have hmen0 : St.men ⟨(.dead :: us.map .u) ++ List.replicate (n - (us.length + 1)) .dead, []⟩ 0 = false := by
    unfold St.men
    have : zbu 0 ((.dead :: us.map .u) ++ List.replicate (n - (us.length + 1)) .dead) = false := zhF (by simp [zbu, V.men, ziv hus 0]) (zj8 _ _)
    simp only [this, cond_false, zaZ]
  have hcells : (O.vec e l).cells.length <= xs.size := by simp only [O.cells, zaa]; exact hle
  have h1 := h0.add 0 ⟨false, 0, 0, .vec e l⟩ ⟨b, undef, e.size, l.length⟩ hmen0 ⟨by rw [zac]; rfl, by rw [zac]; rfl, (fun _ hk => absurd rfl hk), (fun h => by cases h), .inr ⟨xs, ty, 0, by rw [zac]; exact hm, by simp only [O.cells, zaa]; exact zde hV, hcells, (fun _ => ⟨hcells, fun h => absurd h (show ¬ PIN <= 0 by decide)⟩), (fun h => by cases h)⟩⟩
    (fun _ => ⟨fun j y hy => (by cases hy), .inr ((hXmay b).2 rfl)⟩)
  refine ⟨_, h1.put0 0 _ ?_⟩
  show RC X _ (.slc 0 0 m l.length) _
  simp only [RC, zac]
  refine ⟨hml, hmax, by omega, ?_⟩
  rw [Array.getD_eq_getD_getElem?, Array.getElem?_append_left (by simp)]
  simp
theorem zrf {P : Program} {pd : PD} (hp : PDok P pd) (henv : ∀ f g, env f = some g -> SgOK P pd.els f g) {f : FuncId} {fn : Func} (hf : P.funcs[f]? = some fn) (hname : fn.name ≠ "runtime.NumGoroutine") (g : Sg) (prj : List U -> Option g.R)
    (hprj : ∀ rs r, prj rs = some r -> g.res r = zj6 rs) (N : Nat) (tab : List (Nat × Head)) (d : Nat) (hrun : ∀ us r, g.run us = some r -> zkP pd env fn prj (mkLp pd env (zbp pd fn prj) N tab d) us = some r) : zk8 P pd.els f g := by
  intro e0 l0 n0 us0 r hr w b xs ty vs0 ok hok hus hm hle hV hn0 hmax
  have hr' := hrun _ r hr
  unfold zkP at hr'
  split at hr'
  case h_2 => cases hr'
  rename_i c hc
  split at hr'
  case h_2 => cases hr'
  rename_i s hst
  intro o a K Q hK
  have hcall : (callFunc f (Value.slice (some ⟨b, 0, none⟩) n0 l0.length :: vs0).toArray).run P w = .ok (.enter f (Value.slice (some ⟨b, 0, none⟩) n0 l0.length :: vs0).toArray) w := by
    simp [callFunc, run_program, hf, hname, hc]
  show o.upon P a K Q ((callFunc f (Value.slice (some ⟨b, 0, none⟩) n0 l0.length :: vs0).toArray).run P w)
  rw [hcall, Oper.upon_enter]
  have hcalls : Calls P f (Value.slice (some ⟨b, 0, none⟩) n0 l0.length :: vs0).toArray w fun
      | .returned v, w' => OwnV pd.els w' (fun c => w.heap.size <= c \/ c = b) (g.res r) v /\ KeptX [b] w w'
      | _, _ => False := by
    refine calls_of_wp hf hc ?_
    obtain ⟨ρ, hsim⟩ := zj9 (P := P) (pd := pd) hok hus hm hle hV hn0 hmax hst
    have fin : ∀ (s : St) (ρ : Nat -> RI) (a : Act) (w' : World), zbp pd fn prj s = some r -> Sim ⟨P, pd, w, fun k => k = b, fun _ => (0, 0, 0, 0)⟩ ρ s a w' -> a.defers = [] /\ ∃ v, (results fn a.tmps).run P w' = .ok v w' /\ (OwnV pd.els w' (fun c => w.heap.size <= c \/ c = b) (g.res r) v /\ KeptX [b] w w') := by
      intro s ρ a w' he hs'
      obtain ⟨rs, v, h1, h2, h3⟩ := ze1 (X := ⟨P, pd, w, fun k => k = b, fun _ => (0, 0, 0, 0)⟩) hp hs' fn prj he
      refine ⟨hs'.df, v, h2, ?_, ⟨hs'.fr.os, hs'.fr.tape, hs'.fr.output, hs'.fr.size, fun k hk hn => hs'.fr.block k hk fun h => hn (List.mem_singleton.2 h)⟩⟩
      rw [hprj rs r h1]; exact h3.mono fun b hb => hb
    refine (zhB (X := ⟨P, pd, w, fun k => k = b, fun _ => (0, 0, 0, 0)⟩) hp henv (zgB hp henv N tab d) c).1 _ _ _ _ _ _ hr' hsim ?_ ?_
    . intro e s' ρ' a' w' he hs'
      cases e with
      | normal => exact fin s' ρ' a' w' he hs'
      | exit id => cases he
      | goto l => cases he
      | fall => exact fun hf => hf.elim
    . exact fun s' ρ' a' w' he hs' => fin s' ρ' a' w' he hs'
  refine hcalls.mono fun e w' he => ?_
  cases e with
  | returned v => exact hK v w' he
  | panicked ch => exact he.elim
  | outgrown => exact he.elim
end
section
def zp3 (v : Value) (c : C) : Bool :=
  match c with
  | .ro _ l => match l, v with
    | [], .slice none n k => Nat.beq n 0 && Nat.beq k 0
    | _, _ => false
  | .u64 x => match v with
    | .int .u64 n => decide (n = (x.toNat : Int))
    | _ => false
  | .u32 x => match v with
    | .int .u32 n => decide (n = (x.toNat : Int))
    | _ => false
  | .u8 x => match v with
    | .int .u8 n => decide (n = (x.toNat : Int))
    | _ => false
  | .int m => match v with
    | .int .i64 n => decide (n = m)
    | _ => false
  | .bool b => match v with
    | .bool d => b == d
    | _ => false
  | .str l => match v, l with
    | .string s, [] => Nat.beq s.data.toList.length 0
    | _, _ => false
  | .nilp => match v with
    | .pointer none => true
    | _ => false
  | _ => false
theorem znT {v : Value} {c : C} (h : zp3 v c = true) : zkS v c := by
  unfold zp3 at h
  split at h
  . split at h
    . simp only [Bool.and_eq_true] at h
      show _ = Value.slice none 0 0
      rw [Nat.beq_true h.1, Nat.beq_true h.2]
    . cases h
  . split at h
    . simp only [decide_eq_true_eq] at h
      subst h; rfl
    . cases h
  . split at h
    . simp only [decide_eq_true_eq] at h
      subst h; rfl
    . cases h
  . split at h
    . simp only [decide_eq_true_eq] at h
      subst h; rfl
    . cases h
  . split at h
    . simp only [decide_eq_true_eq] at h
      subst h; rfl
    . cases h
  . split at h
    . simp only [beq_iff_eq] at h
      subst h; rfl
    . cases h
  . split at h
    . rename_i s
      have h1 := List.eq_nil_of_length_eq_zero (Nat.beq_true h)
      show some (Value.string ⟨#[]⟩) = some (Value.string s)
      obtain ⟨⟨l⟩⟩ := s
      simp only at h1
      subst h1; rfl
    . cases h
  . split at h
    . rfl
    . cases h
  . cases h
def zjg : List Value -> List C -> Bool
  | [], [] => true
  | v :: vs, c :: cs => zp3 v c && zjg vs cs
  | _, _ => false
theorem zlL {vs : List Value} {cs : List C} (h : zjg vs cs = true) : zfv vs cs := by
  induction vs generalizing cs with
  | nil => cases cs with
    | nil => trivial
    | cons _ _ => cases h
  | cons v vs ih => cases cs with
    | nil => cases h
    | cons c cs =>
      simp only [zjg, Bool.and_eq_true] at h
      exact ⟨znT h.1, ih h.2⟩
def zjh : List (Nat × TypeId) -> List (Nat × TypeId) -> Bool
  | [], [] => true
  | (a, b) :: l, (c, d) :: m => (Nat.beq a c && Nat.beq b d) && zjh l m
  | _, _ => false
theorem zlM {l m : List (Nat × TypeId)} (h : zjh l m = true) : l = m := by
  induction l generalizing m with
  | nil => cases m with
    | nil => rfl
    | cons _ _ => cases h
  | cons p l ih => cases m with
    | nil => cases h
    | cons q m =>
      obtain ⟨a, b⟩ := p
      obtain ⟨c, d⟩ := q
      simp only [zjh, Bool.and_eq_true] at h
      rw [Nat.beq_true h.1.1, Nat.beq_true h.1.2, ih h.2]
def zgC (P : Program) (t : TypeId) (k : TK) : Bool :=
  match k with
  | .int k => match P.underlying t with
    | some (.int k') => decide (k' = k)
    | _ => false
  | .bool => match P.underlying t with
    | some .bool => true
    | _ => false
  | .str => match P.underlying t with
    | some .string => true
    | _ => false
  | .slice e => match P.underlying t with
    | some (.slice e') => Nat.beq e' e
    | _ => false
  | .arr n e => match P.underlying t with
    | some (.array n' e') => (Nat.beq n' n && Nat.beq e' e) && !P.eqGuardType P.depth t
    | _ => false
  | .struct fs => match P.underlying t with
    | some (.struct fields) => (zjh (fields.toList.map fun f => (f.offset, f.type)) fs && fields.toList.all (fun f => f.name != "_" && (P.info? f.type).isSome)) && (!P.eqGuardType P.depth t && !P.stoodInHeld t)
    | _ => false
  | .ptr e => match P.underlying t with
    | some (.pointer e') => Nat.beq e' e
    | _ => false
theorem znU {P : Program} {t : TypeId} {k : TK} (h : zgC P t k = true) : zfu P t k := by
  cases k with
  | int k =>
    simp only [zgC] at h
    split at h
    . rename_i k' hk; simp only [decide_eq_true_eq] at h; subst h; exact hk
    . cases h
  | bool =>
    simp only [zgC] at h
    split at h
    . rename_i hk; exact hk
    . cases h
  | str =>
    simp only [zgC] at h
    split at h
    . rename_i hk; exact hk
    . cases h
  | slice e =>
    simp only [zgC] at h
    split at h
    . rename_i e' hk; rw [Nat.beq_true h] at hk; exact hk
    . cases h
  | arr n e =>
    simp only [zgC] at h
    split at h
    . rename_i n' e' hk
      simp only [Bool.and_eq_true, Bool.not_eq_true'] at h
      rw [Nat.beq_true h.1.1, Nat.beq_true h.1.2] at hk
      exact ⟨hk, h.2⟩
    . cases h
  | struct fs =>
    simp only [zgC] at h
    split at h
    . rename_i fields hk
      simp only [Bool.and_eq_true, Bool.not_eq_true'] at h
      exact ⟨⟨fields, hk, zlM h.1.1, h.1.2⟩, h.2.1, h.2.2⟩
    . cases h
  | ptr e =>
    simp only [zgC] at h
    split at h
    . rename_i e' hk; rw [Nat.beq_true h] at hk; exact hk
    . cases h
def Value.isAgg : Value -> Bool
  | .agg _ => true
  | _ => false
def tiB (P : Program) (t : TypeId) (ti : TI) : Bool :=
  zgC P t ti.k && (Nat.beq ti.zero.length ti.size && (match P.info? t with
    | some i => Nat.beq i.size ti.size && (Nat.beq i.bytes ti.bytes && (match i.zero with
      | some z => zjg z.cells.toList ti.zero && (Value.isAgg z == ti.k.agg)
      | none => false))
    | none => false))
theorem zrg {P : Program} {t : TypeId} {ti : TI} (h : tiB P t ti = true) : TIok P t ti := by
  unfold tiB at h
  simp only [Bool.and_eq_true] at h
  obtain ⟨h1, h2, h3⟩ := h
  refine ⟨znU h1, ?_, Nat.beq_true h2⟩
  split at h3
  . rename_i i hi
    simp only [Bool.and_eq_true] at h3
    obtain ⟨h4, h5, h6⟩ := h3
    split at h6
    . rename_i z hz
      simp only [Bool.and_eq_true, beq_iff_eq] at h6
      refine ⟨i, z, hi, Nat.beq_true h4, Nat.beq_true h5, hz, zlL h6.1, fun ha => ?_, fun ha => ?_⟩
      . rw [ha] at h6
        cases z <;> simp [Value.isAgg] at h6
        exact ⟨_, rfl⟩
      . rw [ha] at h6
        cases z <;> first | rfl | simp [Value.isAgg] at h6
    . cases h6
  . cases h3
def eqCB : C -> C -> Bool
  | .u64 x, .u64 y => x == y
  | .u32 x, .u32 y => x == y
  | .u8 x, .u8 y => x == y
  | .int x, .int y => decide (x = y)
  | .bool x, .bool y => x == y
  | _, _ => false
def zka : List C -> List C -> Bool
  | [], [] => true
  | a :: l, b :: m => eqCB a b && zka l m
  | _, _ => false
theorem zgD {l m : List C} (h : zka l m = true) : l = m := by
  induction l generalizing m with
  | nil => cases m with
    | nil => rfl
    | cons _ _ => cases h
  | cons a l ih => cases m with
    | nil => cases h
    | cons b m =>
      simp only [zka, Bool.and_eq_true] at h
      have : a = b := by
        have h1 := h.1
        unfold eqCB at h1
        split at h1 <;> first | (cases h1; done) | (simp at h1; rw [h1])
      rw [this, ih h.2]
def pdB (P : Program) (pd : PD) : Bool :=
  pd.tys.all (fun p => tiB P p.1 p.2 && wfTI pd p.2) && (pd.els.all (fun p => (match pd.ti p.1 with
      | some ti => Nat.beq ti.size p.2.size && zka ti.zero (p.2.toC p.2.zero)
      | none => false) && (match pd.el p.1 with
      | some e => Nat.beq e.idx p.2.idx
      | none => false)) && ((match pd.ti 3 with
      | some ti => zka ti.zero [.int 0]
      | none => false) && ((match pd.ti 4 with
      | some ti => zka ti.zero [.bool false]
      | none => false) && P.follows .mixedOrders)))
theorem znV {e : El} {l : List (Nat × El)} {t : Nat} (h : elTy e l = some t) : ∃ f, (t, f) ∈ l /\ e = f := by
  induction l with
  | nil => cases h
  | cons p l ih =>
    obtain ⟨j, f⟩ := p
    unfold elTy at h
    cases hb : Nat.beq e.idx f.idx with
    | true => rw [hb] at h; simp only [cond_true, oi1] at h; subst h; exact ⟨f, List.mem_cons_self, zdC hb⟩
    | false =>
      rw [hb] at h
      obtain ⟨f', h1, h2⟩ := ih h
      exact ⟨f', List.mem_cons_of_mem _ h1, h2⟩
theorem zrh {P : Program} {pd : PD} (h : pdB P pd = true) : PDok P pd := by
  unfold pdB at h
  simp only [Bool.and_eq_true, List.all_eq_true] at h
  obtain ⟨h1, h2, h3, h4, h5⟩ := h
  refine ⟨fun t ti ht => zrg (h1 _ (zbX ht)).1, fun t ti ht => (h1 _ (zbX ht)).2, fun t e he => ?_, fun t e he => ?_, ?_, ?_, h5⟩
  . have := (h2 _ (zbX he)).1
    simp only at this
    split at this
    . rename_i ti hti
      simp only [Bool.and_eq_true] at this
      exact ⟨ti, hti, Nat.beq_true this.1, zgD this.2⟩
    . cases this
  . obtain ⟨f, hf, rfl⟩ := znV he
    have := (h2 _ hf).2
    simp only at this
    split at this
    . rename_i g hg; rw [hg, zdC this]
    . cases this
  . split at h3
    . rename_i ti hti; exact ⟨ti, hti, zgD h3⟩
    . cases h3
  . split at h4
    . rename_i ti hti; exact ⟨ti, hti, zgD h4⟩
    . cases h4
end
section
def addS (x y c : UInt64) : UInt64 := UInt64.ofNat ((x.toNat + y.toNat + c.toNat) % 18446744073709551616)
def addC (x y c : UInt64) : UInt64 := UInt64.ofNat ((x.toNat + y.toNat + c.toNat) / 18446744073709551616)
def subS (x y c : UInt64) : UInt64 := UInt64.ofNat ((x.toNat + 18446744073709551616 - y.toNat - c.toNat) % 18446744073709551616)
def subC (x y c : UInt64) : UInt64 := cond (ltN x.toNat (y.toNat + c.toNat)) 1 0
def sg3 (f : UInt64 -> UInt64 -> UInt64 -> Option (UInt64 × UInt64)) : Sg := ⟨UInt64 × UInt64, 0, fun us => match us with
  | [.c (.u64 x), .c (.u64 y), .c (.u64 c)] => f x y c
  | _ => none, fun r => .tup [.c (.u64 r.1), .c (.u64 r.2)]⟩
def kAdd (x y c : UInt64) : Option (UInt64 × UInt64) := cond (leN c.toNat 1) (some (addS x y c, addC x y c)) none
def kSub (x y c : UInt64) : Option (UInt64 × UInt64) := cond (leN c.toNat 1) (some (subS x y c, subC x y c)) none
theorem znW {f : UInt64 -> UInt64 -> UInt64 -> Option (UInt64 × UInt64)} {us : List U} {r : UInt64 × UInt64} (h : (sg3 f).run us = some r) : ∃ x y c, us = [.c (.u64 x), .c (.u64 y), .c (.u64 c)] /\ f x y c = some r := by
  simp only [sg3] at h
  split at h
  . rename_i x y c; exact ⟨x, y, c, rfl, h⟩
  . cases h
theorem zp4 {w : World} {ok : Nat -> Prop} {c : C} {v u : Value} (hu : c.val = some u) (h : Holds w ok c v) : v = u := by
  cases h with
  | sc h => rw [hu] at h; cases h; rfl
  | ro => cases hu
  | emp => cases hu
  | rt => cases hu
  | rtemp => cases hu
theorem znX {w : World} {ok : Nat -> Prop} {x y c : UInt64} {vs : List Value} (h : zaL w ok [.c (.u64 x), .c (.u64 y), .c (.u64 c)] vs) : vs = [.int .u64 x.toNat, .int .u64 y.toNat, .int .u64 c.toNat] := by
  match vs, h with
  | [a, b, d], ⟨h1, h2, h3, _⟩ =>
    rw [zp4 rfl h1, zp4 rfl h2, zp4 rfl h3]
theorem zri {P : Program} {f : FuncId} {vs : List Value} {w : World} {R : Value -> World -> Prop} {v : Value} (h : (callFunc f vs.toArray).run P w = .ok (.value v) w) (hv : R v w) : zcA P f vs.toArray w R := by
  intro o a K Q hK
  rw [h]
  exact hK v w hv
theorem znY {els : List (Nat × El)} {w : World} (x y : UInt64) : OwnV els w (fun b => w.heap.size <= b) (.tup [.c (.u64 x), .c (.u64 y)]) (.tuple #[.int .u64 x.toNat, .int .u64 y.toNat]) :=
  .inr ⟨#[.int .u64 x.toNat, .int .u64 y.toNat], [], rfl, [.int .u64 x.toNat, .int .u64 y.toNat], .c (.c .nil), .sc rfl (.sc rfl .nil)⟩
theorem zlN (w : World) : Kept w w := ⟨rfl, rfl, rfl, Nat.le_refl _, fun _ _ => rfl⟩
theorem ofN (n : Nat) (h : n < 18446744073709551616) : (UInt64.ofNat n).toNat = n := by simp; omega
theorem zlO {P : Program} {els : List (Nat × El)} {f : FuncId} {fn : Func} (hf : P.funcs[f]? = some fn) (h1 : (fn.name == "runtime.NumGoroutine") = false) (h2 : fn.body.isNone = true) (h3 : Extern.findNext fn = none) (h4 : Extern.find fn = some add64Entry) : zjH P els f (sg3 kAdd) := by
  refine ⟨fun _ => ?_, fun h => absurd rfl h, fun h => by cases h⟩
  intro us r hr w vs ok _ hh
  obtain ⟨x, y, c, rfl, hc⟩ := znW hr
  obtain ⟨hc1, hc2⟩ := zab hc
  cases hc2
  have hc1' : c.toNat <= 1 := by simpa [leN] using hc1
  have hx := UInt64.toNat_lt x
  have hy := UInt64.toNat_lt y
  rw [znX hh]
  refine zri (v := .tuple #[.int .u64 (addS x y c).toNat, .int .u64 (addC x y c).toNat]) ?_ ⟨znY _ _, zlN w⟩
  rw [run_callFunc_extern hf h1 h2 h3 h4, run_add64 _ _ _ (by omega) (by omega) (by omega) (by omega)]
  simp only [Result.andThen]
  rw [addS, addC, ofN _ (Nat.mod_lt _ (by decide)), ofN _ (by omega)]
  congr 5
theorem znZ {P : Program} {els : List (Nat × El)} {F f : FuncId} {fn : Func} (hf : P.funcs[f]? = some fn) (h1 : (fn.name == "runtime.NumGoroutine") = false) (h2 : fn.body.isNone = true) (h3 : Extern.findNext fn = none) (h4 : Extern.find fn = some add64Entry) (hF : F % 1000000 = f := by rfl) (hG : Nat.blt F 2000000 = true := by rfl) : SgOK P els F (sg3 kAdd) :=
  SgOK.of0 (zlO hf h1 h2 h3 h4) hF hG
end
section
structure K where
  T : Type
  enc : T -> U
  dec : U -> Option T
  ok : ∀ u x, dec u = some x -> u = enc x
def K.u64 : K := ⟨UInt64, fun x => .c (.u64 x), fun u => match u with | .c (.u64 x) => some x | _ => none, fun u x h => by split at h <;> cases h <;> rfl⟩
def K.u32 : K := ⟨UInt32, fun x => .c (.u32 x), fun u => match u with | .c (.u32 x) => some x | _ => none, fun u x h => by split at h <;> cases h <;> rfl⟩
def K.u8 : K := ⟨UInt8, fun x => .c (.u8 x), fun u => match u with | .c (.u8 x) => some x | _ => none, fun u x h => by split at h <;> cases h <;> rfl⟩
def K.int : K := ⟨Int, fun x => .c (.int x), fun u => match u with | .c (.int x) => some x | _ => none, fun u x h => by split at h <;> cases h <;> rfl⟩
def K.bool : K := ⟨Bool, fun x => .c (.bool x), fun u => match u with | .c (.bool x) => some x | _ => none, fun u x h => by split at h <;> cases h <;> rfl⟩
def K.str : K := ⟨List UInt8, fun x => .c (.str x), fun u => match u with | .c (.str x) => some x | _ => none, fun u x h => by split at h <;> cases h <;> rfl⟩
def K.len : K := ⟨Nat, fun n => .c (.len n), fun u => match u with | .c (.len n) => some n | _ => none, fun u x h => by split at h <;> cases h <;> rfl⟩
theorem zcK {f e : El} {l : List f.T} {m : List e.T} (h : za3 f e l = some m) : ∃ p : f = e, m = p ▸ l := by
  cases f <;> cases e <;> first
    | (simp only [za3, oi1] at h; subst h; exact ⟨rfl, rfl⟩)
    | (simp [za3] at h)
def K.ro (e : El) : K := ⟨List e.T, fun l => .c (.ro e l), fun u => match u with | .c (.ro f l) => za3 f e l | _ => none, fun u x h => by
  split at h
  . obtain ⟨p, q⟩ := zcK h
    subst p; subst q; rfl
  . cases h⟩
def K.rt : K := ⟨List Tn, fun l => .c (.rt l), fun u => match u with | .c (.rt l) => some l | _ => none, fun u x h => by split at h <;> cases h; rfl⟩
def K.room (e : El) : K := ⟨List e.T × Nat, fun x => .c (.rop e x.1 1 x.2), fun u => match u with | .c (.rop f l 1 m) => (match za3 f e l with | some l => some (l, m) | none => none) | _ => none, fun u x h => by
  split at h
  . rename_i f l m
    split at h
    . rename_i l' hc
      cases h
      obtain ⟨p, q⟩ := zcK hc
      subst p; subst q; rfl
    . cases h
  . cases h⟩
def K.view (e : El) : K := ⟨List e.T, fun l => .c (.rop e l 0 0), fun u => match u with | .c (.rop f l 0 0) => za3 f e l | _ => none, fun u x h => by
  split at h
  . obtain ⟨p, q⟩ := zcK h
    subst p; subst q; rfl
  . cases h⟩
def K.vec (e : El) : K := ⟨List e.T, fun l => .vec e l, fun u => match u with | .vec f l => za3 f e l | _ => none, fun u x h => by
  split at h
  . obtain ⟨p, q⟩ := zcK h
    subst p; subst q; rfl
  . cases h⟩
def Fr.of? (l : List UInt64) : Option Fr := cond (Nat.beq l.length 4) (some ⟨l.getD 0 0, l.getD 1 0, l.getD 2 0, l.getD 3 0⟩) none
def Fr.l (x : Fr) : List UInt64 := [x.a0, x.a1, x.a2, x.a3]
theorem Fr.of_ok {l : List UInt64} {x : Fr} (h : Fr.of? l = some x) : l = x.l := by
  unfold Fr.of? at h
  cases hb : Nat.beq l.length 4 with
  | false => rw [hb] at h; cases h
  | true =>
    rw [hb] at h
    have hl := Nat.eq_of_beq_eq_true hb
    match l, hl with
    | [a, b, c, d], _ => cases h; rfl
def K.fr : K := ⟨Fr, fun x => .vec .u64 x.l, fun u => match u with | .vec f l => (za3 f .u64 l).bind Fr.of? | _ => none, fun u x h => by
  split at h
  . rename_i f l
    obtain ⟨m, h1, h2⟩ := Option.bind_eq_some_iff.1 h
    obtain ⟨p, q⟩ := zcK h1
    subst p; subst q
    rw [Fr.of_ok h2]
  . cases h⟩
theorem zaK {α : Type} {k : Fr -> List C -> Option α} {l : List C} {r : α} (h : pFr k l = some r) : ∃ x m, l = Fr.c x ++ m /\ k x m = some r := by
  unfold pFr at h
  split at h
  . exact ⟨_, _, rfl, h⟩
  . cases h
theorem zbf {α : Type} {k : Int -> List C -> Option α} {l : List C} {r : α} (h : pInt k l = some r) : ∃ x m, l = .int x :: m /\ k x m = some r := by
  unfold pInt at h
  split at h
  . exact ⟨_, _, rfl, h⟩
  . cases h
theorem zds {α : Type} {x r : α} {l : List C} (h : pEnd x l = some r) : l = [] /\ x = r := by
  unfold pEnd at h
  split at h
  . cases h; exact ⟨rfl, rfl⟩
  . cases h
theorem zp5 {e : El} {l : List C} {x : e.T} (h : e.ofC l = some x) : l = e.toC x := by
  cases e with
  | u64 => simp only [El.ofC] at h; split at h <;> cases h; rfl
  | u32 => simp only [El.ofC] at h; split at h <;> cases h; rfl
  | u8 => simp only [El.ofC] at h; split at h <;> cases h; rfl
  | int => simp only [El.ofC] at h; split at h <;> cases h; rfl
  | bool => simp only [El.ofC] at h; split at h <;> cases h; rfl
  | fr =>
    obtain ⟨q, m, rfl, hq⟩ := zaK (show pFr (fun x => pEnd x) l = some x from h)
    obtain ⟨rfl, rfl⟩ := zds hq
    simp [El.toC]
  | row =>
    simp only [El.ofC] at h
    obtain ⟨q0, m1, rfl, h1⟩ := zaK h
    obtain ⟨q1, m2, rfl, h2⟩ := zaK h1
    obtain ⟨q2, m3, rfl, h3⟩ := zaK h2
    obtain ⟨q3, m4, rfl, h4⟩ := zaK h3
    obtain ⟨q4, m5, rfl, h5⟩ := zaK h4
    obtain ⟨q5, m6, rfl, h6⟩ := zaK h5
    obtain ⟨q6, m7, rfl, h7⟩ := zaK h6
    obtain ⟨q7, m8, rfl, h8⟩ := zaK h7
    obtain ⟨w0, m9, rfl, h9⟩ := zbf h8
    obtain ⟨w1, m10, rfl, h10⟩ := zbf h9
    obtain ⟨w2, m11, rfl, h11⟩ := zbf h10
    obtain ⟨rfl, rfl⟩ := zds h11
    simp [El.toC]
  | pair =>
    simp only [El.ofC] at h
    obtain ⟨w1, m12, rfl, h12⟩ := zbf h
    obtain ⟨w2, m13, rfl, h13⟩ := zbf h12
    obtain ⟨rfl, rfl⟩ := zds h13
    simp [El.toC]
  | step =>
    simp only [El.ofC] at h
    obtain ⟨w0, m14, rfl, h14⟩ := zbf h
    obtain ⟨w1, m15, rfl, h15⟩ := zbf h14
    obtain ⟨w2, m16, rfl, h16⟩ := zbf h15
    obtain ⟨w3, m17, rfl, h17⟩ := zbf h16
    obtain ⟨q0, m18, rfl, h18⟩ := zaK h17
    obtain ⟨q1, m19, rfl, h19⟩ := zaK h18
    obtain ⟨q2, m20, rfl, h20⟩ := zaK h19
    obtain ⟨q3, m21, rfl, h21⟩ := zaK h20
    obtain ⟨q4, m22, rfl, h22⟩ := zaK h21
    obtain ⟨rfl, rfl⟩ := zds h22
    simp [El.toC]
def K.st (e : El) : K := ⟨e.T, fun x => .agg (e.toC x), fun u => match u with | .agg l => e.ofC l | _ => none, fun u x h => by
  split at h
  . rw [zp5 h]
  . cases h⟩
def K.c? : U -> Option C
  | .c x => some x
  | _ => none
def zji : CS -> Bool
  | .u64 | .u32 | .u8 | .int | .bool | .str | .ro _ => true
  | _ => false
def zgE : List CS -> Bool
  | [] => true
  | c :: l => cond (zji c) (zgE l) false
theorem zlP {f e : El} {l : List f.T} {m : List e.T} (h : za3 f e l = some m) : C.ro f l = C.ro e m := by
  obtain ⟨p, q⟩ := zcK h
  subst p; subst q; rfl
theorem zn0 {c : CS} (hl : zji c = true) {x : C} {y : c.T} (h : c.dec x = some y) : x = c.enc y := by
  cases c <;> simp [zji] at hl
  case u64 => cases x <;> simp [CS.dec, C.u64?] at h; cases h; rfl
  case u32 => cases x <;> simp [CS.dec, C.u32?] at h; cases h; rfl
  case u8 => cases x <;> simp [CS.dec, C.u8?] at h; cases h; rfl
  case int => cases x <;> simp [CS.dec, C.int?] at h; cases h; rfl
  case bool => cases x <;> simp [CS.dec, C.bool?] at h; cases h; rfl
  case str => cases x <;> simp [CS.dec, C.str?] at h; cases h; rfl
  case ro e => cases x <;> simp [CS.dec, C.ro?] at h; exact zlP h
theorem zkb {l : List CS} (hl : zgE l = true) {xs : List C} {y : TCs l} (h : zdB l xs = some y) : xs = zbh l y := by
  induction l generalizing xs with
  | nil => rw [zeZ h]; rfl
  | cons c l ih =>
    unfold zgE at hl
    cases h1 : zji c with
    | false => rw [h1] at hl; cases hl
    | true =>
      rw [h1] at hl
      obtain ⟨x, r, p, q, rfl, rfl, h2, h3⟩ := zdP h
      rw [zn0 h1 h2, ih hl h3]
      rfl
def K.agg (l : List CS) (hl : zgE l = true) : K := ⟨TCs l, fun x => .agg (zbh l x), fun u => match u with | .agg xs => zdB l xs | _ => none, fun u x h => by
  split at h
  . rw [zkb hl h]
  . cases h⟩
def TKs : List K -> Type
  | [] => Unit
  | k :: l => k.T × TKs l
def ze2 : (l : List K) -> TKs l -> List U
  | [], _ => []
  | k :: l, x => k.enc x.1 :: ze2 l x.2
def zcD : (l : List K) -> List U -> Option (TKs l)
  | [], us => match us with
    | [] => some ()
    | _ :: _ => none
  | k :: l, us => match us with
    | [] => none
    | u :: r => match k.dec u with
      | some a => match zcD l r with
        | some b => some (a, b)
        | none => none
      | none => none
theorem zdt {l : List K} {us : List U} {x : TKs l} (h : zcD l us = some x) : us = ze2 l x := by
  induction l generalizing us with
  | nil => cases us with
    | nil => rfl
    | cons _ _ => cases h
  | cons k l ih =>
    cases us with
    | nil => cases h
    | cons u us =>
      simp only [zcD] at h
      split at h
      . rename_i a ha
        split at h
        . rename_i b hb
          cases h
          rw [k.ok _ _ ha, ih hb]
          rfl
        . cases h
      . cases h
def sgK (ps rs : List K) (f : TKs ps -> Option (TKs rs)) : Sg := ⟨TKs rs, 0, fun us => match zcD ps us with | some x => f x | none => none, fun r => zj6 (ze2 rs r)⟩
theorem zaU {P : Program} {pd : PD} (hp : PDok P pd) {env : Nat -> Option Sg} (henv : ∀ f g, env f = some g -> SgOK P pd.els f g) {n : FuncId} {fn : Func} (hf : P.funcs[n]? = some fn) (hname : fn.name ≠ "runtime.NumGoroutine")
    (ps rs : List K) (f : TKs ps -> Option (TKs rs)) (N : Nat) (tab : List (Nat × Head)) (d : Nat)
    (hrun : ∀ x, zgV pd env fn (zcD rs) (mkLp pd env (zbp pd fn (zcD rs)) N tab d) (ze2 ps x) = f x) {F : Nat} (hF : F % 1000000 = n := by rfl) (hG : Nat.blt F 2000000 = true := by rfl) : SgOK P pd.els F (sgK ps rs f) := by
  refine SgOK.of0 ?_ hF hG
  refine zsD hp henv hf hname (sgK ps rs f) rfl (zcD rs) (fun us r h => ?_) N tab d (fun us r h => ?_)
  . rw [zdt h]; rfl
  . simp only [sgK] at h
    split at h
    . rename_i x hx
      rw [zdt hx]
      exact (hrun x).trans h
    . cases h
theorem zrj {P : Program} {pd : PD} (hp : PDok P pd) {env : Nat -> Option Sg} (henv : ∀ f g, env f = some g -> SgOK P pd.els f g) {n : FuncId} {fn : Func} (hf : P.funcs[n]? = some fn) (hname : fn.name ≠ "runtime.NumGoroutine")
    (ps rs : List K) (f : TKs ps -> Option (TKs rs)) (N : Nat) (tab : List (Nat × Head)) (d : Nat)
    (hrun : ∀ x, zkP pd env fn (zcD rs) (mkLp pd env (zbp pd fn (zcD rs)) N tab d) (ze2 ps x) = f x) {F : Nat} (hF : F % 1000000 = n := by rfl) (hG : F / 1000000 = 4 := by rfl) : SgOK P pd.els F (sgK ps rs f) := by
  refine ⟨fun h => by omega, fun h => by omega, fun h => by omega, fun _ => ?_⟩
  rw [hF]
  refine zrf hp henv hf hname (sgK ps rs f) (zcD rs) (fun us r h => ?_) N tab d (fun us r h => ?_)
  . rw [zdt h]; rfl
  . simp only [sgK] at h
    split at h
    . rename_i x hx
      rw [zdt hx]
      exact (hrun x).trans h
    . cases h
def K.nil : K := ⟨Unit, fun _ => .c .nilp, fun u => match u with | .c .nilp => some () | _ => none, fun u x h => by split at h <;> cases h; rfl⟩
def zbx (P : Program) (els : List (Nat × El)) : List (Nat × Sg) -> Prop
  | [] => True
  | p :: l => SgOK P els p.1 p.2 /\ zbx P els l
theorem zan {P : Program} {els : List (Nat × El)} {l : List (Nat × Sg)} (h : zbx P els l) (f : Nat) (g : Sg) (hl : look f l = some g) : SgOK P els f g := by
  induction l with
  | nil => cases hl
  | cons p l ih =>
    obtain ⟨m, x⟩ := p
    unfold look at hl
    cases hb : Nat.beq m f with
    | true =>
      rw [hb] at hl
      obtain rfl := Nat.eq_of_beq_eq_true hb
      cases hl
      exact h.1
    | false => rw [hb] at hl; exact ih h.2 hl
theorem zav {s : String} (h : (s == "runtime.NumGoroutine") = false) : s ≠ "runtime.NumGoroutine" := fun e => by rw [e] at h; simp at h
theorem SgOK.none {P : Program} {els : List (Nat × El)} {F : Nat} {g : Sg} (hG : F / 1000000 = 5) : SgOK P els F g :=
  ⟨fun h => by omega, fun h => by omega, fun h => by omega, fun h => by omega⟩
def zrk : Sg := sgK [] [] fun _ => none
theorem zn1 {P : Program} {els : List (Nat × El)} : SgOK P els 5000000 zrk := SgOK.none rfl
end
section
theorem zb9 {x : Int} (h1 : -9223372036854775808 <= x) (h2 : x <= 9223372036854775807) : wr x = x := by
  have hw : wr x = if 9223372036854775808 <= x % 18446744073709551616 then x % 18446744073709551616 - 18446744073709551616 else x % 18446744073709551616 := by
    simp [wr, IntKind.wrap, IntKind.bits, IntKind.signed]
  rw [hw]
  split <;> omega
theorem zbY {i : Nat} (h : i < 9223372036854775807) : wr ((i : Int) + 1) = ((i + 1 : Nat) : Int) := by
  rw [zb9 (by omega) (by omega)]; omega
theorem zgF (a b : Nat) : ltI (a : Int) (b : Int) = ltN a b := by simp [ltI, ltN]
theorem zp6 (a b : Nat) : eqI (a : Int) (b : Int) = decide (a = b) := by simp only [eqI, Int.ofNat_inj]
theorem zaE (a : Nat) : leI 0 (a : Int) = true := by simp [leI]
theorem zaz {a b : Nat} (h : a < b) : ltN a b = true := by simp [ltN, h]
theorem zaW {a b : Nat} (h : a <= b) : leN a b = true := by simp [leN, h]
theorem zaA {a b : Int} (h : a < b) : ltI a b = true := by simp [ltI, h]
theorem zaB {a b : Int} (h : ¬ a < b) : ltI a b = false := by simp only [ltI, decide_eq_false_iff_not]; exact h
theorem zcL {a b : Int} (h : a <= b) : leI a b = true := by simp [leI, h]
theorem zhG {a b : Int} (h : ¬ a <= b) : leI a b = false := by simp only [leI, decide_eq_false_iff_not]; exact h
theorem zn2 {a b : Int} (h : a = b) : eqI a b = true := by simp [eqI, h]
end
end Go.Proofs.Ytgimohchocjgcaa.V
