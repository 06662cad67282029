/- Calls that something is handed over to, which the callee may write. -/
import Derived.Test.YtgimohchocjgcaaVAC
set_option linter.unusedVariables false
set_option linter.unusedSimpArgs false
namespace Go.Proofs.Ytgimohchocjgcaa.V

variable {X : Ctx} {ρ : Nat → RI} {s : St} {a : Act} {w : World} {R : Type} {r : R}

theorem memN_iff {n : Nat} {l : List Nat} : memN n l = true ↔ n ∈ l := by
  induction l with
  | nil => simp [memN]
  | cons m l ih =>
    simp only [memN, List.mem_cons]
    cases h : Nat.beq m n with
    | true => have := Nat.beq_true h; simp [this]
    | false =>
      have : n ≠ m := fun e => by subst e; simp at h
      simp [ih, this]

theorem memN_false {n : Nat} {l : List Nat} : memN n l = false ↔ n ∉ l := by
  rw [← memN_iff]; cases memN n l <;> simp

theorem cond_false_of {b c : Bool} (h : cond b false c = true) : b = false ∧ c = true := by cases b <;> simp_all

theorem must_true {R : Type} {g : Bool} {x : Option R} {r : R} (h : must g x = some r) : g = true ∧ x = some r := cond_some h

def putsA (l : List (Nat × Ob)) (id : Nat) (x : Option Ob) : Option Ob := l.foldl (fun x p => if p.1 = id then some p.2 else x) x

theorem puts_tm (s : St) (l : List (Nat × Ob)) : (s.puts l).tm = s.tm := by
  induction l generalizing s with
  | nil => rfl
  | cons p l ih => rw [puts_cons, ih]

theorem dels_tm (s : St) (l : List Nat) : (s.dels l).tm = s.tm := by
  induction l generalizing s with
  | nil => rfl
  | cons p l ih => simp only [St.dels, ih]

theorem puts_get (s : St) (l : List (Nat × Ob)) (id : Nat) : (s.puts l).get id = putsA l id (s.get id) := by
  induction l generalizing s with
  | nil => rfl
  | cons p l ih =>
    rw [puts_cons, ih]
    simp only [putsA, List.foldl_cons]
    congr 1
    unfold St.get
    by_cases h : p.1 = id
    · rw [if_pos h, ← h]; exact look_put_same ..
    · rw [if_neg h]; exact look_put_ne _ _ fun e => h e.symm

theorem dels_get (s : St) (l : List Nat) (id : Nat) : (s.dels l).get id = if id ∈ l then none else s.get id := by
  induction l generalizing s with
  | nil => rfl
  | cons p l ih =>
    simp only [St.dels, ih]
    unfold St.get
    by_cases h : id ∈ l
    · simp [h]
    · by_cases h2 : id = p
      · subst h2; simp [h, look_del_same]
      · simp [h, h2, look_del_ne _ h2]

theorem men_dels {s : St} {l : List Nat} {id : Nat} (h : s.men id = false) : (s.dels l).men id = false := by
  induction l generalizing s with
  | nil => exact h
  | cons p l ih => exact ih (men_del h)

theorem noDup_spec {l : List Nat} (h : noDup l = true) : l.Nodup := by
  induction l with
  | nil => exact List.nodup_nil
  | cons n l ih =>
    unfold noDup at h
    obtain ⟨h1, h2⟩ := cond_false_of h
    exact List.nodup_cons.2 ⟨memN_false.1 h1, ih h2⟩

theorem OwnL_append {els : List (Nat × El)} {B : Nat → Prop} {c1 c2 : List C} {v1 v2 : List Value} {g1 g2 : List Nat} (h1 : OwnL els w B c1 v1 g1) (h2 : OwnL els w B c2 v2 g2) (hd : ∀ g ∈ g1, g ∉ g2) : OwnL els w B (c1 ++ c2) (v1 ++ v2) (g1 ++ g2) := by
  induction h1 with
  | nil => exact h2
  | sc hv _ ih => exact .sc hv (ih hd)
  | nilr _ ih => exact .nilr (ih hd)
  | @view e l g cap ty xs cs vs gs a1 a2 a3 a4 a5 a6 a7 _ ih =>
    refine .view a1 a2 ?_ a4 a5 a6 a7 (ih fun g hg => hd g (List.mem_cons_of_mem _ hg))
    intro hm
    rcases List.mem_append.1 hm with hm | hm
    · exact a3 hm
    · exact hd g List.mem_cons_self hm
  | @row e l g cap ty xs cs vs gs a0 a1 a2 a3 a4 a5 a6 a7 _ ih =>
    refine .row a0 a1 a2 ?_ a4 a5 a6 a7 (ih fun g hg => hd g (List.mem_cons_of_mem _ hg))
    intro hm
    rcases List.mem_append.1 hm with hm | hm
    · exact a3 hm
    · exact hd g List.mem_cons_self hm

theorem Vals_flat {e : El} {l : List e.T} {vs : List Value} (h : RCs X ρ (flat e l) vs) : Vals (flat e l) vs := by
  have : ∀ (cs : List C) (vs : List Value), (∀ c ∈ cs, ∃ v, c.val = some v) → RCs X ρ cs vs → Vals cs vs := by
    intro cs
    induction cs with
    | nil => intro vs _ h; cases vs with
      | nil => trivial
      | cons _ _ => exact h.elim
    | cons c cs ih =>
      intro vs hv h
      cases vs with
      | nil => exact h.elim
      | cons v vs =>
        obtain ⟨z, hz⟩ := hv c (by simp)
        exact ⟨by rw [val_of_RC hz h.1]; exact hz, ih vs (fun d hd => hv d (by simp [hd])) h.2⟩
  exact this _ _ (fun c hc => flat_val e l c hc) h

/-- Blocks of some objects. -/
def Blks (ρ : Nat → RI) (s : St) (ids gs : List Nat) : Prop := ∀ g ∈ gs, ∃ id ∈ ids, ∃ x, s.get id = some x ∧ hasB ρ id x ∧ (ρ id).blk = g

theorem Blks.apart (h : Sim X ρ s a w) {i1 i2 g1 g2 : List Nat} (h1 : Blks ρ s i1 g1) (h2 : Blks ρ s i2 g2) (hd : ∀ i ∈ i1, i ∉ i2) : ∀ g ∈ g1, g ∉ g2 := by
  intro g hg hg2
  obtain ⟨i, hi, x, hx, hbx, e1⟩ := h1 g hg
  obtain ⟨j, hj, y, hy, hby, e2⟩ := h2 g hg2
  exact h.inj i j x y hx hy (fun e => hd i hi (e ▸ hj)) hbx hby (by rw [e1, e2])

theorem rsC_ok (h : Sim X ρ s a w) {c d : C} {v : Value} (hd : rsC X.pd s c = some (true, d)) (hv : RC X ρ c v) : ∃ gs, OwnL X.pd.els w (fun b => X.w0.heap.size ≤ b ∨ X.may b) [d] [v] gs ∧ Blks ρ s (idC c) gs := by
  have scal : ∀ u, c.val = some u → d = c → ∃ gs, OwnL X.pd.els w (fun b => X.w0.heap.size ≤ b ∨ X.may b) [d] [v] gs ∧ Blks ρ s (idC c) gs := by
    intro u hu e
    subst e
    exact ⟨[], .sc (by rw [val_of_RC hu hv]; exact hu) .nil, fun g hg => by cases hg⟩
  cases c with
  | row id =>
    simp only [rsC] at hd
    split at hd
    · rename_i n ty e l hg
      split at hd
      · rename_i t ht
        obtain ⟨h1, h2⟩ := cond_some hd
        simp only [Option.some.injEq, Prod.mk.injEq, true_and] at h2
        subst h2
        obtain rfl := Nat.beq_true h1
        have hro := h.ob _ _ hg
        rcases row_val hro with ⟨h3, rfl⟩ | ⟨cap, h3, h4, h5⟩
        · refine ⟨[], ?_, fun g hg => by cases hg⟩
          rw [hv.1, h3]
          exact .nilr .nil
        · have hB : hasB ρ id ⟨true, n, t, .vec e l⟩ := .inr (by rw [h3]; simp)
          rcases hro.mem with ⟨_, m2, _⟩ | ⟨vs, ty', cap', m1, m2, m3, m4, m5⟩
          · rcases hB with hb | hb
            · cases hb
            · exact absurd m2 hb
          · obtain ⟨m6, m7, m8, m9, m10⟩ := m5 rfl
            simp only at m6
            subst m6
            rw [hv.1, m7]
            simp only [O.cells, O.len, O.sz, flat_length] at m2 m8 m10 ⊢
            have hown : X.w0.heap.size ≤ (ρ id).blk ∨ X.may (ρ id).blk := h.own _ _ hg hB
            refine ⟨[(ρ id).blk], .row ht m1 hown (by simp) m8 m9 m10 (Vals_flat m2) .nil, fun g hgg => ⟨id, by simp [idC], _, hg, hB, ?_⟩⟩
            simp at hgg; exact hgg.symm
      · cases hd
    · cases hd
  | sl id i n =>
    cases i with
    | succ i => simp [rsC] at hd
    | zero =>
      simp only [rsC] at hd
      split at hd
      · rename_i rw' m ty e l hg
        simp only [Option.some.injEq, Prod.mk.injEq] at hd
        obtain ⟨hn, rfl⟩ := hd
        have hn' : 0 < n := by simpa [ltN] using hn
        have hro := h.ob _ _ hg
        obtain ⟨h1, cap, h2, h3, h4⟩ := hv
        have e2 := hro.len
        simp only [O.len] at e2
        rw [e2] at h1
        have hpos : 0 < (O.vec e l).cells.length := by
          simp only [O.cells, flat_length]; exact Nat.mul_pos (by omega) (size_pos e)
        have hB := hasB_pos hro hpos
        rcases h4 with h4 | ⟨h4, _⟩
        · rcases hro.mem with ⟨m0, m2, _⟩ | ⟨vs, ty', cap', m1, m2, m3, m4, m5⟩
          · rcases hB with hb | hb
            · rw [m0] at hb; cases hb
            · exact absurd m2 hb
          · have hown : X.w0.heap.size ≤ (ρ id).blk ∨ X.may (ρ id).blk := h.own _ _ hg hB
            have hl : (l.take n).length = n := by rw [List.length_take]; omega
            simp only [O.cells, flat_length] at m2 m3
            have hle : n * e.size ≤ l.length * e.size := Nat.mul_le_mul_right _ (by omega)
            have hvals : Vals (flat e (l.take n)) (vs.toList.take ((l.take n).length * e.size)) := by
              refine Vals_flat (X := X) (ρ := ρ) ?_
              have := RCs_take m2 (n * e.size)
              rw [← flat_take, List.take_take, Nat.min_eq_left hle] at this
              rw [hl]; exact this
            refine ⟨[(ρ id).blk], ?_, fun g hgg => ⟨id, by simp [idC], _, hg, hB, ?_⟩⟩
            · have hval : v = .slice (some ⟨(ρ id).blk, 0, none⟩) (l.take n).length cap := by rw [h4, hl]; simp
              rw [hval]
              exact .view m1 hown (by simp) (by rw [hl]; exact h2) h3 (by rw [hl]; omega) hvals .nil
            · simp at hgg; exact hgg.symm
        · omega
      · cases hd
  | u64 x => simp only [rsC, Option.some.injEq, Prod.mk.injEq, true_and] at hd; exact scal _ rfl hd.symm
  | u32 x => simp only [rsC, Option.some.injEq, Prod.mk.injEq, true_and] at hd; exact scal _ rfl hd.symm
  | u8 x => simp only [rsC, Option.some.injEq, Prod.mk.injEq, true_and] at hd; exact scal _ rfl hd.symm
  | int x => simp only [rsC, Option.some.injEq, Prod.mk.injEq, true_and] at hd; exact scal _ rfl hd.symm
  | bool x => simp only [rsC, Option.some.injEq, Prod.mk.injEq, true_and] at hd; exact scal _ rfl hd.symm
  | str x => simp only [rsC, Option.some.injEq, Prod.mk.injEq, true_and] at hd; exact scal _ rfl hd.symm
  | ro _ _ | rop _ _ _ _ | ptr _ _ _ | nilp | dead => simp [rsC] at hd

theorem rsCsK_ok (h : Sim X ρ s a w) : ∀ (l : List C) (vs : List Value) (k : List C → Option R), rsCsK X.pd s l k = some r → RCs X ρ l vs → (idCs l).Nodup →
    ∃ d gs, k d = some r ∧ OwnL X.pd.els w (fun b => X.w0.heap.size ≤ b ∨ X.may b) d vs gs ∧ Blks ρ s (idCs l) gs ∧ d.length = l.length
  | [], vs, k, hk, hv, _ => by
    cases vs with
    | nil => exact ⟨[], [], hk, .nil, fun g hg => (by cases hg), rfl⟩
    | cons _ _ => exact hv.elim
  | c :: l, vs, k, hk, hv, hnd => by
    cases vs with
    | nil => exact hv.elim
    | cons v vs =>
      unfold rsCsK at hk
      split at hk
      · rename_i g d hd
        obtain ⟨hg, hk⟩ := must_true hk
        subst hg
        simp only [idCs, List.nodup_append] at hnd
        obtain ⟨n1, n2, n3⟩ := hnd
        obtain ⟨d', gs, k1, k2, k3, k4⟩ := rsCsK_ok h l vs _ hk hv.2 n2
        obtain ⟨g1, o1, b1⟩ := rsC_ok h hd hv.1
        refine ⟨d :: d', g1 ++ gs, k1, OwnL_append o1 k2 (Blks.apart h b1 k3 fun i hi hj => n3 i hi i hj rfl), fun g hg => ?_, by simp [k4]⟩
        rcases List.mem_append.1 hg with hg | hg
        · obtain ⟨i, hi, hr⟩ := b1 g hg; exact ⟨i, List.mem_append_left _ hi, hr⟩
        · obtain ⟨i, hi, hr⟩ := k3 g hg; exact ⟨i, List.mem_append_right _ hi, hr⟩
      · cases hk


/-! ### States, some objects aside -/

theorem Sim.dels (h : Sim X ρ s a w) (l : List Nat) : Sim X ρ (s.dels l) a w := by
  induction l generalizing s with
  | nil => exact h
  | cons id l ih => exact ih (h.del id)

theorem OwnL.mono' {els : List (Nat × El)} {B B' : Nat → Prop} {cs : List C} {vs : List Value} {gs : List Nat} (h : OwnL els w B cs vs gs) (hb : ∀ b ∈ gs, B' b) : OwnL els w B' cs vs gs := by
  induction h with
  | nil => exact .nil
  | sc h _ ih => exact .sc h (ih hb)
  | nilr _ ih => exact .nilr (ih hb)
  | row h1 h2 h3 h4 h5 h6 h7 h8 _ ih => exact .row h1 h2 (hb _ List.mem_cons_self) h4 h5 h6 h7 h8 (ih fun b hm => hb b (List.mem_cons_of_mem _ hm))
  | view h1 h2 h3 h4 h5 h6 h7 _ ih => exact .view h1 (hb _ List.mem_cons_self) h3 h4 h5 h6 h7 (ih fun b hm => hb b (List.mem_cons_of_mem _ hm))

/-- An object that is set aside is there again, with other content. -/
theorem Sim.back (h : Sim X ρ s a w) (id : Nat) (y : Ob) (hro : RO X ρ w id y) (hinj : ∀ j x, s.get j = some x → j ≠ id → hasB ρ j x → (ρ j).blk ≠ (ρ id).blk)
    (hown : hasB ρ id y → X.w0.heap.size ≤ (ρ id).blk ∨ X.may (ρ id).blk) : Sim X ρ ⟨s.tm, putOb id y s.ob⟩ a w := by
  refine ⟨h.tm, h.sz, h.df, fun j z hz => ?_, fun i j u z hu hz hij hbi hbj => ?_, fun j z hz hb => ?_, h.fr⟩
  · rcases get_put hz with ⟨rfl, rfl⟩ | ⟨hne, hz'⟩
    · exact hro
    · exact h.ob j z hz'
  · rcases get_put hu with ⟨rfl, rfl⟩ | ⟨hne, hu'⟩
    · rcases get_put hz with ⟨rfl, rfl⟩ | ⟨hne, hz'⟩
      · exact absurd rfl hij
      · exact fun e => hinj j z hz' hne hbj e.symm
    · rcases get_put hz with ⟨rfl, rfl⟩ | ⟨hne', hz'⟩
      · exact hinj i u hu' hne hbi
      · exact h.inj i j u z hu' hz' hij hbi hbj
  · rcases get_put hz with ⟨rfl, rfl⟩ | ⟨hne, hz'⟩
    · exact hown hb
    · exact h.own j z hz' hb

/-- Other content in the block of an object. -/
theorem RO_back {w' : World} {id : Nat} {y : Ob} {o' : O} {xs xs' : Array Value} {ty : TypeId} {ρ' : Nat → RI} (hro : RO X ρ w id y) (hB : hasB ρ id y) (hm : w.heap[(ρ id).blk]? = some (.cells xs ty (0, 0)))
    (hm' : w'.heap[(ρ id).blk]? = some (.cells xs' ty (0, 0))) (hsize : xs'.size = xs.size) (hid : ρ' id = ρ id) (hsz : o'.sz = y.o.sz) (hlen : o'.len = y.o.len) (hcells : o'.cells.length = y.o.cells.length)
    (hvec : ∀ e l, y.o = .vec e l → ∃ l', o' = .vec e l' ∧ l'.length = l.length) (hlit : ∀ l, y.o = .lit l → ∃ l', o' = .lit l') (hc : RCs X ρ' o'.cells (xs'.toList.take o'.cells.length)) :
    RO X ρ' w' id ⟨y.row, y.n, y.ty, o'⟩ := by
  rcases hro.mem with ⟨hrow, hval', _⟩ | ⟨vs', ty', cap, hm1, hm2, hm3, hm4, hm5⟩
  · rcases hB with hb | hb
    · rw [hrow] at hb; cases hb
    · exact absurd hval' hb
  · rw [hm] at hm1
    cases hm1
    refine ⟨by rw [hid]; simp only [hsz]; exact hro.sz, by rw [hid]; simp only [hlen]; exact hro.len, fun hrow hn0 e l he => ?_, fun hrow => ?_, .inr ⟨xs', ty, cap, by rw [hid]; exact hm', hc, by simp only [hcells, hsize]; exact hm3, fun hrow => ?_, fun hrow => ?_⟩⟩
    · cases hyo : y.o with
      | lit l0 =>
        obtain ⟨l', hl'⟩ := hlit l0 hyo
        simp only at he
        rw [hl'] at he; cases he
      | vec e0 l0 =>
        obtain ⟨l', he', hl'⟩ := hvec e0 l0 hyo
        simp only at he
        rw [he'] at he
        cases he
        rw [hl']
        exact hro.n hrow hn0 _ _ hyo
    · obtain ⟨⟨e0, l0, hyo⟩, hn⟩ := hro.vec hrow
      obtain ⟨l', he', _⟩ := hvec e0 l0 hyo
      exact ⟨⟨e0, l', he'⟩, hn⟩
    · rw [hid]; simp only [hcells, hsize]; exact hm4 hrow
    · have := hm5 hrow
      rw [hid]
      simp only [hsz, hlen, hsize]
      exact this

theorem backO_spec {y o' : O} {u : U} (h : backO y u = some (true, o')) : o'.cells = u.cells ∧ o'.sz = y.sz ∧ o'.len = y.len ∧ o'.cells.length = y.cells.length ∧ (∀ e l, y = .vec e l → ∃ l', o' = .vec e l' ∧ l'.length = l.length ∧ u = .vec e l') ∧ (∀ l, y = .lit l → ∃ l', o' = .lit l' ∧ u = .agg l') := by
  unfold backO at h
  split at h
  · rename_i l m
    simp only [Option.some.injEq, Prod.mk.injEq] at h
    obtain ⟨h1, rfl⟩ := h
    have h1 := Nat.beq_true h1
    exact ⟨rfl, h1, rfl, h1, fun e l h => (by cases h), fun l h => ⟨m, rfl, rfl⟩⟩
  · rename_i e l f m
    split at h
    · rename_i m' hm
      obtain ⟨q1, q2, rfl⟩ := castL_flat hm
      obtain ⟨_, hq⟩ := castL_spec hm
      simp only [Option.some.injEq, Prod.mk.injEq] at h
      obtain ⟨h1, rfl⟩ := h
      have h1 := Nat.beq_true h1
      subst hq
      refine ⟨rfl, rfl, h1, by simp only [O.cells, flat_length, h1], fun e l h => ?_, fun l h => (by cases h)⟩
      cases h
      exact ⟨_, rfl, h1, rfl⟩
    · cases h
  · cases h

/-- What 'handK' found. -/
theorem handK_ok (h : Sim X ρ s a w) {mode : Nat} {c : C} {v0 : Value} {k : Nat → List Nat → U → Option R} (hk : handK X.pd s mode c k = some r) (hv : RC X ρ c v0) :
    ∃ id rows u0 y xs ty gs, k id rows u0 = some r ∧ s.get id = some y ∧ hasB ρ id y ∧ w.heap[(ρ id).blk]? = some (.cells xs ty (0, 0)) ∧ Handed X.pd.els w mode u0 v0 (ρ id).blk xs gs ∧ Blks ρ s rows gs ∧ id ∉ rows ∧ u0.cells.length = y.o.cells.length := by
  unfold handK at hk
  split at hk
  · -- a list
    rename_i id
    split at hk
    · rename_i n ty e l hg
      obtain ⟨h1, hk⟩ := cond_some hk
      obtain ⟨h2, hk⟩ := must_true hk
      have h1 := Nat.beq_true h1
      have h2 : 0 < l.length := by simpa [ltN] using h2
      have hro := h.ob _ _ hg
      have hpos : 0 < (flat e l).length := by rw [flat_length]; exact Nat.mul_pos h2 (size_pos e)
      have hB := hasB_pos hro hpos
      rcases row_val hro with ⟨_, h3⟩ | ⟨cap, h3, h4, h5⟩
      · rw [h3] at h2; simp at h2
      · rcases hro.mem with ⟨_, m2, _⟩ | ⟨vs, ty', cap', m1, m2, m3, m4, m5⟩
        · rw [m2] at h3; cases h3
        · refine ⟨id, [], .vec e l, _, vs, ty', [], hk, hg, hB, m1, ⟨hpos, m3, ?_, .inl ⟨h1, e, l, cap, rfl, by rw [hv.1, h3], h4, h5⟩⟩, (fun g hg => by cases hg), by simp, rfl⟩
          have : ∀ (l : List C) (vs : List Value), Vals l vs → OwnL X.pd.els w (fun g => g < w.heap.size ∧ g ≠ (ρ id).blk) l vs [] := by
            intro l
            induction l with
            | nil => intro vs h; cases vs with
              | nil => exact .nil
              | cons _ _ => exact h.elim
            | cons c l ih => intro vs h; cases vs with
              | nil => exact h.elim
              | cons v vs => exact .sc h.1 (ih vs h.2)
          exact this _ _ (Vals_flat m2)
    · cases hk
  · rename_i id
    split at hk
    · rename_i n ty e l hg
      obtain ⟨h1, hk⟩ := cond_some hk
      obtain ⟨h2, hk⟩ := must_true hk
      have h1 := Nat.beq_true h1
      have h2 : 0 < l.length := by simpa [ltN] using h2
      have hro := h.ob _ _ hg
      have hpos : 0 < (flat e l).length := by rw [flat_length]; exact Nat.mul_pos h2 (size_pos e)
      have hB := hasB_pos hro hpos
      rcases hro.mem with ⟨m0, _, _⟩ | ⟨vs, ty', cap', m1, m2, m3, m4, m5⟩
      · cases m0
      · refine ⟨id, [], .vec e l, _, vs, ty', [], hk, hg, hB, m1, ⟨hpos, m3, ?_, .inr (.inl ⟨h1, e, l, rfl, by rw [hv.2.2]; simp⟩)⟩, (fun g hg => by cases hg), by simp, rfl⟩
        have : ∀ (l : List C) (vs : List Value), Vals l vs → OwnL X.pd.els w (fun g => g < w.heap.size ∧ g ≠ (ρ id).blk) l vs [] := by
          intro l
          induction l with
          | nil => intro vs h; cases vs with
            | nil => exact .nil
            | cons _ _ => exact h.elim
          | cons c l ih => intro vs h; cases vs with
            | nil => exact h.elim
            | cons v vs => exact .sc h.1 (ih vs h.2)
        exact this _ _ (Vals_flat m2)
    · rename_i n ty l hg
      obtain ⟨h1, hk⟩ := cond_some hk
      obtain ⟨h2, hk⟩ := cond_some hk
      have h1 := Nat.beq_true h1
      simp only [Bool.and_eq_true] at h2
      obtain ⟨h2, h3⟩ := h2
      have h2 : 0 < l.length := by simpa using h2
      have hnd := noDup_spec h3
      have hro := h.ob _ _ hg
      have hB := hasB_pos hro h2
      rcases hro.mem with ⟨m0, _, _⟩ | ⟨vs, ty', cap', m1, m2, m3, m4, m5⟩
      · cases m0
      · obtain ⟨d, gs, k1, k2, k3, k4⟩ := rsCsK_ok h l _ _ hk m2 (List.nodup_cons.1 hnd).2
        have hne := (List.nodup_cons.1 hnd).1
        refine ⟨id, idCs l, .agg d, _, vs, ty', gs, k1, hg, hB, m1, ⟨by simp only [U.cells, k4]; exact h2, by simp only [U.cells, k4]; exact m3, ?_, .inr (.inr ⟨h1, d, rfl, by rw [hv.2.2]; simp⟩)⟩, k3, hne, k4⟩
        simp only [U.cells, k4]
        refine k2.mono' fun g hgg => ?_
        obtain ⟨i, hi, x, hx, hbx, e1⟩ := k3 g hgg
        refine ⟨by rw [← e1]; exact h.lt hx hbx, fun e => ?_⟩
        exact h.inj i id x _ hx hg (fun e => hne (e ▸ hi)) hbx hB (by rw [e1, e])
    · cases hk
  · cases hk

theorem OwnL_Vals {els : List (Nat × El)} {B : Nat → Prop} {e : El} {l : List e.T} {cs : List C} {vs vs' : List Value} {gs : List Nat} (h : OwnL els w B (flat e l ++ cs) (vs ++ vs') gs) (hl : vs.length = (flat e l).length) : Vals (flat e l) vs := by
  have : ∀ (xs : List C) (vs : List Value) (gs : List Nat), (∀ c ∈ xs, ∃ v, c.val = some v) → OwnL els w B (xs ++ cs) (vs ++ vs') gs → vs.length = xs.length → Vals xs vs := by
    intro xs
    induction xs with
    | nil => intro vs gs _ _ hl; cases vs with
      | nil => trivial
      | cons _ _ => simp at hl
    | cons c xs ih =>
      intro vs gs hv h hl
      cases vs with
      | nil => simp at hl
      | cons v vs =>
        obtain ⟨z, hz⟩ := hv c (by simp)
        generalize hq : (c :: xs) ++ cs = q at h
        generalize hq2 : (v :: vs) ++ vs' = q2 at h
        cases h with
        | nil => cases hq
        | sc h1 h2 =>
          cases hq; cases hq2
          exact ⟨h1, ih vs _ (fun d hd => hv d (by simp [hd])) h2 (by simpa using hl)⟩
        | nilr _ => cases hq; cases hz
        | view _ _ _ _ _ _ _ _ => cases hq; cases hz
        | row _ _ _ _ _ _ _ _ _ => cases hq; cases hz
  exact this _ _ _ (fun c hc => flat_val e l c hc) h hl

theorem abC_keys {pd : PD} {n m : Nat} {c d : C} {o : List (Nat × Ob)} (h : abC pd n c = some (d, o, m)) : n ≤ m ∧ ∀ p ∈ o, n ≤ p.1 ∧ p.1 < m := by
  unfold abC at h
  split at h
  · split at h
    · simp only [Option.some.injEq, Prod.mk.injEq] at h
      obtain ⟨rfl, rfl, rfl⟩ := h
      exact ⟨by omega, fun p hp => by rw [List.mem_singleton] at hp; subst hp; simp⟩
    · cases h
  · simp only [Option.some.injEq, Prod.mk.injEq] at h
    obtain ⟨rfl, rfl, rfl⟩ := h
    exact ⟨by omega, fun p hp => by rw [List.mem_singleton] at hp; subst hp; simp⟩
  all_goals first
    | (cases h; done)
    | (simp only [Option.some.injEq, Prod.mk.injEq] at h
       obtain ⟨rfl, rfl, rfl⟩ := h
       exact ⟨Nat.le_refl _, fun p hp => by cases hp⟩)

theorem abCs_keys {pd : PD} {l : List C} : ∀ {n m : Nat} {d : List C} {o : List (Nat × Ob)}, abCs pd n l = some (d, o, m) → n ≤ m ∧ ∀ p ∈ o, n ≤ p.1 ∧ p.1 < m := by
  induction l with
  | nil =>
    intro n m d o h
    simp [abCs] at h
    obtain ⟨rfl, rfl, rfl⟩ := h
    exact ⟨Nat.le_refl _, fun p hp => by cases hp⟩
  | cons c l ih =>
    intro n m d o h
    simp only [abCs] at h
    split at h
    · rename_i d1 o1 m1 hc
      split at h
      · rename_i r p k hr
        simp only [Option.some.injEq, Prod.mk.injEq] at h
        obtain ⟨rfl, rfl, rfl⟩ := h
        obtain ⟨h1, h2⟩ := abC_keys hc
        obtain ⟨h3, h4⟩ := ih hr
        refine ⟨by omega, fun q hq => ?_⟩
        rcases List.mem_append.1 hq with hq | hq
        · have := h2 q hq; omega
        · have := h4 q hq; omega
      · cases h
    · cases h

theorem putsA_out {l : List (Nat × Ob)} {id : Nat} (h : ∀ p ∈ l, p.1 ≠ id) (x : Option Ob) : putsA l id x = x := by
  induction l generalizing x with
  | nil => rfl
  | cons p l ih =>
    simp only [putsA, List.foldl_cons]
    rw [if_neg (h p List.mem_cons_self)]
    exact ih (fun q hq => h q (List.mem_cons_of_mem _ hq)) x

theorem abUs_vec {pd : PD} {n k : Nat} {u : U} {ls rs : List U} {e : El} {m : List e.T} {obs : List (Nat × Ob)} (h : abUs pd n (u :: ls) = some (.vec e m :: rs, obs, k)) : u = .vec e m := by
  simp only [abUs] at h
  split at h
  · rename_i d o m1 hd
    split at h
    · simp only [Option.some.injEq, Prod.mk.injEq, List.cons.injEq] at h
      obtain ⟨⟨rfl, _⟩, _⟩ := h
      cases u with
      | c x => simp only [abU] at hd; split at hd <;> simp at hd
      | agg l => simp only [abU] at hd; split at hd <;> simp at hd
      | vec f l => simp only [abU, Option.some.injEq, Prod.mk.injEq] at hd; exact hd.1
      | box l => simp [abU] at hd
    · cases h
  · cases h

theorem dead_RCs (n : Nat) {vs : List Value} (h : vs.length = n) : RCs X ρ (List.replicate n .dead) vs := by
  induction n generalizing vs with
  | zero => cases vs with
    | nil => trivial
    | cons _ _ => simp at h
  | succ n ih => cases vs with
    | nil => simp at h
    | cons v vs => exact ⟨trivial, ih (by simpa using h)⟩

theorem dead_men (n id : Nat) : anyC (C.men id) (List.replicate n .dead) = false := by
  induction n with
  | zero => rfl
  | succ n ih => simp [List.replicate_succ, anyC, C.men, ih]

theorem tupV_RV {l : List U} {vs : List Value} (h : RUs X ρ l vs) : RV X ρ (tupV l) (retVal vs) := by
  match l, vs, h with
  | [], [], _ => trivial
  | [u], [v], h => exact h.1
  | u :: u2 :: l, v :: v2 :: vs, h => exact ⟨_, rfl, h⟩

theorem Split.length {ds : List U} {vs cs : List Value} (h : Split ds vs cs) : ds.length = vs.length := by
  induction h with
  | nil => rfl
  | c _ ih => simp [ih]
  | agg _ _ ih => simp [ih]
  | vec _ _ ih => simp [ih]

theorem does_callIO {o : Oper} (f : FuncId) (args : Array Operand) (ts : Array TypeId) (ho : o.op = .call ⟨.value (.func f), args, ts⟩) {g : Sg} (hg : SgIO X.P X.pd.els f g) {e : Eff}
    (h : opCallIO X.pd g args.toList ts.toList o s some = some e) : Does X o s e := by
  intro ρ a w Q hs hnew
  unfold opCallIO at h
  split at h
  case h_2 => cases h
  rename_i x rest hargs
  split at h
  case h_2 => cases h
  rename_i c hc
  have hv : RC X ρ c (a.eval x) := by
    have := ev_ok hs (ts.toList.headD 0) x
    rw [c?_spec hc] at this
    exact this
  obtain ⟨id, rows, u0, y, xs, ty, gs, hk, hy, hB, hm, hh, hbl, hnr, hcl⟩ := handK_ok hs h hv
  clear h
  split at hk
  case h_2 => cases hk
  rename_i us hus
  obtain ⟨r, hr, hk⟩ := Option.bind_eq_some_iff.1 hk
  simp only [hy] at hk
  split at hk
  case h_2 => cases hk
  rename_i l y0 hres hy0
  cases hy0
  split at hk
  case h_2 => cases hk
  rename_i u3 rs obs n hab
  split at hk
  case h_2 => cases hk
  rename_i gd o' hback
  obtain ⟨hgd, hk⟩ := must_true hk
  subst hgd
  cases hk
  obtain ⟨q1, q2, q3, q4, q5, q6⟩ := backO_spec hback
  have hblt := hs.lt hy hB
  have hgs : ∀ c ∈ gs, c < w.heap.size ∧ c ≠ (ρ id).blk := abV_ok.own_ge hh.2.2.1
  have hbown := hs.own id y hy hB
  have hgown : ∀ c ∈ gs, X.w0.heap.size ≤ c ∨ X.may c := fun c hc => by
    obtain ⟨i, hi, z, hz, hbz, e1⟩ := hbl c hc
    rw [← e1]; exact hs.own i z hz hbz
  have hsd0 : ∀ j z, (s.dels (id :: rows)).get j = some z → j ≠ id ∧ s.get j = some z ∧ (hasB ρ j z → (ρ j).blk < w.heap.size ∧ (ρ j).blk ≠ (ρ id).blk ∧ (ρ j).blk ∉ gs) := fun j z hz => by
    rw [dels_get] at hz
    split at hz
    · cases hz
    · rename_i hj
      simp only [List.mem_cons, not_or] at hj
      refine ⟨hj.1, hz, fun hb => ⟨hs.lt hz hb, hs.inj j id z y hz hy hj.1 hb hB, fun hin => ?_⟩⟩
      obtain ⟨i, hi, z', hz', hbz', e1⟩ := hbl _ hin
      exact hs.inj i j z' z hz' hz (fun e => hj.2 (e ▸ hi)) hbz' hb e1
  have hA : Apart X ρ (s.dels (id :: rows)) (fun c => c = (ρ id).blk ∨ c ∈ gs) := by
    refine ⟨fun j z hz hb hor => ?_, fun c hc hor => ?_⟩
    · obtain ⟨_, _, h3⟩ := hsd0 j z hz
      rcases hor with hor | hor
      · exact (h3 hb).2.1 hor
      · exact (h3 hb).2.2 hor
    · have : X.w0.heap.size ≤ c ∨ X.may c := by
        rcases hor with rfl | hor
        · exact hbown
        · exact hgown c hor
      rcases this with h1 | h1
      · exact absurd hc.1 (by omega)
      · exact hc.2 h1
  have hcall := hg u0 us r hr w (a.eval x) (rest.map a.eval) (fun c => c < w.heap.size ∧ ¬ (c = (ρ id).blk ∨ c ∈ gs)) (ρ id).blk xs ty gs
    (fun c hc => ⟨hc.1, fun e => hc.2 (.inl e), fun e => hc.2 (.inr e)⟩) (reArgs_ok (hs.dels _) hA hus) hm hh
  have hvals : (a.eval x :: rest.map a.eval).toArray = args.map a.eval := by
    rw [← List.map_cons, ← hargs, ← Array.toList_map, Array.toArray_toList]
  rw [hvals] at hcall
  unfold Oper.wp
  have h1 : (execOp a.eval o).run X.P w = (callFunc f (args.map a.eval)).run X.P w := by
    simp [execOp, ho, resolve, Deferred.ofValue, invoke, Act.eval]
  rw [h1]
  refine hcall o a _ Q fun val w' ⟨xs', vals, l', gs', hres', hval, hm', hsize, hown, hkx⟩ => ?_
  rw [hres] at hres'
  cases hres'
  obtain ⟨cs, hsp, hol⟩ := hown
  have hfr : Frm X w' := ⟨by rw [hkx.os]; exact hs.fr.os, by rw [hkx.tape]; exact hs.fr.tape, by rw [hkx.output]; exact hs.fr.output, Nat.le_trans hs.fr.size hkx.size, fun k h1 h2 => by
    rw [hkx.block k (Nat.lt_of_lt_of_le h1 hs.fr.size) ?_]
    · exact hs.fr.block k h1 h2
    · intro hin
      have : X.w0.heap.size ≤ k ∨ X.may k := by
        rcases List.mem_cons.1 hin with rfl | hin
        · exact hbown
        · exact hgown k hin
      rcases this with h3 | h3
      · omega
      · exact h2 h3⟩
  have hsd : Sim X ρ (s.dels (id :: rows)) a w' := (hs.dels _).world (fun j z hz hb => by
    obtain ⟨_, _, h3⟩ := hsd0 j z hz
    obtain ⟨h4, h5, h6⟩ := h3 hb
    exact hkx.block _ h4 (by simp only [List.mem_cons, not_or]; exact ⟨h5, h6⟩)) hfr
  obtain ⟨hac, hspl⟩ := abUs_cells hab
  obtain ⟨hnle, hkeys⟩ := abCs_keys hac
  have hpos : u0.cells.length ≤ xs'.size := by rw [hsize]; exact hh.2.1
  have hidr : ∀ i, siteIO o id rows ≤ i → i < n → s.men i = false := fun i h1 h2 => range_mem hnew h1 (by omega)
  have hidn : ∀ i, siteIO o id rows ≤ i → i < n → i ≠ id := fun i h1 h2 e => (men_get hy (hidr i h1 h2)).1 e.symm
  -- something in its place, whatever it is
  obtain ⟨o0, hro0, hmen0⟩ : ∃ o0 : O, RO X ρ w' id ⟨y.row, y.n, y.ty, o0⟩ ∧ ∀ i, o0.men i = false := by
    cases hyo : y.o with
    | lit l0 =>
      refine ⟨.lit (List.replicate l0.length .dead), ?_, fun i => dead_men _ _⟩
      refine RO_back (ρ' := ρ) (hs.ob id y hy) hB hm hm' hsize rfl (by rw [hyo]; simp [O.sz]) (by rw [hyo]; rfl) (by rw [hyo]; simp [O.cells]) (fun e l he => by rw [hyo] at he; cases he) (fun l hl => ⟨_, rfl⟩) ?_
      refine dead_RCs _ ?_
      simp only [O.cells, List.length_replicate, List.length_take, Array.length_toList]
      rw [hcl, hyo] at hpos
      simp only [O.cells] at hpos
      omega
    | vec e0 l0 =>
      obtain ⟨l1, rfl, h2, hu3⟩ := q5 e0 l0 hyo
      refine ⟨.vec e0 l1, ?_, fun i => rfl⟩
      refine RO_back (ρ' := ρ) (hs.ob id y hy) hB hm hm' hsize rfl q2 q3 q4 (fun e l he => by rw [hyo] at he; cases he; exact ⟨_, rfl, h2⟩) (fun l hl => by rw [hyo] at hl; cases hl) ?_
      subst hu3
      cases l with
      | nil => simp [abUs] at hab
      | cons u ls =>
        obtain rfl := abUs_vec hab
        cases hsp with
        | vec hl hsp' =>
          have hV := OwnL_Vals hol hl.symm
          have e1 : u0.cells.length = (flat e0 l1).length := by rw [hcl, ← q4]; rfl
          rw [e1] at hV
          simp only [O.cells]
          exact RCs_Vals hV
  have hs2 := hsd.back id ⟨y.row, y.n, y.ty, o0⟩ hro0 (fun j z hz hj hb => ((hsd0 j z hz).2.2 hb).2.1) (fun _ => hbown)
  obtain ⟨ρ', g1, g2, g3, g4, g5, g6⟩ := ab_ok (B := fun c => w.heap.size ≤ c ∨ c ∈ gs) (fun c hc => by
      rcases hc with hc | hc
      · exact .inl (Nat.le_trans hs.fr.size hc)
      · exact hgown c hc) cs gs' _ _ obs n _ ρ hac hol hs2 (fun j z hz hb hin => by
      have hge := abV_ok.own_ge hol _ hin
      have hlt : (ρ j).blk < w.heap.size ∧ (ρ j).blk ∉ gs := by
        rcases get_put hz with ⟨rfl, rfl⟩ | ⟨hne, hz'⟩
        · exact ⟨hblt, fun h => (hgs _ h).2 rfl⟩
        · have := (hsd0 j z hz').2.2 hb
          exact ⟨this.1, this.2.2⟩
      rcases hge with hge | hge
      · omega
      · exact hlt.2 hge) (fun i h1 h2 => men_put (men_dels (hidr i h1 h2)) (hidn i h1 h2) (hmen0 i))
  have hus3 := RUs_of_cells (hspl _ _ hsp) g2
  have hid : ρ' id = ρ id := g4 id (by
    by_cases e1 : id < siteIO o id rows
    · exact .inl e1
    · by_cases e2 : n ≤ id
      · exact .inr e2
      · exact absurd rfl (hidn id (by omega) (by omega)))
  have hroF : RO X ρ' w' id ⟨y.row, y.n, y.ty, o'⟩ := by
    refine RO_back (hs.ob id y hy) hB hm hm' hsize hid q2 q3 q4 (fun e l he => by obtain ⟨l', h1, h2, _⟩ := q5 e l he; exact ⟨l', h1, h2⟩) (fun l hl => by obtain ⟨l', h1, _⟩ := q6 l hl; exact ⟨l', h1⟩) ?_
    have e1 : o'.cells.length = u0.cells.length := by rw [q4, hcl]
    rw [e1, q1]
    have h3 := hus3.1
    cases u3 with
    | c x => cases hyo : y.o with
      | lit l0 => obtain ⟨_, _, h4⟩ := q6 l0 hyo; cases h4
      | vec e0 l0 => obtain ⟨_, _, _, h4⟩ := q5 e0 l0 hyo; cases h4
    | agg m => obtain ⟨vs, hvs, hrc⟩ := h3; cases hvs; exact hrc
    | vec e0 m => obtain ⟨vs, hvs, hrc⟩ := h3; cases hvs; exact hrc
    | box _ => exact h3.elim
  have hget2 : (St.puts ⟨(s.dels (id :: rows)).tm, putOb id ⟨y.row, y.n, y.ty, o0⟩ (s.dels (id :: rows)).ob⟩ obs).get id = some ⟨y.row, y.n, y.ty, o0⟩ := by
    rw [puts_get, putsA_out fun p hp => hidn p.1 (hkeys p hp).1 (hkeys p hp).2]
    exact look_put_same _ _ _
  have hBF : ∀ q : O, hasB ρ' id ⟨y.row, y.n, y.ty, q⟩ := fun q => by unfold hasB at hB ⊢; rw [hid]; exact hB
  have hs3 := g1.store id _ ⟨y.row, y.n, y.ty, o'⟩ hget2 (hBF _) (hBF _) hroF (fun _ _ => rfl) ⟨rfl, rfl, rfl, rfl⟩
  have hs4 : Sim X ρ' ((s.dels rows).puts (obs ++ [(id, ⟨y.row, y.n, y.ty, o'⟩)])) a w' := by
    refine hs3.same ?_ fun j => ?_
    · rw [puts_tm, dels_tm, g6]
      exact (dels_tm s (id :: rows)).symm
    · rw [puts_append]
      simp only [St.puts]
      unfold St.get
      simp only
      by_cases hj : j = id
      · subst hj; rw [look_put_same, look_put_same]
      · rw [look_put_ne _ _ hj, look_put_ne _ _ hj]
        have e1 := puts_get (s.dels rows) obs j
        have e2 := puts_get ⟨(s.dels (id :: rows)).tm, putOb id ⟨y.row, y.n, y.ty, o0⟩ (s.dels (id :: rows)).ob⟩ obs j
        unfold St.get at e1 e2
        simp only at e1 e2
        rw [e1, e2]
        congr 1
        rw [look_put_ne _ _ hj]
        have e3 := dels_get s rows j
        have e4 := dels_get s (id :: rows) j
        unfold St.get at e3 e4
        rw [e3, e4]
        simp only [List.mem_cons, hj, false_or]
  refine ⟨ρ', ?_⟩
  cases hd : o.dst with
  | none => simpa [Eff.app, Act.put] using hs4
  | some d =>
    rw [hval]
    simpa [Eff.app] using hs4.set d (tupV_RV hus3.2)

end Go.Proofs.Ytgimohchocjgcaa.V
