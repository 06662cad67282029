/- Loads, stores, boxes. -/
import Derived.Test.YtgimohchocjgcaaVK
set_option linter.unusedVariables false
set_option linter.unusedSimpArgs false
namespace Go.Proofs.Ytgimohchocjgcaa.V

variable {X : Ctx} {ρ : Nat → RI} {s : St} {a : Act} {w : World}

theorem beq3 {x y z : Bool} (h : (x && (y && z)) = true) : x = true ∧ y = true ∧ z = true := by
  simpa [Bool.and_eq_true] using h

/-- Reading an object at a place that a pointer tells. -/
theorem readOb_ok {t : TypeId} {ti : TI} {x : Ob} {id i sub : Nat} {u : U} (hp : PDok X.P X.pd) (hti : X.pd.ti t = some ti) (h : readOb X.pd t x i sub = some (true, u)) (hro : RO X ρ w id x)
    (hi : i < (ρ id).len) (hsub : sub < (ρ id).sz) :
    i * (ρ id).sz + sub + ti.size ≤ x.o.cells.length ∧ ∀ cs, RCs X ρ ((x.o.cells.drop (i * (ρ id).sz + sub)).take ti.size) cs → RU X ρ u (valOf ti.k.agg cs) := by
  rw [hro.sz]
  rw [hro.sz] at hsub
  rw [hro.len] at hi
  unfold readOb at h
  have hn := hro.n
  cases ho : x.o with
  | lit l =>
    rw [ho] at h hi hsub
    simp only [hti] at h
    obtain ⟨h0, h1⟩ := cond_some h
    simp only [Bool.and_eq_true] at h0
    have e1 := Nat.beq_true h0.1
    have e2 : sub + ti.size ≤ l.length := by simpa [Nat.ble_eq] using h0.2
    subst e1
    split at h1
    · rename_i v hv
      simp only [Option.some.injEq, Prod.mk.injEq, true_and] at h1
      subst h1
      refine ⟨by simpa [O.cells] using e2, fun cs hcs => ?_⟩
      simp only [O.cells, O.sz, Nat.zero_mul, Nat.zero_add] at hcs
      exact mkU_ok hv hcs hti
    · cases h1
  | vec e l =>
    rw [ho] at h hi hsub
    refine readVec_ok hp hti h ?_ hi
    cases hr : x.row with
    | false =>
      by_cases h0 : x.n = 0
      · exact .inl h0
      · exact .inr (hn hr h0 e l ho)
    | true => exact .inl (hro.vec hr).2

theorem does_load_ptr {o : Oper} (hp : PDok X.P X.pd) (t : TypeId) (x : Operand) (ho : o.op = .load t x) {id i sub : Nat} {y : Ob} {u : U} {rd : List Nat}
    (hx : (X.pd.ev 0 s x).c? = some (.ptr id i sub)) (hy : s.get id = some y) (hr : readOb X.pd t y i sub = some (true, u)) : Does X o s ⟨o.dst, .u u, [], [], [], rd⟩ := by
  intro ρ a w Q h _
  obtain ⟨hi, hsub, hv⟩ := ev_c h hx
  cases hti : X.pd.ti t with
  | none =>
    exfalso
    unfold readOb at hr
    split at hr
    · simp [hti] at hr
    · unfold readVec at hr; simp [hti] at hr
  | some ti =>
    have hro := h.ob id y hy
    obtain ⟨h1, h2⟩ := readOb_ok hp hti hr hro hi hsub
    have hTI := hp.ti t ti hti
    rcases Nat.eq_zero_or_pos ti.size with hz | hz
    · have hrun := run_load hTI w (ρ id).blk (i * (ρ id).sz + sub) [] (by simp [hz]) (by simp)
      refine wp_val h ?_ (show RV X ρ (.u u) _ from h2 [] (by rw [hz, List.take_zero]; trivial))
      simp [execOp, ho, hv, Instr.loadAt, Instr.sureAddr, hrun]
    · obtain ⟨cs, hc1, hc2, hc3⟩ := hro.cell h1 hz
      have hrun := run_load hTI w (ρ id).blk (i * (ρ id).sz + sub) cs hc2 hc3
      refine wp_val h ?_ (show RV X ρ (.u u) _ from h2 cs hc1)
      simp [execOp, ho, hv, Instr.loadAt, Instr.sureAddr, hrun]

theorem Frm.cell (hf : Frm X w) {b o : Nat} (hb : X.ok b) : w.cell? ⟨b, o, none⟩ = X.w0.cell? ⟨b, o, none⟩ :=
  World.cell?_of_block (hf.block b hb.1 hb.2)

theorem RCs_of_get {l : List C} {vs : List Value} (hl : l.length = vs.length) (h : ∀ (j : Nat) (c : C) (v : Value), l[j]? = some c → vs[j]? = some v → RC X ρ c v) : RCs X ρ l vs := by
  induction l generalizing vs with
  | nil => cases vs with
    | nil => trivial
    | cons v vs => simp at hl
  | cons c l ih => cases vs with
    | nil => simp at hl
    | cons v vs =>
      refine ⟨h 0 c v (by simp) (by simp), ih (by simpa using hl) fun j c v h1 h2 => h (j + 1) c v (by simpa using h1) (by simpa using h2)⟩

theorem RC_of_Holds {c : C} {v : Value} (h : Holds X.w0 X.ok c v) : RC X ρ c v := by
  cases c <;> first | exact h | (cases h with | sc h => simp [C.val] at h)

/-- What is only read, cell by cell. -/
theorem ro_cells (hf : Frm X w) {e : El} {l : List e.T} {b off o n : Nat} {f : Nat → Value} (hb : X.ok b) (h1 : ∀ (j : Nat) (c : C), (flat e l)[j]? = some c → X.w0.cell? ⟨b, off + j, none⟩ = some (f j))
    (h2 : ∀ (j : Nat) (c : C), (flat e l)[j]? = some c → Holds X.w0 X.ok c (f j)) (hn : o + n ≤ (flat e l).length) :
    ∃ cs : List Value, RCs X ρ (((flat e l).drop o).take n) cs ∧ cs.length = n ∧ ∀ j v, cs[j]? = some v → w.cell? ⟨b, off + o + j, none⟩ = some v := by
  refine ⟨(List.range n).map (fun j => f (o + j)), RCs_of_get (by simp; omega) fun j c v hc hv => ?_, by simp, fun j v hv => ?_⟩
  · simp only [List.getElem?_take, List.getElem?_drop] at hc
    split at hc
    · simp only [List.getElem?_map] at hv
      rw [List.getElem?_range (by assumption)] at hv
      simp at hv
      subst hv
      exact RC_of_Holds (h2 _ c hc)
    · cases hc
  · simp only [List.getElem?_map] at hv
    by_cases hj : j < n
    · rw [List.getElem?_range hj] at hv
      simp at hv
      subst hv
      have hlt : o + j < (flat e l).length := by omega
      rw [hf.cell hb, Nat.add_assoc]
      exact h1 (o + j) _ (List.getElem?_eq_getElem hlt)
    · rw [List.getElem?_eq_none (by simp; omega)] at hv
      simp at hv

theorem does_load_rop {o : Oper} (hp : PDok X.P X.pd) (t : TypeId) (x : Operand) (ho : o.op = .load t x) {e : El} {l : List e.T} {i sub : Nat} {u : U} {rd : List Nat}
    (hx : (X.pd.ev 0 s x).c? = some (.rop e l i sub)) (hr : readVec X.pd t 0 e l i sub = some (true, u)) : Does X o s ⟨o.dst, .u u, [], [], [], rd⟩ := by
  intro ρ a w Q h _
  obtain ⟨hi, hsub, b, off, hv, hb, f, hf1, hf2⟩ := ev_c h hx
  cases hti : X.pd.ti t with
  | none => exfalso; unfold readVec at hr; simp [hti] at hr
  | some ti =>
    obtain ⟨h1, h2⟩ := readVec_ok (ρ := ρ) hp hti hr (.inl rfl) hi
    obtain ⟨cs, hc1, hc2, hc3⟩ := ro_cells (ρ := ρ) h.fr (o := i * e.size + sub) (n := ti.size) hb hf1 hf2 h1
    have hrun := run_load (hp.ti t ti hti) w b (off + (i * e.size + sub)) cs hc2 hc3
    refine wp_val h ?_ (show RV X ρ (.u u) _ from h2 cs hc1)
    simp [execOp, ho, hv, Instr.loadAt, Instr.sureAddr, hrun]

/-! ### Stores -/

theorem writeOb_ok {t : TypeId} {ti : TI} {x : Ob} {i sub : Nat} {u : U} {o' : O} (hp : PDok X.P X.pd) (hti : X.pd.ti t = some ti) (h : writeOb X.pd t x i sub u = some (true, o'))
    (hn : x.row = false → x.n ≠ 0 → ∀ e l, x.o = .vec e l → l.length = x.n) (hrow : x.row = true → x.n = 0) (hi : i < x.o.len) :
    o'.cells = splice x.o.cells (i * x.o.sz + sub) u.cells ∧ i * x.o.sz + sub + ti.size ≤ x.o.cells.length ∧ u.cells.length = ti.size ∧ o'.sz = x.o.sz ∧ o'.len = x.o.len ∧
      (∀ e l, x.o = .vec e l → ∃ l', o' = .vec e l' ∧ l'.length = l.length) := by
  unfold writeOb at h
  simp only [hti] at h
  cases ho : x.o with
  | lit l =>
    rw [ho] at h hi
    simp only at h
    obtain ⟨h0, h1⟩ := cond_some h
    simp only [Option.some.injEq, Prod.mk.injEq, true_and] at h1
    subst h1
    simp only [Bool.and_eq_true] at h0
    have e1 := Nat.beq_true h0.1
    have e2 : sub + ti.size ≤ l.length := by simpa [Nat.ble_eq] using h0.2.1
    have e3 := Nat.beq_true h0.2.2
    subst e1
    have hsl : (splice l sub u.cells).length = l.length := splice_length _ _ _ (by omega)
    exact ⟨by simp [O.cells], by simpa [O.cells] using e2, e3, by simp [O.sz, hsl], rfl, fun e l h => by cases h⟩
  | vec e l =>
    rw [ho] at h hi
    simp only at h
    split at h
    · rename_i n hc
      obtain ⟨h0, h1⟩ := cond_some hc
      have hs0 := Nat.beq_true h0
      subst hs0
      obtain ⟨hsz, _⟩ := arrOf_spec hp h1 hti
      cases u with
      | c _ => cases h
      | agg _ => cases h
      | box _ => cases h
      | vec f m =>
      simp only at h
      split at h
      · rename_i m' hm'
        obtain ⟨hfl, hlen, rfl⟩ := castL_flat hm'
        cases hb : (Nat.beq n x.n && (Nat.beq i 0 && Nat.blt 0 n)) with
        | true =>
          rw [hb] at h
          simp only [cond_true, Option.some.injEq, Prod.mk.injEq] at h
          obtain ⟨hg, rfl⟩ := h
          simp only [Bool.and_eq_true] at hb
          have e1 := Nat.beq_true hb.1
          have e2 := Nat.beq_true hb.2.1
          have e3 : 0 < n := by simpa [Nat.blt_eq] using hb.2.2
          have e4 := Nat.beq_true hg
          subst e2
          have hl : l.length = n := by
            cases hr : x.row with
            | false => rw [hn hr (by omega) f l ho, e1]
            | true => have := hrow hr; omega
          have h5 : (U.vec f m).cells.length = ti.size := by rw [U.cells, flat_length, hlen, e4, hsz]
          refine ⟨?_, ?_, h5, rfl, by simp [O.len]; omega, fun e2 l2 h2 => by cases h2; exact ⟨_, rfl, by omega⟩⟩
          · simp only [O.cells, U.cells, Nat.zero_mul, Nat.add_zero, splice, List.take_zero, List.nil_append, Nat.zero_add]
            rw [List.drop_of_length_le (by rw [flat_length, flat_length, hlen, e4, hl]; omega), List.append_nil, hfl]
          · simp only [O.cells, flat_length, hl, hsz]; omega
        | false =>
          rw [hb] at h
          simp only [cond_false, Option.some.injEq, Prod.mk.injEq, Bool.and_eq_true] at h
          obtain ⟨⟨hg1, hg2⟩, rfl⟩ := h
          have e1 : i + n ≤ l.length := by simpa [leN] using hg1
          have e4 := Nat.beq_true hg2
          have h5 : (U.vec f m).cells.length = ti.size := by rw [U.cells, flat_length, hlen, e4, hsz]
          have hsl : (splice l i m').length = l.length := splice_length _ _ _ (by omega)
          refine ⟨?_, ?_, h5, rfl, by simp [O.len, hsl], fun e2 l2 h2 => by cases h2; exact ⟨_, rfl, hsl⟩⟩
          · simp only [O.cells, U.cells, O.sz, Nat.add_zero]
            rw [flat_splice, hfl]
          · simp only [O.cells, O.sz, flat_length, hsz, Nat.add_zero, ← Nat.add_mul]; exact Nat.mul_le_mul_right _ e1
      · cases h
    · obtain ⟨h0, h1⟩ := cond_some h
      simp only [Bool.and_eq_true] at h0
      have e2 : sub + ti.size ≤ e.size := by simpa [Nat.ble_eq] using h0.1
      have e3 := Nat.beq_true h0.2
      split at h1
      · rename_i y hy
        simp only [Option.some.injEq, Prod.mk.injEq, true_and] at h1
        subst h1
        have h6 := ofC_spec e _ _ hy
        have hi : i < l.length := hi
        have hlen : i * e.size + e.size ≤ (flat e l).length := by
          rw [flat_length]
          have : (i + 1) * e.size ≤ l.length * e.size := Nat.mul_le_mul_right _ hi
          rwa [Nat.add_mul, Nat.one_mul] at this
        have h7 : (e.toC y).length = e.size := toC_length e y
        refine ⟨?_, by simp only [O.cells, O.sz]; omega, e3, rfl, by simp [O.len, setL_length], fun e2 l2 h2 => by cases h2; exact ⟨_, rfl, setL_length _ _ _⟩⟩
        simp only [O.cells, O.sz]
        rw [setL_eq l i y hi, flat_splice]
        have h8 : flat e [y] = splice ((List.drop (i * e.size) (flat e l)).take e.size) sub u.cells := by
          rw [flat_at e l i hi, h6]; simp [flat]
        rw [h8]
        exact splice_splice _ _ _ _ _ hlen (by omega)
      · cases h1

theorem does_store {o : Oper} (hp : PDok X.P X.pd) (t : TypeId) (x v : Operand) (ho : o.op = .store t x v) {id i sub : Nat} {y : Ob} {u : U} {o' : O} {rd : List Nat}
    (hx : (X.pd.ev 0 s x).c? = some (.ptr id i sub)) (hu : X.pd.ev t s v = .u u) (hsol : u.solid = true) (hy : s.get id = some y) (hr : writeOb X.pd t y i sub u = some (true, o')) :
    Does X o s ⟨o.dst, .dead, [(id, ⟨y.row, y.n, y.ty, o'⟩)], [], [], rd⟩ := by
  intro ρ a w Q h _
  obtain ⟨hi, hsub, hv⟩ := ev_c h hx
  have hval := ev_ok h t v
  rw [hu] at hval
  cases hti : X.pd.ti t with
  | none => exfalso; unfold writeOb at hr; simp [hti] at hr
  | some ti =>
    have hro := h.ob id y hy
    have hi2 := hi
    rw [hro.len] at hi2
    obtain ⟨h1, h2, h3, h4, h5, h6⟩ := writeOb_ok hp hti hr hro.n (fun hh => (hro.vec hh).2) hi2
    obtain ⟨hc1, hc2⟩ := RU_cells hval hsol
    have hlen := RCs_length hc1
    have hTI := hp.ti t ti hti
    have hBy : hasB ρ id y := by
      cases hrow : y.row with
      | false => exact .inl hrow
      | true =>
        right
        intro hnil
        rcases hro.mem with ⟨_, _, h3'⟩ | ⟨vs, ty, cap, _, _, _, _, h5'⟩
        · obtain ⟨⟨e, l, he⟩, _⟩ := hro.vec hrow
          rw [he, O.cells] at h3'
          rw [he, O.len] at hi2
          have := flat_length e l
          rw [h3'] at this
          have hp := Nat.mul_pos (show 0 < l.length by omega) (size_pos e)
          simp at this
          have := size_pos e
          omega
        · rw [(h5' hrow).2.1] at hnil; cases hnil
    rcases hro.mem with ⟨hrow, hval', hcells⟩ | ⟨vs, ty, cap, hm1, hm2, hm3, hm4, hm5⟩
    · rcases hBy with hb | hb
      · rw [hrow] at hb; cases hb
      · exact absurd hval' hb
    · have hfit : (i * (ρ id).sz + sub) + ti.size ≤ vs.size := by rw [hro.sz]; omega
      have hrun := run_store hTI w (ρ id).blk (i * (ρ id).sz + sub) (a.eval v) vs ty hm1 (by rw [← hlen]; exact h3) hfit hc2
      unfold Oper.wp
      rw [show (execOp a.eval o).run X.P w = .ok .skip (w.setRow (ρ id).blk (splice vs.toList (i * (ρ id).sz + sub) (a.eval v).cells.toList).toArray) from by
        simp [execOp, ho, hv, Instr.storeAt, Instr.sureAddr, hrun]]
      refine ⟨ρ, ?_⟩
      have hsplen : (splice vs.toList (i * (ρ id).sz + sub) (a.eval v).cells.toList).length = vs.size := by
        rw [splice_length _ _ _ (by rw [← hlen, h3]; simpa using hfit)]; simp
      have ho'len : o'.cells.length = y.o.cells.length := by rw [h1, splice_length _ _ _ (by omega)]
      have hst : Sim X ρ ⟨s.tm, putOb id ⟨y.row, y.n, y.ty, o'⟩ s.ob⟩ a (w.setRow (ρ id).blk (splice vs.toList (i * (ρ id).sz + sub) (a.eval v).cells.toList).toArray) := by
        refine h.store id y ⟨y.row, y.n, y.ty, o'⟩ hy hBy hBy ?_ (fun k hk => setRow_other _ _ _ _ hk) ⟨rfl, rfl, rfl, size_setRow _ _ _⟩
        refine ⟨by simp only [h4]; exact hro.sz, by simp only [h5]; exact hro.len, fun hrow hn0 e l he => ?_, fun hrow => ?_, .inr ⟨_, ty, cap, setRow_heap w _ vs _ ty _ hm1, ?_, ?_, fun hrow => ?_, fun hrow => ?_⟩⟩
        · cases hyo : y.o with
          | lit l0 =>
            exfalso
            rw [hyo] at h4
            unfold writeOb at hr
            simp only [hti, hyo] at hr
            obtain ⟨_, hr2⟩ := cond_some hr
            simp only [Option.some.injEq, Prod.mk.injEq] at hr2
            rw [← hr2.2] at he
            cases he
          | vec e0 l0 =>
            obtain ⟨l', he', hl'⟩ := h6 e0 l0 hyo
            simp only at he
            rw [he'] at he
            cases he
            rw [hl']
            exact hro.n hrow hn0 _ _ hyo
        · obtain ⟨⟨e0, l0, hyo⟩, hn⟩ := hro.vec hrow
          obtain ⟨l', he', _⟩ := h6 e0 l0 hyo
          exact ⟨⟨e0, l', he'⟩, hn⟩
        · simp only [ho'len]
          rw [h1, hro.sz]
          have e1 : (splice vs.toList (i * y.o.sz + sub) (a.eval v).cells.toList).toArray.toList.take y.o.cells.length = splice (vs.toList.take y.o.cells.length) (i * y.o.sz + sub) (a.eval v).cells.toList := by
            simp only [splice]
            apply List.ext_getElem?
            intro j
            simp only [List.getElem?_append, List.length_take, List.length_drop, List.getElem?_take, List.getElem?_drop, Array.length_toList]
            grind
          rw [e1]
          exact RCs_splice hm2 hc1 _
        · simp only [ho'len, List.size_toArray, hsplen]; exact hm3
        · simp only [ho'len, List.size_toArray, hsplen]; exact hm4 hrow
        · have := hm5 hrow
          simp only [h4, h5, List.size_toArray, hsplen]
          exact this
      cases hd : o.dst with
      | none => simpa [Eff.app, St.dels, St.puts, Act.put] using hst
      | some d => simpa [Eff.app, St.dels, St.puts] using hst.set d (v := .dead) trivial

end Go.Proofs.Ytgimohchocjgcaa.V
