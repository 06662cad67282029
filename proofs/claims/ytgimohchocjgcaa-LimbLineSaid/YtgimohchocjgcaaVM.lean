/- What is made: boxes, lists. -/
import Derived.Test.YtgimohchocjgcaaVL
set_option linter.unusedVariables false
set_option linter.unusedSimpArgs false
namespace Go.Proofs.Ytgimohchocjgcaa.V

variable {X : Ctx} {ρ : Nat → RI} {s : St} {a : Act} {w : World}

theorem Frm.alloc (h : Frm X w) (o : Obj) : Frm X (w.alloc o) :=
  ⟨h.os, h.tape, h.output, by have := h.size; simp; omega, fun k hk hm => by rw [heap_alloc_old w o k (Nat.lt_of_lt_of_le hk h.size)]; exact h.block k hk hm⟩

theorem Sim.lt (h : Sim X ρ s a w) {id : Nat} {x : Ob} (hx : s.get id = some x) (hb : hasB ρ id x) : (ρ id).blk < w.heap.size := by
  rcases (h.ob id x hx).mem with ⟨h1, h2, _⟩ | ⟨vs, ty, cap, h1, _⟩
  · rcases hb with hb | hb
    · rw [h1] at hb; cases hb
    · exact absurd h2 hb
  · exact (Array.getElem?_eq_some_iff.1 h1).1

theorem Sim.alloc (h : Sim X ρ s a w) (o : Obj) : Sim X ρ s a (w.alloc o) :=
  h.world (fun _ _ hx hb => heap_alloc_old w o _ (h.lt hx hb)) (h.fr.alloc o)

/-- An operation that lays a new block and hands back what stands for it. -/
theorem wp_new {o : Oper} {id : Nat} {x : Ob} {v : V} {val : Value} {vs : Array Value} {ty : TypeId} {r : RI} {rd : List Nat} {Q : Exit → Act → World → Prop} (h : Sim X ρ s a w) (hm : s.men id = false)
    (hr : (execOp a.eval o).run X.P w = .ok (.value val) (w.alloc (.cells vs ty))) (hblk : r.blk = w.heap.size) (hro : RO X (upd ρ id r) (w.alloc (.cells vs ty)) id x) (hv : RV X (upd ρ id r) v val) :
    o.wp X.P a w (fun a' w' => ∃ ρ', Sim X ρ' ((⟨o.dst, v, [(id, x)], [], [id], rd⟩ : Eff).app s) a' w') Q := by
  have h2 := (h.alloc (.cells vs ty)).add id x r hm hro (fun _ => ⟨fun j y hy hb => by rw [hblk]; have := h.lt hy hb; omega, .inl (by rw [hblk]; exact h.fr.size)⟩)
  unfold Oper.wp
  rw [hr]
  refine ⟨upd ρ id r, ?_⟩
  cases hd : o.dst with
  | none => simpa [Eff.app, St.dels, St.puts, Act.put] using h2
  | some d => simpa [Eff.app, St.dels, St.puts] using h2.set d hv

theorem anyN_one {p : Nat → Bool} {n : Nat} (h : anyN p [n] = false) : p n = false := by
  unfold anyN at h
  cases hp : p n with
  | true => rw [hp] at h; cases h
  | false => rfl

theorem upd_RCs {l : List C} {vs : List Value} {id : Nat} {r : RI} (hm : ∀ j, anyC (C.men j) l = true → j ≠ id) (h : RCs X ρ l vs) : RCs X (upd ρ id r) l vs :=
  RCs_congr (fun j hj => upd_ne (hm j hj)) h

theorem newOb_ok {t : TypeId} {ti : TI} {u : U} {x : Ob} (hp : PDok X.P X.pd) (hti : X.pd.ti t = some ti) (h : X.pd.newOb t u = some (true, x)) :
    x.o.cells = u.cells ∧ u.cells.length = ti.size ∧ x.row = false ∧ (∀ e l, x.o = .vec e l → l.length = x.n) ∧ ¬ PIN ≤ x.ty := by
  unfold PD.newOb at h
  simp only [hti] at h
  cases ha : X.pd.arrLike t with
  | some p =>
    obtain ⟨n, e⟩ := p
    simp only [ha] at h
    obtain ⟨hsz, _⟩ := arrLike_spec hp ha hti
    cases u with
    | c _ => cases h
    | agg _ => cases h
    | box _ => cases h
    | vec f m =>
      simp only at h
      split at h
      · rename_i m' hm'
        obtain ⟨hfl, hlen, rfl⟩ := castL_flat hm'
        simp only [Option.some.injEq, Prod.mk.injEq] at h
        obtain ⟨hg, rfl⟩ := h
        obtain ⟨hg1, hg2⟩ := Bool.and_eq_true_iff.1 hg
        have e1 := Nat.beq_true hg2
        exact ⟨by simp [O.cells, U.cells, hfl], by rw [U.cells, flat_length, hlen, e1, hsz], rfl, fun e l h => by cases h; exact e1, Nat.not_le.2 (by simpa using hg1)⟩
      · cases h
  | none =>
    simp only [ha] at h
    obtain ⟨h0, h1⟩ := cond_some h
    simp only [Option.some.injEq, Prod.mk.injEq, true_and] at h1
    subst h1
    obtain ⟨hg1, hg2⟩ := Bool.and_eq_true_iff.1 h0
    exact ⟨rfl, Nat.beq_true hg2, rfl, fun e l h => (by cases h), Nat.not_le.2 (by simpa using hg1)⟩

/-- A new object that is no list. -/
theorem RO_new {x : Ob} {id : Nat} {r : RI} {vs : List Value} {ty : TypeId} (hrow : x.row = false) (hn : ∀ e l, x.o = .vec e l → l.length = x.n) (hpin : ¬ PIN ≤ x.ty) (hblk : r.blk = w.heap.size) (hsz : r.sz = x.o.sz) (hlen : r.len = x.o.len)
    (hc : RCs X (upd ρ id r) x.o.cells vs) : RO X (upd ρ id r) (w.alloc (.cells vs.toArray ty)) id x := by
  have hl := RCs_length hc
  refine ⟨by rw [upd_same]; exact hsz, by rw [upd_same]; exact hlen, fun _ _ => hn, (fun h => by rw [hrow] at h; cases h), .inr ⟨vs.toArray, ty, 0, ?_, ?_, by simp [hl], fun _ => ⟨by simp [hl], fun h => absurd h hpin⟩, (fun h => by rw [hrow] at h; cases h)⟩⟩
  · rw [upd_same, hblk]; exact heap_alloc_new w _
  · rw [hl, List.take_of_length_le (by simp)]; exact hc

theorem pos_ptr {x : Ob} (h : 0 < x.o.cells.length) : 0 < x.o.len ∧ 0 < x.o.sz := by
  cases hx : x.o with
  | lit l => rw [hx] at h; exact ⟨Nat.one_pos, h⟩
  | vec e l =>
    rw [hx, O.cells, flat_length] at h
    exact ⟨Nat.pos_of_mul_pos_right h, size_pos e⟩

theorem men_ofCell (v : Value) (z : C) (id : Nat) : (ofCell v z).men id = false := by
  unfold ofCell
  split <;> first | rfl | skip
  · cases inRange _ _ <;> rfl
  · cases inRange _ _ <;> rfl
  · cases inRange _ _ <;> rfl
  · split
    · cases (Nat.beq _ 0 && Nat.beq _ 0) <;> rfl
    · rfl

theorem men_ofCells (vs : List Value) (zs : List C) (id : Nat) : anyC (C.men id) (ofCells vs zs) = false := by
  induction vs generalizing zs with
  | nil => cases zs <;> rfl
  | cons v vs ih => cases zs with
    | nil => rfl
    | cons z zs => simp [ofCells, anyC, men_ofCell, ih]

theorem men_cells {u : U} {id : Nat} (h : ∀ l, u ≠ .box l) : u.men id = anyC (C.men id) u.cells := by
  cases u with
  | c x => simp only [U.men, U.cells, anyC]; cases x.men id <;> rfl
  | agg l => rfl
  | vec e l => simp only [U.men, U.cells, men_flat]
  | box l => exact absurd rfl (h l)

theorem mkU_men {pd : PD} {t : TypeId} {cs : List C} {u : U} {id : Nat} (h : pd.mkU t cs = some u) (hm : anyC (C.men id) cs = false) : u.men id = false := by
  obtain ⟨ti, _, h2, h3⟩ := mkU_spec h
  rw [men_cells, h2]
  · exact hm
  · intro l he
    subst he
    rcases h3 with ⟨_, ⟨l, h⟩ | ⟨e, l, h⟩⟩ | ⟨_, c, h, _⟩ <;> cases h

theorem men_ofVal (pd : PD) (t : TypeId) (v : Value) (id : Nat) : (pd.ofVal t v).men id = false := by
  unfold PD.ofVal
  cases pd.ti t with
  | none =>
    simp only
    split
    · exact men_ofCell _ _ _
    · rfl
    · rfl
  | some ti =>
    simp only
    split
    · cases (ti.k.agg && Nat.beq _ _) with
      | false => rfl
      | true =>
        simp only [cond_true]
        split
        · rename_i u hu
          exact mkU_men hu (men_ofCells _ _ _)
        · rfl
    · split
      · exact men_ofCell _ _ _
      · rfl

theorem men_ev {t : TypeId} {x : Operand} {id : Nat} (hm : s.men id = false) : (X.pd.ev t s x).men id = false := by
  cases x with
  | tmp i =>
    simp only [PD.ev, List.getD_eq_getElem?_getD]
    cases hi : s.tm[i]? with
    | none => rfl
    | some v => exact men_slot hi hm
  | const v => exact men_ofVal _ _ _ _
  | global g => rfl
  | func f => rfl

theorem solid_box {u : U} (h : u.solid = true) : ∀ l, u ≠ .box l := by
  intro l e; subst e; cases h

theorem does_box {o : Oper} (hp : PDok X.P X.pd) (t : TypeId) (x : Operand) (ho : o.op = .box t x) {u : U} {y : Ob} {id : Nat} {rd : List Nat} {ti : TI} (hti : X.pd.ti t = some ti) (hpos : 0 < ti.size)
    (hu : X.pd.ev t s x = .u u) (hsol : u.solid = true) (hy : X.pd.newOb t u = some (true, y)) : Does X o s ⟨o.dst, .u (.c (.ptr id 0 0)), [(id, y)], [], [id], rd⟩ := by
  intro ρ a w Q h hnew
  have hm := anyN_one hnew
  have hv := ev_ok h t x
  rw [hu] at hv
  obtain ⟨hc1, _⟩ := RU_cells hv hsol
  obtain ⟨h1, h2, h3, h4, h5⟩ := newOb_ok hp hti hy
  have hmen : anyC (C.men id) u.cells = false := by
    rw [← men_cells (solid_box hsol)]
    have := men_ev (X := X) (t := t) (x := x) hm
    rw [hu] at this
    exact this
  have hpp := pos_ptr (x := y) (by rw [h1, h2]; exact hpos)
  refine wp_new (r := ⟨w.heap.size, undef, y.o.sz, y.o.len⟩) (vs := (a.eval x).cells) (ty := t) (val := .pointer (some ⟨w.heap.size, 0, none⟩)) h hm ?_ rfl ?_ ?_
  · simp [execOp, ho, Instr.box, newVar, newRow, newObj]; rfl
  · have := RO_new (ρ := ρ) (id := id) (w := w) (ty := t) (r := ⟨w.heap.size, undef, y.o.sz, y.o.len⟩) (vs := (a.eval x).cells.toList) h3 h4 h5 rfl rfl rfl (by
      rw [h1]
      refine upd_RCs (fun j hj e => ?_) hc1
      subst e
      rw [hmen] at hj; cases hj)
    simpa using this
  · show RC X _ (.ptr id 0 0) _
    simp only [RC, upd_same]
    exact ⟨hpp.1, hpp.2, by simp⟩

/-! ### The zero value -/

theorem flat_replicate (e : El) (n : Nat) (x : e.T) : flat e (List.replicate n x) = (List.replicate n (e.toC x)).flatten := by
  induction n with
  | zero => rfl
  | succ n ih => simp [List.replicate_succ, flat, ih]

theorem val_of_zero {v : Value} {c : C} (h : zeroC v c) : c.solid = true := by
  unfold zeroC at h
  split at h
  · rfl
  · cases c <;> first | rfl | (simp [C.val] at h)

/-! ### Lists of one's own -/

/-- A new list, not nil. -/
theorem RO_row {id : Nat} {r : RI} {e : El} {l : List e.T} {vs : Array Value} {cap : Nat} {ty : TypeId} (hblk : r.blk = w.heap.size) (hsz : r.sz = e.size) (hlen : r.len = l.length)
    (hval : r.val = .slice (some ⟨w.heap.size, 0, none⟩) l.length cap) (hcap : l.length ≤ cap) (hmax : cap ≤ maxLen) (hvs : vs.size = cap * e.size) (hc : RCs X (upd ρ id r) (flat e l) (vs.toList.take (l.length * e.size))) :
    RO X (upd ρ id r) (w.alloc (.cells vs ty)) id ⟨true, 0, ty, .vec e l⟩ := by
  refine ⟨by rw [upd_same]; exact hsz, by rw [upd_same]; exact hlen, (fun h => by cases h), fun _ => ⟨⟨e, l, rfl⟩, rfl⟩, .inr ⟨vs, ty, cap, ?_, ?_, ?_, (fun h => by cases h), fun _ => ⟨rfl, ?_, hcap, hmax, hvs⟩⟩⟩
  · rw [upd_same, hblk]; exact heap_alloc_new w _
  · simp only [O.cells, flat_length]; exact hc
  · simp only [O.cells, flat_length, hvs]; exact Nat.mul_le_mul_right _ hcap
  · rw [upd_same, hblk]; exact hval

/-- The nil list. -/
theorem RO_nil {id : Nat} {r : RI} {e : El} {ty : TypeId} (hsz : r.sz = e.size) (hlen : r.len = 0) (hval : r.val = .slice none 0 0) : RO X (upd ρ id r) w id ⟨true, 0, ty, .vec e []⟩ :=
  ⟨by rw [upd_same]; exact hsz, by rw [upd_same]; exact hlen, (fun h => by cases h), fun _ => ⟨⟨e, [], rfl⟩, rfl⟩, .inl ⟨rfl, by rw [upd_same]; exact hval, rfl⟩⟩

theorem does_nil {o : Oper} (x : Operand) (ho : o.op = .move x ∨ o.op = .assign x) (hx : x = .const (.slice none 0 0)) {e : El} {ty : TypeId} {id : Nat} {rd : List Nat} :
    Does X o s ⟨o.dst, .u (.c (.row id)), [(id, ⟨true, 0, ty, .vec e []⟩)], [], [id], rd⟩ := by
  intro ρ a w Q h hnew
  have hm := anyN_one hnew
  have h2 := h.add id ⟨true, 0, ty, .vec e []⟩ ⟨0, .slice none 0 0, e.size, 0⟩ hm (RO_nil rfl rfl rfl) (fun hb => by
    rcases hb with hb | hb
    · cases hb
    · rw [upd_same] at hb; exact absurd rfl hb)
  unfold Oper.wp
  rw [show (execOp a.eval o).run X.P w = .ok (.value (.slice none 0 0)) w from by rcases ho with ho | ho <;> simp [execOp, ho, hx, Act.eval]]
  refine ⟨upd ρ id ⟨0, .slice none 0 0, e.size, 0⟩, ?_⟩
  cases hd : o.dst with
  | none => simpa [Eff.app, St.dels, St.puts, Act.put] using h2
  | some d =>
    have := h2.set d (v := .u (.c (.row id))) (x := .slice none 0 0) (show RC X _ (.row id) _ from ⟨by rw [upd_same], none, 0, 0, rfl⟩)
    simpa [Eff.app, St.dels, St.puts] using this

theorem RCs_replicate {cs : List C} {vs : List Value} (h : RCs X ρ cs vs) (n : Nat) : RCs X ρ (List.replicate n cs).flatten (List.replicate n vs).flatten := by
  induction n with
  | zero => trivial
  | succ n ih => simp only [List.replicate_succ, List.flatten_cons]; exact RCs_append h ih

theorem zeros_eq (z : Array Value) (n : Nat) : ((Array.range (n * z.size)).map (z[· % z.size]!)).toList = (List.replicate n z.toList).flatten := by
  apply List.ext_getElem?
  intro j
  simp only [Array.toList_map, Array.toList_range, List.getElem?_map]
  induction n generalizing j with
  | zero => simp
  | succ n ih =>
    simp only [List.replicate_succ, List.flatten_cons, List.getElem?_append, Array.length_toList]
    by_cases hj : j < z.size
    · rw [List.getElem?_range (by rw [Nat.succ_mul]; omega)]
      simp [hj, Nat.mod_eq_of_lt hj, getElem!_pos]
    · rw [if_neg hj, ← ih (j - z.size)]
      by_cases h2 : j < (n + 1) * z.size
      · have h3 : j - z.size < n * z.size := by rw [Nat.succ_mul] at h2; omega
        rw [List.getElem?_range h2, List.getElem?_range h3]
        have : (j - z.size) % z.size = j % z.size := by rw [← Nat.mod_eq_sub_mod (by omega)]
        simp [this]
      · have h3 : ¬ j - z.size < n * z.size := by rw [Nat.succ_mul] at h2; omega
        rw [List.getElem?_eq_none (by simp; omega), List.getElem?_eq_none (by simp; omega)]

theorem zeroCs_of {P : Program} {pd : PD} (hp : PDok P pd) {et : TypeId} {e : El} {ei : TI} (hei : pd.ti et = some ei) (hel : pd.el et = some e) :
    ∃ i z, P.info? et = some i ∧ i.size = e.size ∧ i.bytes = ei.bytes ∧ i.zero = some z ∧ zeroCs z.cells.toList (e.toC e.zero) ∧ z.cells.size = e.size := by
  obtain ⟨ti, h1, h2, h3⟩ := hp.el _ _ hel
  rw [hei] at h1
  cases h1
  have hTI := hp.ti _ _ hei
  obtain ⟨i, z, h4, h5, h6, h7, h8, _⟩ := hTI.info
  rw [h3] at h8
  refine ⟨i, z, h4, by rw [h5, h2], h6, h7, h8, ?_⟩
  have := RCs_length (X := ⟨P, pd, default, fun _ => False, fun _ => (0, 0, 0, 0)⟩) (ρ := fun _ => ⟨0, undef, 0, 0⟩) (RCs_zero h8)
  rw [toC_length] at this
  simpa using this.symm

theorem does_make {o : Oper} (hp : PDok X.P X.pd) (t : TypeId) (n m : Operand) (ho : o.op = .makeSlice t n m) {et : TypeId} {e : El} {ei : TI} {sz by' : Nat} {zz : List C} {k : Int} {id : Nat} {rd : List Nat}
    (ht : X.pd.ti t = some ⟨.slice et, sz, by', zz⟩) (hei : X.pd.ti et = some ei) (hel : X.pd.el et = some e) (hn : (X.pd.ev 3 s n).c? = some (.int k)) (hm : (X.pd.ev 3 s m).c? = some (.int k))
    (h0 : 0 ≤ k) (hb0 : 0 < ei.bytes) (hb : k.toNat * ei.bytes ≤ 140737488355328) : Does X o s ⟨o.dst, .u (.c (.row id)), [(id, ⟨true, 0, et, .vec e (List.replicate k.toNat e.zero)⟩)], [], [id], rd⟩ := by
  intro ρ a w Q h hnew
  have hmen := anyN_one hnew
  have e1 := val_of_RC (X := X) (ρ := ρ) (c := .int k) rfl (ev_c h hn)
  have e2 := val_of_RC (X := X) (ρ := ρ) (c := .int k) rfl (ev_c h hm)
  have hk := (hp.ti _ _ ht).kind
  obtain ⟨i, z, hi1, hi2, hi3, hi4, hz, hzs⟩ := zeroCs_of hp hei hel
  obtain ⟨c, rfl⟩ := Int.eq_ofNat_of_zero_le h0
  simp only [Int.toNat_natCast] at hb ⊢
  have hc : c ≤ 140737488355328 := Nat.le_trans (Nat.le_mul_of_pos_right c hb0) hb
  have hw : IntKind.i64.wrap (c : Int) = c := by rw [IntKind.wrap_i64]; omega
  have hbi : (i.bytes : Int) * c ≤ 2 ^ 48 := by
    have h1 : (c : Int) * ei.bytes ≤ 140737488355328 := by have := hb; omega
    rw [hi3, Int.mul_comm]
    omega
  have hrun : (execOp a.eval o).run X.P w = .ok (.value (.slice (some ⟨w.heap.size, 0, none⟩) c c)) (w.alloc (.cells ((Array.range (c * i.size)).map (z.cells[· % z.cells.size]!)) et)) := by
    have hroom : ¬ (c * i.bytes > roomBytes) := by rw [hi3]; simp only [roomBytes]; omega
    simp only [execOp, ho, e1, e2, Instr.makeSlice, Sem.run_bind, run_underlying hk, Result.andThen_ok, asInt, asIntOf, Sem.run_pure, typeInfo, run_program, hi1, hw]
    rw [show ((decide ((c : Int) < 0) || decide (↑i.bytes * (c : Int) > 2 ^ 48) || decide ((c : Int) < 0) || decide ((c : Int) > c)) : Bool) = false from by simp; omega]
    simp only [Bool.false_eq_true, if_false, askRoom, Int.toNat_natCast, if_neg hroom, Sem.run_bind, Sem.run_pure, Result.andThen_ok, sizeOf, typeInfo, run_program, hi1]
    by_cases hcz : c * i.size = 0
    · rw [if_pos hcz, hcz]
      have e0 : ∀ f : Nat → Value, Array.map f (Array.range 0) = #[] := fun f => by simp
      simp only [Sem.run_bind, Sem.run_pure, Result.andThen_ok, e0]
      rfl
    · rw [if_neg hcz]
      simp only [Sem.run_bind, Sem.run_pure, zeroValue, typeInfo, run_program, hi1, hi4, Result.andThen_ok]
      rfl
  refine wp_new (r := ⟨w.heap.size, .slice (some ⟨w.heap.size, 0, none⟩) c c, e.size, c⟩) h hmen hrun rfl ?_ ?_
  · refine RO_row (cap := c) rfl rfl (by simp) (by simp) (by simp) (by simp only [maxLen]; omega) (by simp [hi2]) ?_
    rw [List.length_replicate, ← hi2, hi2, ← hzs, zeros_eq, List.take_of_length_le (by simp), flat_replicate]
    exact RCs_replicate (RCs_zero hz) c
  · exact (show RC X _ (.row id) _ from ⟨by rw [upd_same], _, _, _, rfl⟩)

end Go.Proofs.Ytgimohchocjgcaa.V
