/- A zero value in memory; a list copied into another one. -/
import Derived.Test.YtgimohchocjgcaaVY
set_option linter.unusedVariables false
set_option linter.unusedSimpArgs false
namespace Go.Proofs.Ytgimohchocjgcaa.V

variable {X : Ctx} {ρ : Nat → RI} {s : St} {a : Act} {w : World}

theorem Sim.same (h : Sim X ρ s a w) {s' : St} (ht : s'.tm = s.tm) (hg : ∀ j, s'.get j = s.get j) : Sim X ρ s' a w :=
  ⟨by rw [ht]; exact h.tm, by rw [ht]; exact h.sz, h.df, fun id x hx => h.ob id x (by rw [← hg]; exact hx), fun i j x y hx hy => h.inj i j x y (by rw [← hg]; exact hx) (by rw [← hg]; exact hy), fun id x hx => h.own id x (by rw [← hg]; exact hx), h.fr⟩

/-- Other cells in an object's block. -/
theorem RO_write {id : Nat} {y : Ob} {vs : Array Value} {ty : TypeId} (hro : RO X ρ w id y) (hB : hasB ρ id y) (hm : w.heap[(ρ id).blk]? = some (.cells vs ty (0, 0))) (o' : O) (off : Nat) {us : List Value} {cs : List C} (hc : RCs X ρ cs us)
    (hcells : o'.cells = splice y.o.cells off cs) (hfit : off + cs.length ≤ y.o.cells.length) (hsz : o'.sz = y.o.sz) (hlen : o'.len = y.o.len) (hvec : ∀ e l, y.o = .vec e l → ∃ l', o' = .vec e l' ∧ l'.length = l.length) (hlit : ∀ l, y.o = .lit l → ∃ l', o' = .lit l') :
    RO X ρ (w.setRow (ρ id).blk (splice vs.toList off us).toArray) id ⟨y.row, y.n, y.ty, o'⟩ := by
  rcases hro.mem with ⟨hrow, hval', _⟩ | ⟨vs', ty', cap, hm1, hm2, hm3, hm4, hm5⟩
  · rcases hB with hb | hb
    · rw [hrow] at hb; cases hb
    · exact absurd hval' hb
  · rw [hm] at hm1
    cases hm1
    have hl := RCs_length hc
    have hsplen : (splice vs.toList off us).length = vs.size := by
      rw [splice_length _ _ _ (by simp; omega)]; simp
    have ho'len : o'.cells.length = y.o.cells.length := by rw [hcells, splice_length _ _ _ hfit]
    refine ⟨by simp only [hsz]; exact hro.sz, by simp only [hlen]; exact hro.len, fun hrow hn0 e l he => ?_, fun hrow => ?_, .inr ⟨_, ty, cap, setRow_heap w _ vs _ ty _ hm, ?_, ?_, fun hrow => ?_, fun hrow => ?_⟩⟩
    · cases hyo : y.o with
      | lit l0 =>
        obtain ⟨l', hl'⟩ := hlit l0 hyo
        simp only at he
        rw [hl'] at he; cases he
      | vec e0 l0 =>
        obtain ⟨l', he', hl'⟩ := hvec e0 l0 hyo
        simp only at he
        rw [he'] at he
        cases he
        rw [hl']
        exact hro.n hrow hn0 _ _ hyo
    · obtain ⟨⟨e0, l0, hyo⟩, hn⟩ := hro.vec hrow
      obtain ⟨l', he', _⟩ := hvec e0 l0 hyo
      exact ⟨⟨e0, l', he'⟩, hn⟩
    · simp only [ho'len]
      rw [hcells]
      have e1 : (splice vs.toList off us).toArray.toList.take y.o.cells.length = splice (vs.toList.take y.o.cells.length) off us := by
        simp only [splice]
        apply List.ext_getElem?
        intro j
        simp only [List.getElem?_append, List.length_take, List.length_drop, List.getElem?_take, List.getElem?_drop, Array.length_toList]
        grind
      rw [e1]
      exact RCs_splice hm2 hc _
    · simp only [ho'len, List.size_toArray, hsplen]; exact hm3
    · simp only [ho'len, List.size_toArray, hsplen]; exact hm4 hrow
    · have := hm5 hrow
      simp only [hsz, hlen, List.size_toArray, hsplen]
      exact this

theorem OwnL_zero {els : List (Nat × El)} {B : Nat → Prop} {vs : List Value} {cs : List C} (h : zeroCs vs cs) : OwnL els w B cs vs [] := by
  induction cs generalizing vs with
  | nil => cases vs with
    | nil => exact .nil
    | cons v vs => exact h.elim
  | cons c cs ih => cases vs with
    | nil => exact h.elim
    | cons v vs =>
      obtain ⟨h1, h2⟩ := h
      unfold zeroC at h1
      split at h1
      · subst h1; exact .nilr (ih h2)
      · exact .sc h1 (ih h2)

theorem abC_men {pd : PD} {n m id : Nat} {c d : C} {o : List (Nat × Ob)} (h : abC pd n c = some (d, o, m)) (hid : id < n) : d.men id = false := by
  unfold abC at h
  split at h
  · split at h
    · simp only [Option.some.injEq, Prod.mk.injEq] at h
      obtain ⟨rfl, _, _⟩ := h
      exact beq_ne (by omega)
    · cases h
  · simp only [Option.some.injEq, Prod.mk.injEq] at h
    obtain ⟨rfl, _, _⟩ := h
    exact beq_ne (by omega)
  all_goals first | (cases h; done) | skip
  rename_i h1 h2 h3 h4 h5 h6 h7 h8
  simp only [Option.some.injEq, Prod.mk.injEq] at h
  obtain ⟨rfl, _, _⟩ := h
  cases c <;> first | rfl | (exact absurd rfl (h3 _)) | (exact absurd rfl (h4 _ _ _)) | (exact absurd rfl (h5 _ _ _))

theorem abCs_men {pd : PD} {n m id : Nat} {l r : List C} {o : List (Nat × Ob)} (h : abCs pd n l = some (r, o, m)) (hid : id < n) : anyC (C.men id) r = false := by
  induction l generalizing n r o with
  | nil => simp [abCs] at h; rw [h.1]; rfl
  | cons c l ih =>
    simp only [abCs] at h
    cases hc : abC pd n c with
    | none => simp [hc] at h
    | some p =>
      obtain ⟨d, o1, n1⟩ := p
      simp only [hc] at h
      cases hr : abCs pd n1 l with
      | none => simp [hr] at h
      | some q =>
        obtain ⟨r', p2, k⟩ := q
        simp only [hr, Option.some.injEq, Prod.mk.injEq] at h
        obtain ⟨rfl, _, rfl⟩ := h
        have hn1 : n ≤ n1 := by
          have := ab_ok.ab_le (X := ⟨default, pd, default, fun _ => False, fun _ => (0, 0, 0, 0)⟩) (cs := [c]) (ds := [d]) (obs := o1) (m := n1) (n := n) (by simp [abCs, hc])
          exact this
        simp only [anyC, abC_men hc hid, cond_false]
        exact ih hr (by omega)

theorem does_alloc {o : Oper} (hp : PDok X.P X.pd) (t : TypeId) (ho : o.op = .alloc t) (hpos : X.pd.pos t = true) {u u' : U} {obs : List (Nat × Ob)} {n id : Nat} {y : Ob} {rd : List Nat}
    (hz : X.pd.zero t = some u) (hab : abU X.pd (id + 1) u = some (u', obs, n)) (hy : X.pd.newOb t u' = some (true, y)) : Does X o s ⟨o.dst, .u (.c (.ptr id 0 0)), obs ++ [(id, y)], [], List.range' id (n - id), rd⟩ := by
  intro ρ a w Q h hnew
  unfold PD.zero at hz
  unfold PD.pos at hpos
  cases hti : X.pd.ti t with
  | none => simp [hti] at hz
  | some ti =>
    simp only [hti, Nat.blt_eq] at hz hpos
    have hTI := hp.ti _ _ hti
    obtain ⟨i, z, hi1, hi2, hi3, hi4, hi5, hi6, hi7⟩ := hTI.info
    have hzs := hTI.size
    have hmk := mkU_spec hz
    have habc : abUs X.pd (id + 1) [u] = some ([u'], obs, n) := by simp [abUs, hab]
    obtain ⟨h1, h2⟩ := abUs_cells habc
    simp only [cellsOf, List.append_nil] at h1
    have hucells : u.cells = ti.zero := by
      obtain ⟨_, _, h, _⟩ := hmk
      exact h
    rw [hucells] at h1
    have hle : id + 1 ≤ n := ab_ok.ab_le h1
    obtain ⟨ρ1, g1, g2, g3, g4, g5, g6⟩ := ab_ok (w := w) (a := a) (B := fun g => X.w0.heap.size ≤ g) (fun _ h => .inl h) z.cells.toList [] (id + 1) _ obs n s ρ h1 (OwnL_zero hi5) h (fun id x hx hb => by simp) (fun j h1 h2 => range_mem hnew (by omega) (by omega))
    obtain ⟨n1, n2, n3, n4, n5⟩ := newOb_ok hp hti hy
    have hmid : s.men id = false := range_mem hnew (by omega) (by omega)
    have hmid1 := g5 id (by omega) hmid
    have hpp := pos_ptr (x := y) (by rw [n1, n2]; exact hpos)
    have hu'men : anyC (C.men id) u'.cells = false := by
      have := abCs_men h1 (by omega : id < id + 1)
      exact this
    have hro := RO_new (X := X) (ρ := ρ1) (id := id) (w := w) (ty := t) (r := ⟨w.heap.size, undef, y.o.sz, y.o.len⟩) (vs := z.cells.toList) n3 n4 n5 rfl rfl rfl (by
      rw [n1]
      refine upd_RCs (fun j hj e => ?_) g2
      subst e
      rw [hu'men] at hj; cases hj)
    have hrun : (execOp a.eval o).run X.P w = .ok (.value (.pointer (some ⟨w.heap.size, 0, none⟩))) (w.alloc (.cells z.cells t)) := by
      simp [execOp, ho, Instr.alloc, newVar, newRow, newObj, zeroValue, typeInfo, run_program, hi1, hi4]
      rfl
    have g7 : Sim X ρ1 (s.puts obs) a (w.alloc (.cells z.cells t)) := g1.alloc _
    have hadd := g7.add id y ⟨w.heap.size, undef, y.o.sz, y.o.len⟩ hmid1 (by simpa using hro) (fun _ => ⟨fun j x hx hb => by have := g1.lt hx hb; simp only; omega, .inl h.fr.size⟩)
    unfold Oper.wp
    rw [hrun]
    refine ⟨upd ρ1 id ⟨w.heap.size, undef, y.o.sz, y.o.len⟩, ?_⟩
    have hput : s.puts (obs ++ [(id, y)]) = ⟨(s.puts obs).tm, putOb id y (s.puts obs).ob⟩ := by rw [puts_append]; rfl
    cases hd : o.dst with
    | none => simpa [Eff.app, St.dels, Act.put, hput] using hadd
    | some d =>
      have := hadd.set d (v := .u (.c (.ptr id 0 0))) (x := .pointer (some ⟨w.heap.size, 0, none⟩)) (show RC X _ (.ptr id 0 0) _ from by
        simp only [RC, upd_same]
        exact ⟨hpp.1, hpp.2, by simp⟩)
      simpa [Eff.app, St.dels, hput] using this
end Go.Proofs.Ytgimohchocjgcaa.V
