/- Memory: reading, writing, what is new. -/
import Derived.Test.YtgimohchocjgcaaVJ
set_option linter.unusedVariables false
set_option linter.unusedSimpArgs false
namespace Go.Proofs.Ytgimohchocjgcaa.V

variable {X : Ctx} {ρ : Nat → RI} {s : St} {a : Act} {w : World}

theorem Holds.one {w : World} {ok : Nat → Prop} {c : C} {v : Value} (h : Holds w ok c v) : v.oneCell' = true := by
  cases h with
  | sc h => cases c <;> simp [C.val] at h <;> subst h <;> rfl
  | ro => rfl
  | emp => rfl

theorem RC_one {c : C} {v : Value} (h : RC X ρ c v) (hs : c.solid = true) : v.oneCell' = true := by
  cases c
  case dead => cases hs
  case row id => obtain ⟨_, a, n, c, rfl⟩ := h; rfl
  case sl id i n => obtain ⟨_, cap, _, _, rfl | ⟨_, a, rfl⟩⟩ := h <;> rfl
  case ptr id i sub => obtain ⟨_, _, rfl⟩ := h; rfl
  case rop e l i sub => obtain ⟨_, _, b, off, rfl, _⟩ := h; rfl
  all_goals exact Holds.one h

theorem RCs_one {l : List C} {vs : List Value} (h : RCs X ρ l vs) (hs : solidCs l = true) : ∀ v ∈ vs, v.oneCell' = true := by
  induction l generalizing vs with
  | nil => cases vs with
    | nil => simp
    | cons v vs => exact h.elim
  | cons c l ih => cases vs with
    | nil => simp
    | cons v vs =>
      have h1 := cond_true_of hs
      intro u hu
      rcases List.mem_cons.1 hu with rfl | hu
      · exact RC_one h.1 h1.1
      · exact ih h.2 h1.2 u hu
where
  cond_true_of {c : C} {l : List C} (h : solidCs (c :: l) = true) : c.solid = true ∧ solidCs l = true := by
    unfold solidCs at h
    cases hc : c.solid with
    | true => rw [hc] at h; exact ⟨rfl, h⟩
    | false => rw [hc] at h; cases h

theorem solid_flat (e : El) (l : List e.T) : solidCs (flat e l) = true := by
  have happ : ∀ a b, solidCs (a ++ b) = (solidCs a && solidCs b) := fun a b => by
    induction a with
    | nil => simp [solidCs]
    | cons x a ih => simp only [List.cons_append, solidCs, ih]; cases x.solid <;> simp
  induction l with
  | nil => rfl
  | cons x l ih =>
    rw [flat, happ, ih]
    cases e <;> simp [El.toC, Fr.c, solidCs, C.solid]

/-- A value's cells. -/
theorem RU_cells {u : U} {v : Value} (h : RU X ρ u v) (hs : u.solid = true) : RCs X ρ u.cells v.cells.toList ∧ ∀ x ∈ v.cells.toList, x.oneCell' = true := by
  cases u with
  | c x =>
    have h1 := RC_one h hs
    have : v.cells = #[v] := by
      cases v <;> first | rfl | (simp [Value.oneCell'] at h1; done)
    rw [this]
    exact ⟨⟨h, trivial⟩, by simp [h1]⟩
  | agg l =>
    obtain ⟨vs, rfl, h2⟩ := h
    exact ⟨h2, RCs_one h2 hs⟩
  | vec e l =>
    obtain ⟨vs, rfl, h2⟩ := h
    exact ⟨h2, RCs_one h2 (solid_flat e l)⟩
  | box l => exact h.elim

theorem TI.agg_run {P : Program} {t : TypeId} {ti : TI} (h : TIok P t ti) (w : World) : (isAgg t).run P w = .ok ti.k.agg w := by
  have hk := h.kind
  unfold isAgg
  cases hkk : ti.k <;> rw [hkk] at hk <;> simp only [kindOk] at hk
  case arr n e => rw [Sem.run_bind, run_underlying hk.1 w]; rfl
  case struct fs => obtain ⟨⟨fields, h1, _⟩, _⟩ := hk; rw [Sem.run_bind, run_underlying h1 w]; rfl
  all_goals rw [Sem.run_bind, run_underlying hk w]; rfl

theorem TI.size_run {P : Program} {t : TypeId} {ti : TI} (h : TIok P t ti) (w : World) : (sizeOf t).run P w = .ok ti.size w := by
  obtain ⟨i, z, h1, h2, _⟩ := h.info
  simp [sizeOf, typeInfo, h1, h2]

theorem TI.one {P : Program} {t : TypeId} {ti : TI} (h : TIok P t ti) (ha : ti.k.agg = false) : ti.size = 1 := by
  obtain ⟨i, z, h1, h2, _, _, h3, _, h4⟩ := h.info
  have h5 := h4 ha
  have : z.cells.toList.length = ti.zero.length := (RCs_length (X := ⟨P, ⟨[], []⟩, default, fun _ => False, fun _ => (0, 0, 0, 0)⟩) (ρ := fun _ => ⟨0, undef, 0, 0⟩) (RCs_zero h3)).symm
  rw [h5] at this
  rw [← h.size, ← this]
  rfl

theorem addr_add (b off n : Nat) : (⟨b, off, none⟩ : Addr).add n = ⟨b, off + n, none⟩ := by
  unfold Addr.add; split <;> simp_all

theorem run_load {P : Program} {t : TypeId} {ti : TI} (h : TIok P t ti) (w : World) (b off : Nat) (cs : List Value) (hl : cs.length = ti.size) (hc : ∀ j v, cs[j]? = some v → w.cell? ⟨b, off + j, none⟩ = some v) :
    (loadVar t ⟨b, off, none⟩).run P w = .ok (valOf ti.k.agg cs) w := by
  unfold loadVar
  rw [Sem.run_bind, TI.agg_run h w]
  cases ha : ti.k.agg with
  | true =>
    have h1 := run_loadCells_list (P := P) w ⟨b, off, none⟩ cs (fun j v hv => by rw [addr_add]; exact hc j v hv)
    rw [hl] at h1
    simp [Sem.run_bind, TI.size_run h w, h1, valOf]
  | false =>
    have h1 := TI.one h ha
    rw [h1] at hl
    match cs, hl with
    | [v], _ =>
      have := hc 0 v rfl
      simp at this
      simp [load, valOf, Sem.run, this]

theorem run_store {P : Program} {t : TypeId} {ti : TI} (h : TIok P t ti) (w : World) (b off : Nat) (v : Value) (cur : Array Value) (ty : TypeId) (hb : w.heap[b]? = some (.cells cur ty (0, 0)))
    (hl : v.cells.toList.length = ti.size) (hf : off + ti.size ≤ cur.size) (h1 : ∀ x ∈ v.cells.toList, x.oneCell' = true) :
    (storeVar t ⟨b, off, none⟩ v).run P w = .ok () (w.setRow b (splice cur.toList off v.cells.toList).toArray) := by
  unfold storeVar
  rw [Sem.run_bind, TI.size_run h w]
  have hs : ¬ (v.cells.size ≠ ti.size) := by simpa using hl
  have := run_storeCells_at P b off ty v.cells.toList 0 cur w hb (by simpa [hl] using hf) h1
  simp only [Nat.add_zero] at this
  simp only [Result.andThen_ok, hs, if_false]
  rw [this]
  simp [splice]

/-- The cells of an object, read from memory. -/
theorem RO.cell {x : Ob} {id : Nat} (h : RO X ρ w id x) {o n : Nat} (hn : o + n ≤ x.o.cells.length) (hp : 0 < n) :
    ∃ cs : List Value, RCs X ρ ((x.o.cells.drop o).take n) cs ∧ cs.length = n ∧ ∀ j v, cs[j]? = some v → w.cell? ⟨(ρ id).blk, o + j, none⟩ = some v := by
  rcases h.mem with ⟨_, _, h3⟩ | ⟨vs, ty, cap, h1, h2, h3, _⟩
  · rw [h3] at hn; simp at hn; omega
  · refine ⟨((vs.toList.take x.o.cells.length).drop o).take n, RCs_take (RCs_drop h2 o) n, by simp; omega, fun j v hv => ?_⟩
    rw [cell_of_row w _ _ vs ty (0, 0) h1]
    rw [List.getElem?_take] at hv
    split at hv
    · rw [List.getElem?_drop, List.getElem?_take] at hv
      split at hv
      · simpa using hv
      · cases hv
    · cases hv

theorem arrLike_spec {pd : PD} (hp : PDok X.P pd) {t : TypeId} {e : El} {n : Nat} {ti : TI} (h : pd.arrLike t = some (n, e)) (hti : pd.ti t = some ti) : ti.size = n * e.size ∧ ti.k.agg = true := by
  unfold PD.arrLike at h
  have hwf := hp.wf t ti hti
  split at h
  · rename_i m et sz by' z h1
    rw [hti] at h1
    cases h1
    split at h
    · rename_i el hel
      cases h
      obtain ⟨ei, h2, h3, _⟩ := hp.el _ _ hel
      refine ⟨?_, rfl⟩
      simp only [wfTI, h2] at hwf
      rw [Nat.beq_true hwf, h3]
    · cases h
  · rename_i ut sz by' z h1
    rw [hti] at h1
    cases h1
    split at h
    · rename_i m et sz2 by2 z2 h4
      split at h
      · rename_i el hel
        cases h
        obtain ⟨ei, h2, h3, _⟩ := hp.el _ _ hel
        have hwf2 := hp.wf _ _ h4
        simp only [wfTI, h2] at hwf2
        simp only [wfTI, h4, Bool.and_eq_true] at hwf
        refine ⟨?_, rfl⟩
        have e1 := Nat.beq_true hwf.2
        have e2 := Nat.beq_true hwf2
        simp only at e1 e2 ⊢
        rw [e1, e2, h3]
      · cases h
    · cases h
  · cases h

theorem arrOf_spec {pd : PD} (hp : PDok X.P pd) {t : TypeId} {e : El} {n : Nat} {ti : TI} (h : pd.arrOf t e = some n) (hti : pd.ti t = some ti) : ti.size = n * e.size ∧ ti.k.agg = true := by
  unfold PD.arrOf at h
  split at h
  · rename_i m f hm
    obtain ⟨h1, h2⟩ := cond_some h
    cases h2
    have := idx_inj h1
    subst this
    exact arrLike_spec hp hm hti
  · cases h

theorem take_drop_part {α : Type} (l : List α) (o z sub n : Nat) (h : sub + n ≤ z) : (l.drop (o + sub)).take n = (((l.drop o).take z).drop sub).take n := by
  rw [List.drop_take, List.drop_drop, List.take_take, Nat.min_eq_left (by omega)]

theorem readVec_ok {t : TypeId} {ti : TI} {whole : Nat} {e : El} {l : List e.T} {i sub : Nat} {u : U} (hp : PDok X.P X.pd) (hti : X.pd.ti t = some ti) (h : readVec X.pd t whole e l i sub = some (true, u))
    (hw : whole = 0 ∨ l.length = whole) (hi : i < l.length) :
    i * e.size + sub + ti.size ≤ (flat e l).length ∧ ∀ cs, RCs X ρ (((flat e l).drop (i * e.size + sub)).take ti.size) cs → RU X ρ u (valOf ti.k.agg cs) := by
  unfold readVec at h
  simp only [hti] at h
  split at h
  · rename_i n hn
    obtain ⟨h0, h1⟩ := cond_some hn
    have hs0 := Nat.beq_true h0
    subst hs0
    obtain ⟨hsz, hagg⟩ := arrOf_spec hp h1 hti
    cases hb : (Nat.beq n whole && (Nat.beq i 0 && Nat.blt 0 n)) with
    | true =>
      rw [hb] at h
      simp only [cond_true, Option.some.injEq, Prod.mk.injEq, true_and] at h
      subst h
      simp only [Bool.and_eq_true] at hb
      have e1 := Nat.beq_true hb.1
      have e2 := Nat.beq_true hb.2.1
      have e3 : 0 < n := by simpa [Nat.blt_eq] using hb.2.2
      subst e2
      have hl : l.length = n := by rcases hw with h | h <;> omega
      refine ⟨by rw [flat_length, hsz, hl]; omega, fun cs hcs => ?_⟩
      rw [hsz, ← hl, ← flat_length, Nat.zero_mul, Nat.add_zero, List.drop_zero, List.take_length] at hcs
      simp only [valOf, hagg, if_true]
      exact ⟨_, rfl, hcs⟩
    | false =>
      rw [hb] at h
      simp only [cond_false, Option.some.injEq, Prod.mk.injEq] at h
      obtain ⟨hg, rfl⟩ := h
      have hlen : i + n ≤ l.length := by simpa [leN] using hg
      refine ⟨by rw [flat_length, hsz, Nat.add_zero, ← Nat.add_mul]; exact Nat.mul_le_mul_right _ hlen, fun cs hcs => ?_⟩
      simp only [valOf, hagg, if_true]
      refine ⟨_, rfl, ?_⟩
      rw [flat_take, flat_drop]
      rwa [hsz, Nat.add_zero] at hcs
  · rename_i hn
    obtain ⟨h0, h1⟩ := cond_some h
    split at h1
    · rename_i v hv
      simp only [Option.some.injEq, Prod.mk.injEq, true_and] at h1
      subst h1
      have hle : sub + ti.size ≤ e.size := by simpa [Nat.ble_eq] using h0
      refine ⟨?_, fun cs hcs => ?_⟩
      · rw [flat_length]
        have : (i + 1) * e.size ≤ l.length * e.size := Nat.mul_le_mul_right _ hi
        rw [Nat.add_mul, Nat.one_mul] at this
        omega
      · rw [take_drop_part _ _ e.size _ _ hle, flat_at e l i hi] at hcs
        exact mkU_ok hv hcs hti
    · cases h1

end Go.Proofs.Ytgimohchocjgcaa.V
