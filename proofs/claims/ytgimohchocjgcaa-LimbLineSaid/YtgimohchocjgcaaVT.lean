/- Literals of structs, arrays, lists; new variables; copies. -/
import Derived.Test.YtgimohchocjgcaaVS
set_option linter.unusedVariables false
set_option linter.unusedSimpArgs false
namespace Go.Proofs.Ytgimohchocjgcaa.V

variable {X : Ctx} {ρ : Nat → RI} {s : St} {a : Act} {w : World}

theorem fill_ok (hp : PDok X.P X.pd) (h : Sim X ρ s a w) {n : Nat} {place : Nat → Option (Nat × TypeId)} {real : Nat → Option (Nat × Nat)} (hreal : ∀ i off t ti, place i = some (off, t) → X.pd.ti t = some ti → real i = some (off, ti.size)) :
    ∀ (parts : List (Nat × Operand)) {ps : List (Nat × List C)} {l : List C} {cs : Array Value}, partsOf X.pd s n place parts = some ps → RCs X ρ l cs.toList → cs.size = n →
      ∃ cs', Instr.fill real cs (parts.map fun (i, x) => (i, a.eval x)) = some cs' ∧ RCs X ρ (fillC l ps) cs'.toList ∧ cs'.size = n := by
  intro parts
  induction parts with
  | nil =>
    intro ps l cs h1 h2 h3
    simp [partsOf] at h1
    subst h1
    exact ⟨cs, rfl, h2, h3⟩
  | cons p parts ih =>
    obtain ⟨i, x⟩ := p
    intro ps l cs h1 h2 h3
    simp only [partsOf] at h1
    cases hpl : place i with
    | none => simp [hpl] at h1
    | some q =>
      obtain ⟨off, t⟩ := q
      simp only [hpl] at h1
      cases hti : X.pd.ti t with
      | none => simp [hti] at h1
      | some ti =>
        simp only [hti] at h1
        cases hev : X.pd.ev t s x with
        | tup _ => simp [hev] at h1
        | dead => simp [hev] at h1
        | u u =>
          simp only [hev] at h1
          obtain ⟨g1, g2⟩ := cond_some h1
          simp only [Bool.and_eq_true] at g1
          have e1 := Nat.beq_true g1.1
          have e2 : off + ti.size ≤ n := by simpa [Nat.ble_eq] using g1.2.2
          have hv := ev_ok h t x
          rw [hev] at hv
          obtain ⟨hc1, hc2⟩ := RU_cells hv g1.2.1
          have hlen := RCs_length hc1
          have hsz : (a.eval x).cells.size = ti.size := by rw [← e1, hlen]; simp
          split at g2
          · rename_i r hr
            cases g2
            have hfit : off + (a.eval x).cells.size ≤ cs.size := by rw [hsz, h3]; exact e2
            have hsp := setCells_splice cs off (a.eval x).cells hfit
            have hcs2 : RCs X ρ (splice l off u.cells) ((a.eval x).cells.zipIdx.foldl (fun cs (c, j) => cs.setIfInBounds (off + j) c) cs).toList := by
              rw [hsp]; exact RCs_splice h2 hc1 off
            have hs2 : ((a.eval x).cells.zipIdx.foldl (fun cs (c, j) => cs.setIfInBounds (off + j) c) cs).size = n := by
              rw [← Array.length_toList, hsp, splice_length _ _ _ (by simpa using hfit)]
              simpa using h3
            obtain ⟨cs', k1, k2, k3⟩ := ih hr hcs2 hs2
            refine ⟨cs', ?_, k2, k3⟩
            simp only [List.map_cons, Instr.fill, hreal i off t ti hpl hti]
            have hno : ¬ ((a.eval x).cells.size ≠ ti.size || decide (off + (a.eval x).cells.size > cs.size)) = true := by
              simp [hsz]; omega
            simp only [hno, if_false]
            exact k1
          · cases g2

theorem mapM_places {P : Program} (fs : List Field) (h : fs.all (fun f => f.name != "_" && (P.info? f.type).isSome) = true) :
    fs.mapM (fun f => (P.info? f.type).map fun i => (f.offset, i.size)) = some (fs.map fun f => (f.offset, P.cellsOf f.type)) := by
  induction fs with
  | nil => rfl
  | cons f fs ih =>
    simp only [List.all_cons, Bool.and_eq_true] at h
    obtain ⟨⟨_, h1⟩, h2⟩ := h
    have h2' := ih (by simpa [List.all_eq_true, Bool.and_eq_true] using h2)
    obtain ⟨i, hi⟩ := Option.isSome_iff_exists.1 h1
    simp [List.mapM_cons, hi, h2', Program.cellsOf]

theorem does_buildS {o : Oper} (hp : PDok X.P X.pd) (t : TypeId) (parts : Array (Nat × Operand)) (ho : o.op = .build t parts) {fs : List (Nat × TypeId)} {sz by' : Nat} {z : List C} {ps : List (Nat × List C)} {u : U} {rd : List Nat}
    (ht : X.pd.ti t = some ⟨.struct fs, sz, by', z⟩) (hps : partsOf X.pd s sz (fun i => fs[i]?) parts.toList = some ps) (hu : X.pd.mkU t (fillC z ps) = some u) : Does X o s ⟨o.dst, .u u, [], [], [], rd⟩ := by
  intro ρ a w Q h _
  have hTI := hp.ti _ _ ht
  obtain ⟨⟨fields, hun, hfs, hall⟩, _⟩ := hTI.kind
  obtain ⟨i, zv, hi1, hi2, hi3, hi4, hz, hza, _⟩ := hTI.info
  obtain ⟨zc, rfl⟩ := hza rfl
  have hzl := RCs_length (X := X) (ρ := ρ) (RCs_zero hz)
  have hsize := hTI.size
  simp only at hz hzl hsize hi2
  obtain ⟨cs', k1, k2, k3⟩ := fill_ok (n := sz) (real := fun j => (fields.toList.map fun f => (f.offset, X.P.cellsOf f.type))[j]?) hp h (fun j off ft ti hj hti => by
    rw [← hfs] at hj
    simp only [List.getElem?_map] at hj ⊢
    cases hq : fields.toList[j]? with
    | none => rw [hq] at hj; cases hj
    | some fd =>
      rw [hq] at hj
      simp at hj
      obtain ⟨rfl, rfl⟩ := hj
      obtain ⟨i2, _, h5, h6, _⟩ := (hp.ti _ _ hti).info
      simp [Program.cellsOf, h5, h6]) parts.toList (l := z) (cs := zc) hps (RCs_zero hz) (by rw [← hsize, hzl]; simp [Value.cells])
  have := mkU_ok hu k2 ht
  refine wp_val h (x := .agg cs') ?_ (by simpa [RV, valOf, TK.agg] using this)
  have hb : X.P.built t (parts.map fun (i, x) => (i, a.eval x)).toList = some cs' := by
    unfold Program.built
    simp only [hi1, hun, hi4, mapM_places _ hall]
    rw [← k1]
    simp [Value.cells]
  simp [execOp, ho, run_build w t _ cs' hb]

theorem does_buildA {o : Oper} (hp : PDok X.P X.pd) (t : TypeId) (parts : Array (Nat × Operand)) (ho : o.op = .build t parts) {n : Nat} {et : TypeId} {ei : TI} {sz by' : Nat} {z : List C} {ps : List (Nat × List C)} {u : U} {rd : List Nat}
    (ht : X.pd.ti t = some ⟨.arr n et, sz, by', z⟩) (hei : X.pd.ti et = some ei) (hps : partsOf X.pd s sz (fun i => some (i * ei.size, et)) parts.toList = some ps) (hu : X.pd.mkU t (fillC z ps) = some u) : Does X o s ⟨o.dst, .u u, [], [], [], rd⟩ := by
  intro ρ a w Q h _
  have hTI := hp.ti _ _ ht
  obtain ⟨hun, _⟩ := hTI.kind
  obtain ⟨i, zv, hi1, hi2, hi3, hi4, hz, hza, _⟩ := hTI.info
  obtain ⟨zc, rfl⟩ := hza rfl
  have hzl := RCs_length (X := X) (ρ := ρ) (RCs_zero hz)
  have hsize := hTI.size
  simp only at hz hzl hsize hi2
  obtain ⟨i2, _, h5, h6, _⟩ := (hp.ti _ _ hei).info
  obtain ⟨cs', k1, k2, k3⟩ := fill_ok (n := sz) (real := fun j => some (j * i2.size, i2.size)) hp h (fun j off ft ti hj hti => by
    simp only [Option.some.injEq, Prod.mk.injEq] at hj
    obtain ⟨rfl, rfl⟩ := hj
    rw [hei] at hti
    cases hti
    rw [h6]) parts.toList (l := z) (cs := zc) hps (RCs_zero hz) (by rw [← hsize, hzl]; simp [Value.cells])
  have := mkU_ok hu k2 ht
  refine wp_val h (x := .agg cs') ?_ (by simpa [RV, valOf, TK.agg] using this)
  have hb : X.P.built t (parts.map fun (i, x) => (i, a.eval x)).toList = some cs' := by
    unfold Program.built
    simp only [hi1, hun, hi4, h5]
    rw [← k1]
    simp [Value.cells]
  simp [execOp, ho, run_build w t _ cs' hb]

theorem does_buildSlice {o : Oper} (hp : PDok X.P X.pd) (t : TypeId) (n : Nat) (parts : Array (Nat × Operand)) (ho : o.op = .buildSlice t n parts) {et : TypeId} {ei : TI} {e : El} {ps : List (Nat × List C)} {l : List e.T} {id : Nat} {rd : List Nat}
    (ht : X.P.underlying t = some (.slice et)) (hei : X.pd.ti et = some ei) (hel : X.pd.el et = some e) (hps : partsOf X.pd s (n * ei.size) (fun i => some (i * ei.size, et)) parts.toList = some ps)
    (hl : chunks e n (fillC (flat e (List.replicate n e.zero)) ps) = some l) (hn : n * ei.size ≤ 4096) : Does X o s ⟨o.dst, .u (.c (.row id)), [(id, ⟨true, 0, et, .vec e l⟩)], [], [id], rd⟩ := by
  intro ρ a w Q h hnew
  have hmen := anyN_one hnew
  obtain ⟨i, z, hi1, hi2, hi3, hi4, hz, hzs⟩ := zeroCs_of hp hei hel
  obtain ⟨ti, h1, h2, h3⟩ := hp.el _ _ hel
  rw [hei] at h1; cases h1
  obtain ⟨hfl, hll⟩ := chunks_spec e n _ l hl
  have hz0 : RCs X ρ (flat e (List.replicate n e.zero)) ((Array.range (n * i.size)).map (z.cells[· % z.cells.size]!)).toList := by
    rw [hi2, ← hzs, zeros_eq, flat_replicate]
    exact RCs_replicate (RCs_zero hz) n
  obtain ⟨cs', k1, k2, k3⟩ := fill_ok (n := n * ei.size) (real := fun j => some (j * i.size, i.size)) hp h (fun j off ft ti hj hti => by
    simp only [Option.some.injEq, Prod.mk.injEq] at hj
    obtain ⟨rfl, rfl⟩ := hj
    rw [hei] at hti
    cases hti
    rw [hi2, h2]) parts.toList (l := _) (cs := (Array.range (n * i.size)).map (z.cells[· % z.cells.size]!)) hps hz0 (by simp [hi2, h2])
  have hrun : (execOp a.eval o).run X.P w = .ok (.value (.slice (some ⟨w.heap.size, 0, none⟩) n n)) (w.alloc (.cells cs' et)) := by
    have hbig : ¬ (n * i.size > 2 ^ 24) := by rw [hi2, ← h2]; omega
    have k1' : Instr.fill (fun j => some (j * i.size, i.size)) ((Array.range (n * i.size)).map (z.cells[· % z.cells.size]!)) (parts.map fun (i, x) => (i, a.eval x)).toList = some cs' := by
      rw [← k1]; simp
    by_cases hcz : n * i.size = 0
    · have e0 : ∀ f : Nat → Value, Array.map f (Array.range 0) = #[] := fun f => by simp
      rw [hcz, e0] at k1'
      simp only [execOp, ho, Instr.buildSlice, Sem.run_bind, run_underlying ht, Result.andThen_ok, sizeOf, typeInfo, run_program, hi1, Sem.run_pure]
      rw [if_neg hbig, if_pos hcz]
      simp only [hcz, e0, Sem.run_bind, Sem.run_pure, Result.andThen_ok, k1']
      rfl
    · simp only [execOp, ho, Instr.buildSlice, Sem.run_bind, run_underlying ht, Result.andThen_ok, sizeOf, typeInfo, run_program, hi1, Sem.run_pure]
      rw [if_neg hbig, if_neg hcz]
      simp only [zeroValue, typeInfo, Sem.run_bind, run_program, hi1, hi4, Sem.run_pure, Result.andThen_ok, k1']
      rfl
  have hcs : RCs X ρ (flat e l) cs'.toList := by rw [← hfl]; exact k2
  have hsz := RCs_length hcs
  rw [flat_length, hll] at hsz
  refine wp_new (r := ⟨w.heap.size, .slice (some ⟨w.heap.size, 0, none⟩) n n, e.size, n⟩) h hmen hrun rfl ?_ ?_
  · refine RO_row (cap := n) rfl rfl hll.symm (by rw [hll]) (by rw [hll]; exact Nat.le_refl _) ?_ (by simpa using hsz.symm) ?_
    · simp only [maxLen]
      have := size_pos e
      rw [h2] at hn
      have := Nat.le_mul_of_pos_right n this
      omega
    · rw [hll, List.take_of_length_le (by rw [← hsz]; exact Nat.le_refl _)]
      exact RCs_congr (fun j hj => by rw [men_flat] at hj; cases hj) hcs
  · exact (show RC X _ (.row id) _ from ⟨by rw [upd_same], _, _, _, rfl⟩)

end Go.Proofs.Ytgimohchocjgcaa.V
