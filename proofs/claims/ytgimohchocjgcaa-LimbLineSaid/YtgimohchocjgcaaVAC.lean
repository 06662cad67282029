/- Each operation of the evaluator is the model's. -/
import Derived.Test.YtgimohchocjgcaaVAB
set_option linter.unusedVariables false
set_option linter.unusedSimpArgs false
namespace Go.Proofs.Ytgimohchocjgcaa.V

variable {X : Ctx} {ρ : Nat → RI} {s : St} {a : Act} {w : World}

theorem ev_tm {pd : PD} {t : TypeId} {s s' : St} (h : s'.tm = s.tm) (x : Operand) : pd.ev t s' x = pd.ev t s x := by
  cases x <;> simp [PD.ev, h]

theorem partsOf_tm {pd : PD} {s s' : St} (h : s'.tm = s.tm) (n : Nat) (place : Nat → Option (Nat × TypeId)) (l : List (Nat × Operand)) : partsOf pd s' n place l = partsOf pd s n place l := by
  induction l with
  | nil => rfl
  | cons p l ih =>
    obtain ⟨i, x⟩ := p
    simp only [partsOf]
    cases place i with
    | none => rfl
    | some q => simp only [ev_tm h, ih]

theorem app_put {o : Oper} {v : V} {obs : List (Nat × Ob)} {new rd : List Nat} {ρ' : Nat → RI} {x : Value} (h : Sim X ρ' (s.puts obs) a w) (hv : RV X ρ' v x) : Sim X ρ' ((⟨o.dst, v, obs, [], new, rd⟩ : Eff).app s) (a.put o.dst x) w := by
  cases hd : o.dst with
  | none => simpa [Eff.app, St.dels, Act.put] using h
  | some d => simpa [Eff.app, St.dels] using h.set d hv

theorem does_buildS' {o : Oper} (hp : PDok X.P X.pd) (t : TypeId) (parts : Array (Nat × Operand)) (ho : o.op = .build t parts) {fs : List (Nat × TypeId)} {sz by' : Nat} {z z' : List C} {ps : List (Nat × List C)} {obs : List (Nat × Ob)} {id n : Nat} {u : U} {rd : List Nat}
    (ht : X.pd.ti t = some ⟨.struct fs, sz, by', z⟩) (hab : abCs X.pd id z = some (z', obs, n)) (hps : partsOf X.pd s sz (fun i => fs[i]?) parts.toList = some ps) (hu : X.pd.mkU t (fillC z' ps) = some u) :
    Does X o s ⟨o.dst, .u u, obs, [], List.range' id (n - id), rd⟩ := by
  intro ρ a w Q h hnew
  have hTI := hp.ti _ _ ht
  obtain ⟨⟨fields, hun, hfs, hall⟩, _⟩ := hTI.kind
  obtain ⟨i, zv, hi1, hi2, hi3, hi4, hz, hza, _⟩ := hTI.info
  obtain ⟨zc, rfl⟩ := hza rfl
  have hzl := RCs_length (X := X) (ρ := ρ) (RCs_zero hz)
  have hsize := hTI.size
  simp only at hz hzl hsize hi2
  obtain ⟨ρ', g1, g2, g3, g4, g5, g6⟩ := ab_ok (w := w) (a := a) (B := fun g => X.w0.heap.size ≤ g) (fun _ h => .inl h) _ [] id _ obs n s ρ hab (OwnL_zero hz) h (fun id x hx hb => by simp) (fun j h1 h2 => range_mem hnew (by omega) (by omega))
  rw [← partsOf_tm g6] at hps
  have hz'l := RCs_length g2
  obtain ⟨cs', k1, k2, k3⟩ := fill_ok (n := sz) (real := fun j => (fields.toList.map fun f => (f.offset, X.P.cellsOf f.type))[j]?) hp g1 (fun j off ft ti hj hti => by
    rw [← hfs] at hj
    simp only [List.getElem?_map] at hj ⊢
    cases hq : fields.toList[j]? with
    | none => rw [hq] at hj; cases hj
    | some fd =>
      rw [hq] at hj
      simp at hj
      obtain ⟨rfl, rfl⟩ := hj
      obtain ⟨i2, _, h5, h6, _⟩ := (hp.ti _ _ hti).info
      simp [Program.cellsOf, h5, h6]) parts.toList (l := z') (cs := zc) hps (by simpa [Value.cells] using g2) (by rw [← hsize, hzl]; simp [Value.cells])
  have hval := mkU_ok hu k2 ht
  have hb : X.P.built t (parts.map fun (i, x) => (i, a.eval x)).toList = some cs' := by
    unfold Program.built
    simp only [hi1, hun, hi4, mapM_places _ hall]
    rw [← k1]
    simp [Value.cells]
  have hrun : (execOp a.eval o).run X.P w = .ok (.value (.agg cs')) w := by simp [execOp, ho, run_build w t _ cs' hb]
  unfold Oper.wp
  rw [hrun]
  exact ⟨ρ', app_put g1 (by simpa [RV, valOf, TK.agg] using hval)⟩

theorem does_buildA' {o : Oper} (hp : PDok X.P X.pd) (t : TypeId) (parts : Array (Nat × Operand)) (ho : o.op = .build t parts) {k : Nat} {et : TypeId} {ei : TI} {sz by' : Nat} {z z' : List C} {ps : List (Nat × List C)} {obs : List (Nat × Ob)} {id n : Nat} {u : U} {rd : List Nat}
    (ht : X.pd.ti t = some ⟨.arr k et, sz, by', z⟩) (hei : X.pd.ti et = some ei) (hab : abCs X.pd id z = some (z', obs, n)) (hps : partsOf X.pd s sz (fun i => some (i * ei.size, et)) parts.toList = some ps) (hu : X.pd.mkU t (fillC z' ps) = some u) :
    Does X o s ⟨o.dst, .u u, obs, [], List.range' id (n - id), rd⟩ := by
  intro ρ a w Q h hnew
  have hTI := hp.ti _ _ ht
  obtain ⟨hun, _⟩ := hTI.kind
  obtain ⟨i, zv, hi1, hi2, hi3, hi4, hz, hza, _⟩ := hTI.info
  obtain ⟨zc, rfl⟩ := hza rfl
  have hzl := RCs_length (X := X) (ρ := ρ) (RCs_zero hz)
  have hsize := hTI.size
  simp only at hz hzl hsize hi2
  obtain ⟨i2, _, h5, h6, _⟩ := (hp.ti _ _ hei).info
  obtain ⟨ρ', g1, g2, g3, g4, g5, g6⟩ := ab_ok (w := w) (a := a) (B := fun g => X.w0.heap.size ≤ g) (fun _ h => .inl h) _ [] id _ obs n s ρ hab (OwnL_zero hz) h (fun id x hx hb => by simp) (fun j h1 h2 => range_mem hnew (by omega) (by omega))
  rw [← partsOf_tm g6] at hps
  obtain ⟨cs', k1, k2, k3⟩ := fill_ok (n := sz) (real := fun j => some (j * i2.size, i2.size)) hp g1 (fun j off ft ti hj hti => by
    simp only [Option.some.injEq, Prod.mk.injEq] at hj
    obtain ⟨rfl, rfl⟩ := hj
    rw [hei] at hti
    cases hti
    rw [h6]) parts.toList (l := z') (cs := zc) hps (by simpa [Value.cells] using g2) (by rw [← hsize, hzl]; simp [Value.cells])
  have hval := mkU_ok hu k2 ht
  have hb : X.P.built t (parts.map fun (i, x) => (i, a.eval x)).toList = some cs' := by
    unfold Program.built
    simp only [hi1, hun, hi4, h5]
    rw [← k1]
    simp [Value.cells]
  have hrun : (execOp a.eval o).run X.P w = .ok (.value (.agg cs')) w := by simp [execOp, ho, run_build w t _ cs' hb]
  unfold Oper.wp
  rw [hrun]
  exact ⟨ρ', app_put g1 (by simpa [RV, valOf, TK.agg] using hval)⟩

theorem does_indexS {o : Oper} (hp : PDok X.P X.pd) (t : TypeId) (x i : Operand) (ho : o.op = .index t x i) {sz by' : Nat} {z : List C} {l : List UInt8} {j : Int} {rd : List Nat}
    (ht : X.pd.ti t = some ⟨.str, sz, by', z⟩) (hx : X.pd.ev t s x = .u (.c (.str l))) (hi : (X.pd.ev 3 s i).int? = some j) (hj : (leI 0 j && ltI j l.length) = true) : Does X o s ⟨o.dst, .u (.c (.u8 (l.getD j.toNat 0))), [], [], [], rd⟩ := by
  intro ρ a w Q h _
  have hv := ev_ok h t x
  rw [hx] at hv
  have hv2 := val_of_RC (X := X) (ρ := ρ) (c := .str l) rfl hv
  obtain ⟨k, hk⟩ := ev_int h hi
  obtain ⟨n, rfl, hn⟩ := in_spec hj
  have hun := kind_str hp ht
  refine wp_val h (x := .int .u8 (l.getD n 0).toNat) ?_ (show RC X ρ (.u8 _) _ from RC_val (by simp [C.val]))
  have hg : (⟨l.toArray⟩ : ByteArray)[n]? = some (l.getD n 0) := by
    have hs : n < (⟨l.toArray⟩ : ByteArray).size := by simpa [ByteArray.size] using hn
    rw [getElem?_pos (⟨l.toArray⟩ : ByteArray) n hs]
    show some (l.toArray[n]'(by simpa using hn)) = _
    simp [List.getD_eq_getElem?_getD, hn]
  simp [execOp, ho, Instr.index, hv2, hk, asIntOf, run_underlying hun, hg]

theorem run_equalIn_nil {P : Program} {t e : TypeId} (hun : P.underlying t = some (.pointer e)) (d : Nat) (p : Option Addr) (w : World) : (Op.equalIn (d + 1) t (.pointer p) (.pointer none)).run P w = .ok p.isNone w := by
  cases p <;> simp [Op.equalIn, run_underlying hun]

theorem run_nil {P : Program} {t e : TypeId} (hun : P.underlying t = some (.pointer e)) (x y : Operand) (op : BinOp) (r : Bool) (p : Option Addr) (h : (op = .eql ∧ r = p.isNone) ∨ (op = .neq ∧ r = !p.isNone)) (w : World) :
    (do eqGuard op t x y (.pointer p) (.pointer none); binOp op t (.pointer p) (.pointer none) : Sem Value).run P w = .ok (.bool r) w := by
  have h1 := run_equalIn_nil hun 9999 p w
  rcases h with ⟨rfl, rfl⟩ | ⟨rfl, rfl⟩
  · have e1 : (binOp .eql t (.pointer p) (.pointer none)).run P w = .ok (.bool p.isNone) w := by
      simp only [binOp]
      simp [Op.equal, Op.maxDepth, h1]
    have e2 : (eqGuard .eql t x y (.pointer p) (.pointer none)).run P w = .ok () w := by simp [eqGuard]
    rw [Sem.run_bind, e2]
    exact e1
  · have e1 : (binOp .neq t (.pointer p) (.pointer none)).run P w = .ok (.bool (!p.isNone)) w := by
      simp only [binOp]
      simp [Op.equal, Op.maxDepth, h1]
    have e2 : (eqGuard .neq t x y (.pointer p) (.pointer none)).run P w = .ok () w := by simp [eqGuard]
    rw [Sem.run_bind, e2]
    exact e1

theorem does_nilEq {o : Oper} (hp : PDok X.P X.pd) (op : BinOp) (t t' : TypeId) (x y : Operand) (ho : o.op = .binOp op t x y t') {p q c : C}
    (hx : X.pd.ev t s x = .u (.c p)) (hy : X.pd.ev t' s y = .u (.c q)) (hc : nilEq X.pd t op p q = some c) {rd : List Nat} : Does X o s ⟨o.dst, .u (.c c), [], [], [], rd⟩ := by
  intro ρ a w Q h _
  have hv := ev_ok h t x
  have hu := ev_ok h t' y
  rw [hx] at hv
  rw [hy] at hu
  unfold nilEq at hc
  split at hc
  · split at hc
    · rename_i e sz by' z ht
      have hun : X.P.underlying t = some (.pointer e) := (hp.ti _ _ ht).kind
      have hu2 := val_of_RC (X := X) (ρ := ρ) (c := .nilp) rfl hu
      have main : ∀ (r : Bool) (ad : Option Addr), a.eval x = .pointer ad → ((op = .eql ∧ r = ad.isNone) ∨ (op = .neq ∧ r = !ad.isNone)) → c = .bool r → o.wp X.P a w (fun a' w' => ∃ ρ', Sim X ρ' ((⟨o.dst, .u (.c c), [], [], [], rd⟩ : Eff).app s) a' w') Q := by
        intro r ad hvv hop hcr
        subst hcr
        have hr := run_nil hun x y op r ad hop w
        refine wp_val h (x := .bool r) ?_ (show RC X ρ (.bool r) _ from RC_val rfl)
        simp only [execOp, ho, hvv, hu2]
        rw [Sem.run_bind, hr]
        rfl
      split at hc
      · obtain ⟨_, _, hv2⟩ := hv
        exact main false _ hv2 (.inl ⟨rfl, rfl⟩) (by simpa using hc.symm)
      · obtain ⟨_, _, hv2⟩ := hv
        exact main true _ hv2 (.inr ⟨rfl, rfl⟩) (by simpa using hc.symm)
      · exact main true none (val_of_RC (X := X) (ρ := ρ) (c := .nilp) rfl hv) (.inl ⟨rfl, rfl⟩) (by simpa using hc.symm)
      · exact main false none (val_of_RC (X := X) (ρ := ρ) (c := .nilp) rfl hv) (.inr ⟨rfl, rfl⟩) (by simpa using hc.symm)
      · cases hc
    · cases hc
  · cases hc

end Go.Proofs.Ytgimohchocjgcaa.V
