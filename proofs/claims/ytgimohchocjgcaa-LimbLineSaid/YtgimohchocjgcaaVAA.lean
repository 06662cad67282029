/- Copies; are values alike? -/
import Derived.Test.YtgimohchocjgcaaVZ
import Derived.ChangeKeysEq
set_option linter.unusedVariables false
set_option linter.unusedSimpArgs false
namespace Go.Proofs.Ytgimohchocjgcaa.V

variable {X : Ctx} {ρ : Nat → RI} {s : St} {a : Act} {w : World}

theorem run_firstCells_some' {P : Program} (w : World) (sz k len cap : Nat) (ad : Addr) (cs : List Value) (hk : cs.length = k * sz) (h : ∀ j u, cs[j]? = some u → w.cell? (ad.add j) = some u) :
    (Builtin.firstCells sz k (.slice (some ad) len cap)).run P w = .ok cs.toArray w := by
  simp only [Builtin.firstCells, ← hk]
  exact run_loadCells_list (P := P) w ad cs h

/-- The first of a source's elements. -/
theorem src_pre {P : Program} (h : Sim X ρ s a w) {c : C} {e : El} {l : List e.T} {v : Value} (hl : s.list c = some ⟨e, l⟩) (hv : RC X ρ c v) :
    ∃ vs, RCs X ρ (flat e l) vs ∧ (∀ w, (Builtin.lenOf v).run P w = .ok l.length w) ∧ ∀ k sz, sz = e.size → k ≤ l.length → (Builtin.firstCells sz k v).run P w = .ok (vs.take (k * e.size)).toArray w := by
  rcases list_ok h hl hv with ⟨r, rfl⟩ | ⟨rfl, ad, cap, rfl⟩ | ⟨b, off, cap, vs, rfl, h2, h3⟩
  · have hv2 := val_of_RC (X := X) (ρ := ρ) (c := .str r) rfl hv
    simp only [St.list, Option.some.injEq] at hl
    cases hl
    subst hv2
    refine ⟨_, strCells_ok r, fun w => ?_, fun k sz hsz hk => ?_⟩
    · simp [Builtin.lenOf, ByteArray.size]; rfl
    · have he : (⟨r.toArray⟩ : ByteArray).extract 0 k = ⟨(r.take k).toArray⟩ := by
        apply ByteArray.ext
        simp [ByteArray.data_extract]
      show (Builtin.firstCells sz k _).run P w = _
      simp only [Builtin.firstCells, he]
      simp [El.size, List.map_take]
  · refine ⟨[], trivial, fun w => by simp [Builtin.lenOf], fun k sz _ hk => ?_⟩
    have : k = 0 := by simpa using hk
    subst this
    cases ad <;> simp [Builtin.firstCells, loadCells, loadCellsFrom]
  · refine ⟨vs, h2, fun w => by simp [Builtin.lenOf], fun k sz hsz hk => ?_⟩
    have hlen := RCs_length h2
    rw [flat_length] at hlen
    subst hsz
    have hle : k * e.size ≤ vs.length := by rw [← hlen]; exact Nat.mul_le_mul_right _ hk
    refine run_firstCells_some' (P := P) w e.size k _ cap _ _ (by rw [List.length_take, Nat.min_eq_left hle]) (fun j u hu => ?_)
    rw [addr_add]
    refine h3 j u ?_
    rw [List.getElem?_take] at hu
    split at hu
    · exact hu
    · cases hu

theorem solid_RCs_flat (e : El) (l : List e.T) {vs : List Value} (h : RCs X ρ (flat e l) vs) : ∀ v ∈ vs, v.oneCell' = true := RCs_one h (solid_flat e l)

theorem does_copy {o : Oper} (hp : PDok X.P X.pd) (x y : Operand) (t u : TypeId) (ho : o.op = .call ⟨.builtin .copy, #[x, y], #[t, u]⟩) {et : TypeId} {e f : El} {l l2 : List e.T} {l2' : List f.T} {id i n m : Nat} {rw' : Bool} {ty : TypeId} {cd c : C} {sz by' : Nat} {z : List C} {rd : List Nat}
    (ht : X.pd.ti t = some ⟨.slice et, sz, by', z⟩) (hel : X.pd.elIs et e = true) (hx : (X.pd.ev t s x).c? = some cd) (hcd : cd = .sl id i n ∨ (cd = .row id ∧ i = 0 ∧ n = l.length ∧ rw' = true)) (hid : s.get id = some ⟨rw', m, ty, .vec e l⟩)
    (hy : (X.pd.ev u s y).c? = some c) (hl : s.list c = some ⟨f, l2'⟩) (hcast : castL f e l2' = some l2) :
    Does X o s ⟨o.dst, .u (.c (.int (min l2.length n : Nat))), [(id, ⟨rw', m, ty, .vec e (splice l i (l2.take n))⟩)], [], [], rd⟩ := by
  intro ρ a w Q h _
  obtain ⟨rfl, hcast'⟩ := castL_spec hcast
  change l2' = l2 at hcast'
  subst hcast'
  have hv := ev_c h hx
  have hv2 := ev_c h hy
  obtain ⟨vs, hcs, hlen, hfirst⟩ := src_pre (P := X.P) h hl hv2
  have hro := h.ob _ _ hid
  have hu := kind_slice hp ht
  obtain ⟨ei, hei, heis, _⟩ := elIs_spec hp hel
  have hTI := hp.ti _ _ hei
  have hsz := hro.sz
  have hln := hro.len
  simp only [O.sz, O.len] at hsz hln
  -- the place
  have hdst : ∃ ad cap, a.eval x = .slice ad n cap ∧ i + n ≤ l.length ∧ (n = 0 ∨ ad = some ⟨(ρ id).blk, i * f.size, none⟩) := by
    rcases hcd with rfl | ⟨rfl, rfl, rfl, rfl⟩
    · obtain ⟨h1, cap, h2, h3, h4⟩ := hv
      rw [hln] at h1
      rcases h4 with h4 | ⟨hn0, ad, h4⟩
      · exact ⟨_, cap, h4, h1, .inr (by rw [hsz])⟩
      · exact ⟨ad, cap, by rw [h4, hn0], h1, .inl hn0⟩
    · rcases row_val hro with ⟨h2, h3⟩ | ⟨cap, h2, h3, h4⟩
      · exact ⟨none, 0, by rw [hv.1, h2, h3]; rfl, by simp, .inl (by rw [h3]; rfl)⟩
      · exact ⟨_, cap, by rw [hv.1, h2], by simp, .inr (by simp)⟩
  obtain ⟨ad, cap, hev, hin, hplace⟩ := hdst
  have hvslen := RCs_length hcs
  rw [flat_length] at hvslen
  have hk : min l2'.length n ≤ l2'.length := Nat.min_le_left _ _
  have hfc := hfirst (min l2'.length n) f.size rfl hk
  have hcells := RCs_take hcs (min l2'.length n * f.size)
  rw [← flat_take] at hcells
  have htk : l2'.take (min l2'.length n) = l2'.take n := by
    rcases Nat.le_total l2'.length n with hh | hh
    · rw [Nat.min_eq_left hh, List.take_of_length_le (Nat.le_refl _), List.take_of_length_le hh]
    · rw [Nat.min_eq_right hh]
  rw [htk] at hcells
  have hsize := TI.size_run hTI w
  rw [heis] at hsize
  by_cases hz : min l2'.length n = 0
  · -- nothing is copied
    have hnil : vs.take (min l2'.length n * f.size) = [] := by rw [hz]; simp
    have htn : l2'.take n = [] := by rw [← htk, hz]; rfl
    have hrun : (execOp a.eval o).run X.P w = .ok (.value (goInt (min l2'.length n : Nat))) w := by
      rw [hnil] at hfc
      have e1 : (Builtin.copy_ #[t, u] o.type #[a.eval x, a.eval y]).run X.P w = .ok (goInt (min l2'.length n : Nat)) w := by
        have hfc' : (Builtin.firstCells f.size (l2'.length.min n) (a.eval y)).run X.P w = .ok #[] w := hfc
        cases ad <;> simp [Builtin.copy_, hev, run_underlying hu, hlen, hsize, hfc', storeCells] <;> rfl
      simp [execOp, ho, resolve, invoke, builtin, e1]
    have hsame : splice l i (l2'.take n) = l := by
      rw [htn]; simp [splice]
    unfold Oper.wp
    rw [hrun]
    refine ⟨ρ, ?_⟩
    have h2 : Sim X ρ ⟨s.tm, putOb id ⟨rw', m, ty, .vec f (splice l i (l2'.take n))⟩ s.ob⟩ a w := by
      rw [hsame]
      refine h.same rfl fun j => ?_
      unfold St.get at hid ⊢
      by_cases e : j = id
      · subst e; simp only; rw [look_put_same, hid]
      · simp only; rw [look_put_ne _ _ e]
    cases hd : o.dst with
    | none => simpa [Eff.app, St.dels, St.puts, Act.put] using h2
    | some d => simpa [Eff.app, St.dels, St.puts] using h2.set d (v := .u (.c (.int (min l2'.length n : Nat)))) (x := goInt (min l2'.length n : Nat)) (show RC X ρ (.int (min l2'.length n : Nat)) (goInt (min l2'.length n : Nat)) from RC_val rfl)
  · rcases hplace with hn0 | had
    · exact absurd (by rw [hn0]; simp) hz
    subst had
    have hpos : 0 < (O.vec f l).cells.length := by
      simp only [O.cells, flat_length]
      exact Nat.mul_pos (by omega) (size_pos f)
    have hB := hasB_pos hro hpos
    rcases hro.mem with ⟨hrow, hval', _⟩ | ⟨cur, tt, cap', hm1, hm2, hm3, _, _⟩
    · rcases hB with hb | hb
      · rw [hrow] at hb; cases hb
      · exact absurd hval' hb
    simp only [O.cells, flat_length] at hm3
    have hclen := RCs_length hcells
    rw [flat_length, ← htk, List.length_take, Nat.min_eq_left (Nat.min_le_left _ _)] at hclen
    have hfit : i * f.size + min l2'.length n * f.size ≤ l.length * f.size := by
      rw [← Nat.add_mul]; exact Nat.mul_le_mul_right _ (by omega)
    have hst := run_storeCells_at X.P (ρ id).blk (i * f.size) tt (vs.take (min l2'.length n * f.size)) 0 cur w hm1 (by omega) (fun v hv => solid_RCs_flat f l2' hcs v (List.mem_of_mem_take hv))
    have hrun : (execOp a.eval o).run X.P w = .ok (.value (goInt (min l2'.length n : Nat))) (w.setRow (ρ id).blk (splice cur.toList (i * f.size) (vs.take (min l2'.length n * f.size))).toArray) := by
      have e1 : (Builtin.copy_ #[t, u] o.type #[a.eval x, a.eval y]).run X.P w = .ok (goInt (min l2'.length n : Nat)) (w.setRow (ρ id).blk (splice cur.toList (i * f.size) (vs.take (min l2'.length n * f.size))).toArray) := by
        have hfc' : (Builtin.firstCells f.size (l2'.length.min n) (a.eval y)).run X.P w = .ok (vs.take (min l2'.length n * f.size)).toArray w := hfc
        simp only [Nat.add_zero, List.append_assoc] at hst
        simp [Builtin.copy_, hev, run_underlying hu, hlen, hsize, hfc', hst, splice]
      simp [execOp, ho, resolve, invoke, builtin, e1]
    unfold Oper.wp
    rw [hrun]
    refine ⟨ρ, ?_⟩
    have hst2 : Sim X ρ ⟨s.tm, putOb id ⟨rw', m, ty, .vec f (splice l i (l2'.take n))⟩ s.ob⟩ a (w.setRow (ρ id).blk (splice cur.toList (i * f.size) (vs.take (min l2'.length n * f.size))).toArray) := by
      refine h.store id _ ⟨rw', m, ty, .vec f (splice l i (l2'.take n))⟩ hid hB hB ?_ (fun k hk => setRow_other _ _ _ _ hk) ⟨rfl, rfl, rfl, size_setRow _ _ _⟩
      refine RO_write hro hB hm1 (.vec f (splice l i (l2'.take n))) (i * f.size) (cs := flat f (l2'.take n)) hcells ?_ ?_ rfl ?_ ?_ ?_
      · simp only [O.cells]; exact flat_splice f l i _
      · simp only [O.cells, flat_length, ← htk, List.length_take]
        rw [Nat.min_eq_left hk]; exact hfit
      · simp only [O.len]
        exact splice_length _ _ _ (by simp; omega)
      · intro e0 l0 he; cases he
        exact ⟨_, rfl, splice_length _ _ _ (by simp; omega)⟩
      · intro l0 he; cases he
    cases hd : o.dst with
    | none => simpa [Eff.app, St.dels, St.puts, Act.put] using hst2
    | some d => simpa [Eff.app, St.dels, St.puts] using hst2.set d (v := .u (.c (.int (min l2'.length n : Nat)))) (x := goInt (min l2'.length n : Nat)) (show RC X ρ (.int (min l2'.length n : Nat)) (goInt (min l2'.length n : Nat)) from RC_val rfl)

end Go.Proofs.Ytgimohchocjgcaa.V
