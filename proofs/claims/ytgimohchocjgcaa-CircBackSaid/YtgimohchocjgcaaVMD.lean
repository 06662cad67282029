import Derived.ChangeKeysEq
import Derived.Orders
import Derived.Test.YtgimohchocjgcaaVMC
set_option linter.unusedVariables false
set_option linter.unusedSimpArgs false
namespace Go.Proofs.Ytgimohchocjgcaa.V
section
variable {X : Ctx} {ρ : Nat -> RI} {s : St} {a : Act} {w : World}
theorem zct {P : Program} (w : World) (sz k len cap : Nat) (ad : Addr) (cs : List Value) (hk : cs.length = k * sz) (h : ∀ j u, cs[j]? = some u -> w.cell? (ad.add j) = some u) :
    (Builtin.firstCells sz k (.slice (some ad) len cap)).run P w = .ok cs.toArray w := by
  simp only [Builtin.firstCells, ← hk]
  exact run_loadCells_list (P := P) w ad cs h
theorem zwA {P : Program} (h : Sim X ρ s a w) {c : C} {e : El} {l : List e.T} {v : Value} (hl : s.list c = some ⟨e, l⟩) (hv : RC X ρ c v) :
    ∃ vs, RCs X ρ (flat e l) vs /\ (∀ w, (Builtin.lenOf v).run P w = .ok l.length w) /\ ∀ k sz, sz = e.size -> k <= l.length -> (Builtin.firstCells sz k v).run P w = .ok (vs.take (k * e.size)).toArray w := by
  rcases zgE h hl hv with ⟨r, rfl⟩ | ⟨rfl, ad, cap, rfl⟩ | ⟨b, off, cap, vs, rfl, h2, h3⟩
  . have hv2 := zap (X := X) (ρ := ρ) (c := .str r) rfl hv
    simp only [St.list, oi1] at hl
    cases hl
    subst hv2
    refine ⟨_, zgG r, fun w => ?_, fun k sz hsz hk => ?_⟩
    . simp [Builtin.lenOf, ByteArray.size]; rfl
    . have he : (⟨r.toArray⟩ : ByteArray).extract 0 k = ⟨(r.take k).toArray⟩ := by
        apply ByteArray.ext
        simp [ByteArray.data_extract]
      show (Builtin.firstCells sz k _).run P w = _
      simp only [Builtin.firstCells, he]
      simp [El.size, List.map_take]
  . refine ⟨[], trivial, fun w => by simp [Builtin.lenOf], fun k sz _ hk => ?_⟩
    have : k = 0 := by simpa using hk
    subst this
    cases ad <;> simp [Builtin.firstCells, loadCells, loadCellsFrom]
  . refine ⟨vs, h2, fun w => by simp [Builtin.lenOf], fun k sz hsz hk => ?_⟩
    have hlen := zat h2
    rw [zab] at hlen
    subst hsz
    have hle : k * e.size <= vs.length := by rw [← hlen]; exact Nat.mul_le_mul_right _ hk
    refine zct (P := P) w e.size k _ cap _ _ (by rw [List.length_take, Nat.min_eq_left hle]) (fun j u hu => ?_)
    rw [zaT]
    refine h3 j u ?_
    rw [List.getElem?_take] at hu
    split at hu
    . exact hu
    . cases hu
theorem zhI (e : El) (l : List e.T) {vs : List Value} (h : RCs X ρ (flat e l) vs) : ∀ v ∈ vs, v.oneCell' = true := zfh h (zdO e l)
theorem zgN {o : Oper} (hp : PDok X.P X.pd) (x y : Operand) (t u : TypeId) (ho : o.op = .call ⟨.builtin .copy, #[x, y], #[t, u]⟩) {et : TypeId} {e f : El} {l l2 : List e.T} {l2' : List f.T} {id i n m : Nat} {rw' : Bool} {ty : TypeId} {cd c : C} {sz by' : Nat} {z : List C} {rd : List Nat}
    (ht : X.pd.ti t = some ⟨.slice et, sz, by', z⟩) (hel : X.pd.elIs et e = true) (hx : (X.pd.ev t s x).c? = some cd) (hcd : (cd = .sl id i n \/ ∃ cc, cd = .slc id i n cc) \/ (cd = .row id /\ i = 0 /\ n = l.length /\ rw' = true)) (hid : s.get id = some ⟨rw', m, ty, .vec e l⟩)
    (hy : (X.pd.ev u s y).c? = some c) (hl : s.list c = some ⟨f, l2'⟩) (hcast : zbK f e l2' = some l2) :
    Does X o s ⟨o.dst, .u (.c (.int (min l2.length n : Nat))), [(id, ⟨rw', m, ty, .vec e (zan l i (l2.take n))⟩)], [], [], rd⟩ := by
  intro ρ a w Q h _
  obtain ⟨rfl, hcast'⟩ := zbH hcast
  change l2' = l2 at hcast'
  subst hcast'
  have hv := ev_c h hx
  have hv2 := ev_c h hy
  obtain ⟨vs, hcs, hlen, hfirst⟩ := zwA (P := X.P) h hl hv2
  have hro := h.ob _ _ hid
  have hu := za3 hp ht
  obtain ⟨ei, hei, heis, _⟩ := zbT hp hel
  have hTI := hp.ti _ _ hei
  have hsz := hro.sz
  have hln := hro.len
  simp only [O.sz, O.len] at hsz hln
  have hdst : ∃ ad cap, a.eval x = .slice ad n cap /\ i + n <= l.length /\ (n = 0 \/ ad = some ⟨(ρ id).blk, i * f.size, none⟩) := by
    rcases hcd with hcd | ⟨rfl, rfl, rfl, rfl⟩
    . have hv : RC X ρ (.sl id i n) (a.eval x) := by
        rcases hcd with rfl | ⟨cc, rfl⟩
        . exact hv
        . exact zBE hv
      obtain ⟨h1, cap, h2, h3, _, h4⟩ := hv
      rw [hln] at h1
      rcases h4 with h4 | ⟨hn0, ad, h4⟩
      . exact ⟨_, cap, h4, h1, .inr (by rw [hsz])⟩
      . exact ⟨ad, cap, by rw [h4, hn0], h1, .inl hn0⟩
    . rcases zb4 hro with ⟨h2, h3⟩ | ⟨cap, h2, h3, h4⟩
      . exact ⟨none, 0, by rw [hv.1, h2, h3]; rfl, by simp, .inl (by rw [h3]; rfl)⟩
      . exact ⟨_, cap, by rw [hv.1, h2], by simp, .inr (by simp)⟩
  obtain ⟨ad, cap, hev, hin, hplace⟩ := hdst
  have hvslen := zat hcs
  rw [zab] at hvslen
  have hk : min l2'.length n <= l2'.length := Nat.min_le_left _ _
  have hfc := hfirst (min l2'.length n) f.size rfl hk
  have hcells := zbe hcs (min l2'.length n * f.size)
  rw [← zbw] at hcells
  have htk : l2'.take (min l2'.length n) = l2'.take n := by
    rcases Nat.le_total l2'.length n with hh | hh
    . rw [Nat.min_eq_left hh, List.take_of_length_le (Nat.le_refl _), List.take_of_length_le hh]
    . rw [Nat.min_eq_right hh]
  rw [htk] at hcells
  have hsize := TI.size_run hTI w
  rw [heis] at hsize
  by_cases hz : min l2'.length n = 0
  ·
    have hnil : vs.take (min l2'.length n * f.size) = [] := by rw [hz]; simp
    have htn : l2'.take n = [] := by rw [← htk, hz]; rfl
    have hrun : (execOp a.eval o).run X.P w = .ok (.value (goInt (min l2'.length n : Nat))) w := by
      rw [hnil] at hfc
      have e1 : (Builtin.copy_ #[t, u] o.type #[a.eval x, a.eval y]).run X.P w = .ok (goInt (min l2'.length n : Nat)) w := by
        have hfc' : (Builtin.firstCells f.size (l2'.length.min n) (a.eval y)).run X.P w = .ok #[] w := hfc
        cases ad <;> simp [Builtin.copy_, hev, run_underlying hu, hlen, hsize, hfc', storeCells] <;> rfl
      simp [execOp, ho, resolve, invoke, builtin, e1]
    have hsame : zan l i (l2'.take n) = l := by
      rw [htn]; simp [zan]
    unfold Oper.wp
    rw [hrun]
    refine ⟨ρ, ?_⟩
    have h2 : Sim X ρ ⟨s.tm, za5 id ⟨rw', m, ty, .vec f (zan l i (l2'.take n))⟩ s.ob⟩ a w := by
      rw [hsame]
      refine h.same rfl fun j => ?_
      unfold St.get at hid ⊢
      by_cases e : j = id
      . subst e; simp only; rw [zaA, hid]
      . simp only; rw [zaJ _ _ e]
    cases hd : o.dst with
    | none => simpa [Eff.app, St.dels, St.puts, Act.put] using h2
    | some d => simpa [Eff.app, St.dels, St.puts] using h2.set d (v := .u (.c (.int (min l2'.length n : Nat)))) (x := goInt (min l2'.length n : Nat)) (show RC X ρ (.int (min l2'.length n : Nat)) (goInt (min l2'.length n : Nat)) from za0 rfl)
  . rcases hplace with hn0 | had
    . exact absurd (by rw [hn0]; simp) hz
    subst had
    have hpos : 0 < (O.vec f l).cells.length := by
      simp only [O.cells, zab]
      exact Nat.mul_pos (by omega) (zaK f)
    have hB := zcL hro hpos
    rcases hro.mem with ⟨hrow, hval', _⟩ | ⟨cur, tt, cap', hm1, hm2, hm3, _, _⟩
    . rcases hB with hb | hb
      . rw [hrow] at hb; cases hb
      . exact absurd hval' hb
    simp only [O.cells, zab] at hm3
    have hclen := zat hcells
    rw [zab, ← htk, List.length_take, Nat.min_eq_left (Nat.min_le_left _ _)] at hclen
    have hfit : i * f.size + min l2'.length n * f.size <= l.length * f.size := by
      rw [← Nat.add_mul]; exact Nat.mul_le_mul_right _ (by omega)
    have hst := run_storeCells_at X.P (ρ id).blk (i * f.size) tt (vs.take (min l2'.length n * f.size)) 0 cur w hm1 (by omega) (fun v hv => zhI f l2' hcs v (List.mem_of_mem_take hv))
    have hrun : (execOp a.eval o).run X.P w = .ok (.value (goInt (min l2'.length n : Nat))) (w.setRow (ρ id).blk (zan cur.toList (i * f.size) (vs.take (min l2'.length n * f.size))).toArray) := by
      have e1 : (Builtin.copy_ #[t, u] o.type #[a.eval x, a.eval y]).run X.P w = .ok (goInt (min l2'.length n : Nat)) (w.setRow (ρ id).blk (zan cur.toList (i * f.size) (vs.take (min l2'.length n * f.size))).toArray) := by
        have hfc' : (Builtin.firstCells f.size (l2'.length.min n) (a.eval y)).run X.P w = .ok (vs.take (min l2'.length n * f.size)).toArray w := hfc
        simp only [Nat.add_zero, List.append_assoc] at hst
        simp [Builtin.copy_, hev, run_underlying hu, hlen, hsize, hfc', hst, zan]
      simp [execOp, ho, resolve, invoke, builtin, e1]
    unfold Oper.wp
    rw [hrun]
    refine ⟨ρ, ?_⟩
    have hst2 : Sim X ρ ⟨s.tm, za5 id ⟨rw', m, ty, .vec f (zan l i (l2'.take n))⟩ s.ob⟩ a (w.setRow (ρ id).blk (zan cur.toList (i * f.size) (vs.take (min l2'.length n * f.size))).toArray) := by
      refine h.store id _ ⟨rw', m, ty, .vec f (zan l i (l2'.take n))⟩ hid hB hB ?_ (fun k hk => setRow_other _ _ _ _ hk) ⟨rfl, rfl, rfl, size_setRow _ _ _⟩
      refine znr hro hB hm1 (.vec f (zan l i (l2'.take n))) (i * f.size) (cs := flat f (l2'.take n)) hcells ?_ ?_ rfl ?_ ?_ ?_
      . simp only [O.cells]; exact zd9 f l i _
      . simp only [O.cells, zab, ← htk, List.length_take]
        rw [Nat.min_eq_left hk]; exact hfit
      . simp only [O.len]
        exact zaH _ _ _ (by simp; omega)
      . intro e0 l0 he; cases he
        exact ⟨_, rfl, zaH _ _ _ (by simp; omega)⟩
      . intro l0 he; cases he
    cases hd : o.dst with
    | none => simpa [Eff.app, St.dels, St.puts, Act.put] using hst2
    | some d => simpa [Eff.app, St.dels, St.puts] using hst2.set d (v := .u (.c (.int (min l2'.length n : Nat)))) (x := goInt (min l2'.length n : Nat)) (show RC X ρ (.int (min l2'.length n : Nat)) (goInt (min l2'.length n : Nat)) from za0 rfl)
theorem zjl {l : List C} (h : zgt l = true) : zbB l = true := by
  induction l with
  | nil => rfl
  | cons c l ih =>
    unfold zgt at h
    cases hc : zpn c with
    | false => rw [hc] at h; cases h
    | true =>
      rw [hc] at h
      unfold zbB
      have : c.solid = true := by cases c <;> simp [zpn] at hc <;> rfl
      rw [this]
      exact ih h
theorem zom {o : Oper} (hp : PDok X.P X.pd) (x y : Operand) (t u : TypeId) (ho : o.op = .call ⟨.builtin .copy, #[x, y], #[t, u]⟩) {et : TypeId} {e : El} {l1 l2 : List C} {i1 o1 n1 i2 o2 n2 m m2 : Nat} {rw1 rw2 : Bool} {ty ty2 : TypeId} {sz by' : Nat} {z : List C} {rd : List Nat}
    (ht : X.pd.ti t = some ⟨.slice et, sz, by', z⟩) (hel : X.pd.elIs et e = true) (hx : (X.pd.ev t s x).c? = some (.asl i1 o1 e n1)) (hy : (X.pd.ev u s y).c? = some (.asl i2 o2 e n2))
    (h1 : s.get i1 = some ⟨rw1, m, ty, .lit l1⟩) (h2 : s.get i2 = some ⟨rw2, m2, ty2, .lit l2⟩) (hn : 0 < min n2 n1) (hf1 : o1 + n1 * e.size <= l1.length) (hf2 : o2 + n2 * e.size <= l2.length) (hpl : zgt ((l2.drop o2).take (min n2 n1 * e.size)) = true) :
    Does X o s ⟨o.dst, .u (.c (.int (min n2 n1 : Nat))), [(i1, ⟨rw1, m, ty, .lit (zan l1 o1 ((l2.drop o2).take (min n2 n1 * e.size)))⟩)], [], [], rd⟩ := by
  intro ρ a w Q h _
  obtain ⟨_, _, _, hvx⟩ := ev_c h hx
  obtain ⟨_, _, _, hvy⟩ := ev_c h hy
  have hro1 := h.ob _ _ h1
  have hro2 := h.ob _ _ h2
  have hu := za3 hp ht
  obtain ⟨ei, hei, heis, _⟩ := zbT hp hel
  have hTI := hp.ti _ _ hei
  have hsize := TI.size_run hTI w
  rw [heis] at hsize
  have hpos : 0 < min n2 n1 * e.size := Nat.mul_pos hn (zaK e)
  have hle2 : min n2 n1 * e.size <= n2 * e.size := Nat.mul_le_mul_right _ (Nat.min_le_left _ _)
  have hle1 : min n2 n1 * e.size <= n1 * e.size := Nat.mul_le_mul_right _ (Nat.min_le_right _ _)
  obtain ⟨vs, hcs, hvl, hcell⟩ := hro2.cell (o := o2) (n := min n2 n1 * e.size) (by simp only [O.cells]; omega) hpos
  simp only [O.cells] at hcs
  have hfc : (Builtin.firstCells e.size (min n2 n1) (a.eval y)).run X.P w = .ok vs.toArray w := by
    rw [hvy]
    refine zct (P := X.P) w e.size _ _ _ _ _ hvl (fun j u hu => ?_)
    rw [zaT]
    exact hcell j u hu
  have hB : hasB ρ i1 ⟨rw1, m, ty, .lit l1⟩ := zcL hro1 (by simp only [O.cells]; omega)
  rcases hro1.mem with ⟨hrow, hval', _⟩ | ⟨cur, tt, cap', hm1, hm2, hm3, _, _⟩
  . rcases hB with hb | hb
    . rw [hrow] at hb; cases hb
    . exact absurd hval' hb
  simp only [O.cells] at hm3
  have hst := run_storeCells_at X.P (ρ i1).blk o1 tt vs 0 cur w hm1 (by omega) (zfh hcs (zjl hpl))
  have hrun : (execOp a.eval o).run X.P w = .ok (.value (goInt (min n2 n1 : Nat))) (w.setRow (ρ i1).blk (zan cur.toList o1 vs).toArray) := by
    have e1 : (Builtin.copy_ #[t, u] o.type #[a.eval x, a.eval y]).run X.P w = .ok (goInt (min n2 n1 : Nat)) (w.setRow (ρ i1).blk (zan cur.toList o1 vs).toArray) := by
      have hfc' : (Builtin.firstCells e.size (n2.min n1) (a.eval y)).run X.P w = .ok vs.toArray w := hfc
      have hlen : (Builtin.lenOf (a.eval y)).run X.P w = .ok n2 w := by rw [hvy]; simp [Builtin.lenOf]
      simp only [Nat.add_zero, List.append_assoc] at hst
      simp [Builtin.copy_, hvx, run_underlying hu, hlen, hsize, hfc', hst, zan]
    simp [execOp, ho, resolve, invoke, builtin, e1]
  unfold Oper.wp
  rw [hrun]
  refine ⟨ρ, ?_⟩
  have hcl : ((l2.drop o2).take (min n2 n1 * e.size)).length = min n2 n1 * e.size := by simp; omega
  have hst2 : Sim X ρ ⟨s.tm, za5 i1 ⟨rw1, m, ty, .lit (zan l1 o1 ((l2.drop o2).take (min n2 n1 * e.size)))⟩ s.ob⟩ a (w.setRow (ρ i1).blk (zan cur.toList o1 vs).toArray) := by
    refine h.store i1 _ ⟨rw1, m, ty, .lit (zan l1 o1 ((l2.drop o2).take (min n2 n1 * e.size)))⟩ h1 hB hB ?_ (fun k hk => setRow_other _ _ _ _ hk) ⟨rfl, rfl, rfl, size_setRow _ _ _⟩
    refine znr hro1 hB hm1 (.lit (zan l1 o1 ((l2.drop o2).take (min n2 n1 * e.size)))) o1 (cs := (l2.drop o2).take (min n2 n1 * e.size)) hcs rfl (by simp only [O.cells]; rw [hcl]; omega) ?_ rfl ?_ ?_
    . simp only [O.sz]
      exact zaH _ _ _ (by rw [hcl]; omega)
    . intro e0 l0 he; cases he
    . intro l0 he; exact ⟨_, rfl⟩
  cases hd : o.dst with
  | none => simpa [Eff.app, St.dels, St.puts, Act.put] using hst2
  | some d => simpa [Eff.app, St.dels, St.puts] using hst2.set d (v := .u (.c (.int (min n2 n1 : Nat)))) (x := goInt (min n2 n1 : Nat)) (show RC X ρ (.int (min n2 n1 : Nat)) (goInt (min n2 n1 : Nat)) from za0 rfl)
end
section
variable {X : Ctx} {ρ : Nat -> RI} {s : St} {a : Act} {w : World}
theorem zh4 {t : TypeId} {k : TK} {x y : C} {r : Bool} (hk : zhU X.P t k) (h : eqS k x y = some r) {v u : Value} (hv : RC X ρ x v) (hu : RC X ρ y u) (d : Nat) : (Op.equalIn (d + 1) t v u).run X.P w = .ok r w := by
  unfold eqS at h
  split at h
  all_goals first | (cases h; done) | skip
  all_goals
    simp only [oi1] at h
    subst h
    rw [zap rfl hv, zap rfl hu]
  . rw [run_equalIn_int w d t _ _ _ _ hk, zwq]
  . rw [run_equalIn_int w d t _ _ _ _ hk, zwr]
  . rw [run_equalIn_int w d t _ _ _ _ hk, beq8]
  . rw [run_equalIn_int w d t _ _ _ _ hk, eqIb]
  . rw [run_equalIn_bool' w d t _ _ hk]
  . rw [run_equalIn_string w d t _ _ hk, zgA]
theorem zfn {t : TypeId} {ti : TI} (hTI : TIok X.P t ti) {xs : List C} {vs : List Value} (hx : RCs X ρ xs vs) (off : Nat) (hf : off + ti.size <= vs.length) (w : World) :
    (part t vs.toArray off).run X.P w = .ok (zcj ti.k.agg ((vs.drop off).take ti.size)) w := by
  have := zjg hTI w vs.toArray off (by simpa using hf)
  simpa using this
theorem zvv (hp : PDok X.P X.pd) : ∀ (d D : Nat) (t : TypeId) (ti : TI) (xs ys : List C) (vs us : List Value) (r : Bool), d <= D -> eqT X.pd d t xs ys = some r -> X.pd.ti t = some ti -> RCs X ρ xs vs -> RCs X ρ ys us -> vs.length = ti.size -> us.length = ti.size ->
    (Op.equalIn D t (zcj ti.k.agg vs) (zcj ti.k.agg us)).run X.P w = .ok r w
  | 0, _, _, _, _, _, _, _, _, _, h, _, _, _, _, _ => by simp [eqT] at h
  | d + 1, 0, _, _, _, _, _, _, _, hd, _, _, _, _, _, _ => by omega
  | d + 1, D + 1, t, ti, xs, ys, vs, us, r, hd, h, hti, hxs, hys, hvl, hul => by
    have ih := zvv hp d
    have hTI := hp.ti _ _ hti
    obtain ⟨k, sz, by', z⟩ := ti
    have hwf := hp.wf _ _ hti
    simp only [eqT, hti] at h
    cases k with
    | struct fs =>
      obtain ⟨⟨fields, hun, hfs, hall⟩, _, hst⟩ := hTI.kind
      simp only at h hvl hul
      have hfo : X.P.fieldsOf t = fields := by simp [Program.fieldsOf, hun]
      show (Op.equalIn (D + 1) t (.agg vs.toArray) (.agg us.toArray)).run X.P w = _
      rw [run_equalIn_struct w D t _ _ (by rw [hfo]; exact hun) hst, hfo]
      simp only [wfTI, Bool.and_eq_true] at hwf
      replace hwf := hwf.1
      clear hun hfo hTI hst hti
      generalize fields.toList = fl at hfs hall
      subst hfs
      induction fl generalizing r with
      | nil => simp [eqFs] at h; subst h; simp [Op.eqFields]
      | cons f fl ihf =>
        simp only [List.map_cons, eqFs] at h
        simp only [List.all_cons, Bool.and_eq_true, List.map_cons] at hall hwf
        cases hft : X.pd.ti f.type with
        | none => simp [hft] at h
        | some fi =>
          simp only [hft] at h hwf
          cases hr : eqT X.pd d f.type ((xs.drop f.offset).take fi.size) ((ys.drop f.offset).take fi.size) with
          | none => simp [hr] at h
          | some r1 =>
            simp only [hr] at h
            cases hq : eqFs X.pd (eqT X.pd d) xs ys (fl.map fun f => (f.offset, f.type)) with
            | none => simp [hq] at h
            | some q =>
              simp only [hq, oi1] at h
              subst h
              have hfit : f.offset + fi.size <= sz := by simpa [Nat.ble_eq] using hwf.1
              have hrec := ih D f.type fi _ _ _ _ r1 (by omega) hr hft (zbe (zbn hxs f.offset) fi.size) (zbe (zbn hys f.offset) fi.size) (by simp; omega) (by simp; omega)
              have hname : f.name ≠ "_" := by simpa using hall.1.1
              simp only [Op.eqFields, ne_eq, hname, not_false_eq_true, if_true, Sem.run_bind, zfn (hp.ti _ _ hft) hxs f.offset (by omega) w, zfn (hp.ti _ _ hft) hys f.offset (by omega) w, Result.andThen_ok, hrec]
              cases r1 with
              | false => simp
              | true => simpa using ihf q hall.2 hq hwf.2
    | arr n e =>
      obtain ⟨hun, _⟩ := hTI.kind
      simp only at h
      cases hei : X.pd.ti e with
      | none => simp [hei] at h
      | some ei =>
        simp only [hei] at h
        simp only [wfTI, hei] at hwf
        have hsz : sz = n * ei.size := Nat.beq_true hwf
        have hTe := hp.ti _ _ hei
        obtain ⟨i, _, hi, hisz, _⟩ := hTe.info
        show (Op.equalIn (D + 1) t (.agg vs.toArray) (.agg us.toArray)).run X.P w = _
        rw [run_equalIn_array w D _ _ hun hi]
        have hco : X.P.cellsOf e = ei.size := by simp [Program.cellsOf, hi, hisz]
        rw [hco, List.range_eq_range']
        simp only at hvl hul
        have key : ∀ (m j : Nat) (r : Bool), j + m = n -> eqIs (eqT X.pd d e) ei.size m (xs.drop (j * ei.size)) (ys.drop (j * ei.size)) = some r ->
            (Op.eqItems D e ei.size vs.toArray us.toArray (List.range' j m)).run X.P w = .ok r w := by
          intro m
          induction m with
          | zero => intro j r _ h; simp [eqIs] at h; subst h; simp [Op.eqItems]
          | succ m ihm =>
            intro j r hj h
            simp only [eqIs] at h
            cases hr : eqT X.pd d e ((xs.drop (j * ei.size)).take ei.size) ((ys.drop (j * ei.size)).take ei.size) with
            | none => simp [hr] at h
            | some r1 =>
              simp only [hr, List.drop_drop] at h
              rw [show j * ei.size + ei.size = (j + 1) * ei.size from by rw [Nat.add_mul, Nat.one_mul]] at h
              cases hq : eqIs (eqT X.pd d e) ei.size m (xs.drop ((j + 1) * ei.size)) (ys.drop ((j + 1) * ei.size)) with
              | none => simp [hq] at h
              | some q =>
                simp only [hq, oi1] at h
                subst h
                have hfit : j * ei.size + ei.size <= sz := by
                  rw [hsz, show j * ei.size + ei.size = (j + 1) * ei.size from by rw [Nat.add_mul, Nat.one_mul]]
                  exact Nat.mul_le_mul_right _ (by omega)
                have hrec := ih D e ei _ _ _ _ r1 (by omega) hr hei (zbe (zbn hxs (j * ei.size)) ei.size) (zbe (zbn hys (j * ei.size)) ei.size) (by simp; omega) (by simp; omega)
                simp only [List.range'_succ, Op.eqItems, Sem.run_bind, zfn hTe hxs (j * ei.size) (by omega) w, zfn hTe hys (j * ei.size) (by omega) w, Result.andThen_ok, hrec]
                cases r1 with
                | false => simp
                | true => simpa using ihm (j + 1) q (by omega) hq
        exact key n 0 r (by omega) (by simpa using h)
    | int k | bool | str | slice e | ptr e =>
      simp only at h
      split at h
      . rename_i x y
        cases vs with
        | nil => exact hxs.elim
        | cons v vs => cases us with
          | nil => exact hys.elim
          | cons u us =>
            exact zh4 hTI.kind h hxs.1 hys.1 D
      . cases h
theorem zyI {t : TypeId} {ti : TI} (hTI : TIok X.P t ti) {e : El} (hs : zpl e ti.k = true) {x y : e.T} {v u : Value} (hv : RCs X ρ (e.toC x) [v]) (hu : RCs X ρ (e.toC y) [u]) (d : Nat) :
    (Op.equalIn (d + 1) t v u).run X.P w = .ok (eqE e x y) w /\ e.size = 1 /\ ti.k.agg = false := by
  obtain ⟨k, sz, by', z⟩ := ti
  cases e <;> cases k <;> simp [zpl] at hs <;> refine ⟨?_, rfl, rfl⟩
  . exact zh4 (k := .int _) (x := .u64 x) (y := .u64 y) hTI.kind rfl hv.1 hu.1 d
  . exact zh4 (k := .int _) (x := .u32 x) (y := .u32 y) hTI.kind rfl hv.1 hu.1 d
  . exact zh4 (k := .int _) (x := .u8 x) (y := .u8 y) hTI.kind rfl hv.1 hu.1 d
  . exact zh4 (k := .int _) (x := .int x) (y := .int y) hTI.kind rfl hv.1 hu.1 d
  . exact zh4 (k := .bool) (x := .bool x) (y := .bool y) hTI.kind rfl hv.1 hu.1 d
theorem zpT {e : El} {k : TK} (h : zpl e k = true) : e.size = 1 /\ k.agg = false := by
  cases e <;> cases k <;> first | (simp [zpl] at h; done) | exact ⟨rfl, rfl⟩
theorem zns {o : Oper} (hp : PDok X.P X.pd) (op : BinOp) (t t' : TypeId) (x y : Operand) (ho : o.op = .binOp op t x y t') {e f : El} {l m : List e.T} {m' : List f.T} {b r : Bool} (hx : X.pd.ev t s x = .u (.vec e l)) (hy : X.pd.ev t' s y = .u (.vec f m'))
    (hcast : zbK f e m' = some m) (h : eqV X.pd t e l m = some (true, b)) (hop : (op = .eql /\ r = b) \/ (op = .neq /\ r = !b)) {rd : List Nat} : Does X o s ⟨o.dst, .u (.c (.bool r)), [], [], [], rd⟩ := by
  intro ρ a w Q hs _
  obtain ⟨rfl, hm⟩ := zbH hcast
  change m' = m at hm
  subst hm
  unfold eqV at h
  split at h
  . rename_i n et sz by' z hti
    split at h
    . rename_i ei hei
      obtain ⟨h1, h2⟩ := zaa h
      simp only [oi1, pi1, Bool.and_eq_true] at h2
      obtain ⟨⟨hl1, hl2⟩, rfl⟩ := h2
      obtain ⟨hz1, hag⟩ := zpT h1
      have hv := zck hs t x
      have hu := zck hs t' y
      rw [hx] at hv
      rw [hy] at hu
      obtain ⟨vs, hv, hvc⟩ := hv
      obtain ⟨us, hu, huc⟩ := hu
      obtain ⟨hun, hgd⟩ := (hp.ti _ _ hti).kind
      have hTe := hp.ti _ _ hei
      have hez : ei.size = 1 := TI.one hTe hag
      obtain ⟨i, _, hi, hisz, _⟩ := hTe.info
      have hco : X.P.cellsOf et = 1 := by simp [Program.cellsOf, hi, hisz, hez]
      have hvl := zat hvc
      have hul := zat huc
      rw [zab, hz1, Nat.mul_one] at hvl hul
      have e1 := Nat.beq_true hl1
      have e2 := Nat.beq_true hl2
      have hrun : (Op.equalIn 10000 t (.agg vs) (.agg us)).run X.P w = .ok (eqL f l m') w := by
        rw [run_equalIn_array w 9999 _ _ hun hi, hco, List.range_eq_range']
        have key : ∀ (k j : Nat), j + k = n -> (Op.eqItems 9999 et 1 vs us (List.range' j k)).run X.P w = .ok (eqL f (l.drop j) (m'.drop j)) w := by
          intro k
          induction k with
          | zero =>
            intro j hj
            rw [List.drop_of_length_le (by omega), List.drop_of_length_le (by omega)]
            simp [Op.eqItems, eqL]
          | succ k ih =>
            intro j hj
            have hj1 : j < l.length := by omega
            have hj2 : j < m'.length := by omega
            rw [List.drop_eq_getElem_cons hj1, List.drop_eq_getElem_cons hj2]
            have hpx := zfn hTe hvc (j * 1) (by rw [hez, ← hvl]; omega) w
            have hpy := zfn hTe huc (j * 1) (by rw [hez, ← hul]; omega) w
            rw [Array.toArray_toList, hez, Nat.mul_one, hag] at hpx hpy
            have hcx : RCs X ρ (f.toC l[j]) ((vs.toList.drop j).take 1) := by
              have := zbe (zbn hvc (j * f.size)) f.size
              rw [zgw f l j hj1] at this
              simpa [hz1, List.getD_eq_getElem?_getD, hj1] using this
            have hcy : RCs X ρ (f.toC m'[j]) ((us.toList.drop j).take 1) := by
              have := zbe (zbn huc (j * f.size)) f.size
              rw [zgw f m' j hj2] at this
              simpa [hz1, List.getD_eq_getElem?_getD, hj2] using this
            obtain ⟨v, hvv⟩ : ∃ v, (vs.toList.drop j).take 1 = [v] := ⟨vs.toList[j]'(by omega), by rw [List.drop_eq_getElem_cons (by omega)]; rfl⟩
            obtain ⟨u, huu⟩ : ∃ u, (us.toList.drop j).take 1 = [u] := ⟨us.toList[j]'(by omega), by rw [List.drop_eq_getElem_cons (by omega)]; rfl⟩
            rw [hvv] at hpx hcx
            rw [huu] at hpy hcy
            have hrec := (zyI (w := w) hTe h1 hcx hcy 9998).1
            simp only [List.range'_succ, Op.eqItems, Sem.run_bind, Nat.mul_one, hpx, hpy, Result.andThen_ok]
            rw [show zcj false [v] = v from rfl, show zcj false [u] = u from rfl, hrec]
            simp only [eqL, Result.andThen_ok]
            cases eqE f l[j] m'[j] with
            | false => simp
            | true => simpa using ih (j + 1) (by omega)
        simpa using key n 0 (by omega)
      refine zaW hs (x := .bool r) ?_ (show RC X ρ (.bool r) _ from za0 rfl)
      rcases hop with ⟨rfl, rfl⟩ | ⟨rfl, rfl⟩
      . simp [execOp, ho, hv, hu, run_eqGuard_agg w _ _ _ _ _ _ hgd, run_eql_struct, hrun]
      . simp [execOp, ho, hv, hu, run_eqGuard_agg w _ _ _ _ _ _ hgd, run_neq_struct, hrun]
    . cases h
  . cases h
theorem znt {o : Oper} (hp : PDok X.P X.pd) (op : BinOp) (t t' : TypeId) (x y : Operand) (ho : o.op = .binOp op t x y t') {l m : List C} {b r : Bool} (hx : X.pd.ev t s x = .u (.agg l)) (hy : X.pd.ev t' s y = .u (.agg m))
    (h : eqA X.pd t l m = some b) (hop : (op = .eql /\ r = b) \/ (op = .neq /\ r = !b)) {rd : List Nat} : Does X o s ⟨o.dst, .u (.c (.bool r)), [], [], [], rd⟩ := by
  intro ρ a w Q hs _
  unfold eqA at h
  cases hti : X.pd.ti t with
  | none => simp [hti] at h
  | some ti =>
    simp only [hti] at h
    obtain ⟨h1, h2⟩ := zaa h
    obtain ⟨hag, hl1, hl2⟩ := beq3 h1
    have hv := zck hs t x
    have hu := zck hs t' y
    rw [hx] at hv
    rw [hy] at hu
    obtain ⟨vs, hv, hvc⟩ := hv
    obtain ⟨us, hu, huc⟩ := hu
    have e1 := zat hvc
    have e2 := zat huc
    have e3 := Nat.beq_true hl1
    have e4 := Nat.beq_true hl2
    have hrun := zvv (w := w) hp 9 10000 t ti l m vs.toList us.toList b (by omega) h2 hti hvc huc (by omega) (by omega)
    rw [hag, zki, zki, Array.toArray_toList, Array.toArray_toList] at hrun
    have hgd : X.P.eqGuardType X.P.depth t = false := by
      have hk := (hp.ti _ _ hti).kind
      obtain ⟨k, sz, by', z⟩ := ti
      cases k <;> simp [TK.agg] at hag
      . exact hk.2
      . exact hk.2.1
    refine zaW hs (x := .bool r) ?_ (show RC X ρ (.bool r) _ from za0 rfl)
    rcases hop with ⟨rfl, rfl⟩ | ⟨rfl, rfl⟩
    . simp [execOp, ho, hv, hu, run_eqGuard_agg w _ _ _ _ _ _ hgd, run_eql_struct, hrun]
    . simp [execOp, ho, hv, hu, run_eqGuard_agg w _ _ _ _ _ _ hgd, run_neq_struct, hrun]
end
section
variable {X : Ctx} {ρ : Nat -> RI} {s : St} {a : Act} {w : World}
theorem zBN {pd : PD} {t : TypeId} {s s' : St} (h : s'.tm = s.tm) (x : Operand) : pd.ev t s' x = pd.ev t s x := by
  cases x <;> simp [PD.ev, h]
theorem zh5 {pd : PD} {s s' : St} (h : s'.tm = s.tm) (n : Nat) (place : Nat -> Option (Nat × TypeId)) (l : List (Nat × Operand)) : zaR pd s' n place l = zaR pd s n place l := by
  induction l with
  | nil => rfl
  | cons p l ih =>
    obtain ⟨i, x⟩ := p
    simp only [zaR]
    cases place i with
    | none => rfl
    | some q => simp only [zBN h, ih]
theorem zpU {o : Oper} {v : V} {obs : List (Nat × Ob)} {new rd : List Nat} {ρ' : Nat -> RI} {x : Value} (h : Sim X ρ' (s.puts obs) a w) (hv : RV X ρ' v x) : Sim X ρ' ((⟨o.dst, v, obs, [], new, rd⟩ : Eff).app s) (a.put o.dst x) w := by
  cases hd : o.dst with
  | none => simpa [Eff.app, St.dels, Act.put] using h
  | some d => simpa [Eff.app, St.dels] using h.set d hv
theorem zfM {o : Oper} (hp : PDok X.P X.pd) (t : TypeId) (parts : Array (Nat × Operand)) (ho : o.op = .build t parts) {fs : List (Nat × TypeId)} {sz by' : Nat} {z z' : List C} {ps : List (Nat × List C)} {obs : List (Nat × Ob)} {id n : Nat} {u : U} {rd : List Nat}
    (ht : X.pd.ti t = some ⟨.struct fs, sz, by', z⟩) (hab : abCs X.pd id z = some (z', obs, n)) (hps : zaR X.pd s sz (fun i => fs[i]?) parts.toList = some ps) (hu : X.pd.mkU t (zdY z' ps) = some u) :
    Does X o s ⟨o.dst, .u u, obs, [], List.range' id (n - id), rd⟩ := by
  intro ρ a w Q h hnew
  have hTI := hp.ti _ _ ht
  obtain ⟨⟨fields, hun, hfs, hall⟩, _⟩ := hTI.kind
  obtain ⟨i, zv, hi1, hi2, hi3, hi4, hz, hza, _⟩ := hTI.info
  obtain ⟨zc, rfl⟩ := hza rfl
  have hzl := zat (X := X) (ρ := ρ) (zcK hz)
  have hsize := hTI.size
  simp only at hz hzl hsize hi2
  obtain ⟨ρ', g1, g2, g3, g4, g5, g6⟩ := zeF (w := w) (a := a) (B := fun g => X.w0.heap.size <= g) (fun _ h => .inl h) _ [] id _ obs n s ρ hab (zgM hz) h (fun id x hx hb => by simp) (fun j h1 h2 => za9 hnew (by omega) (by omega))
  rw [← zh5 g6] at hps
  have hz'l := zat g2
  obtain ⟨cs', k1, k2, k3⟩ := zji (n := sz) (real := fun j => (fields.toList.map fun f => (f.offset, X.P.cellsOf f.type))[j]?) hp g1 (fun j off ft ti hj hti => by
    rw [← hfs] at hj
    simp only [List.getElem?_map] at hj ⊢
    cases hq : fields.toList[j]? with
    | none => rw [hq] at hj; cases hj
    | some fd =>
      rw [hq] at hj
      simp at hj
      obtain ⟨rfl, rfl⟩ := hj
      obtain ⟨i2, _, h5, h6, _⟩ := (hp.ti _ _ hti).info
      simp [Program.cellsOf, h5, h6]) parts.toList (l := z') (cs := zc) hps (by simpa [Value.cells] using g2) (by rw [← hsize, hzl]; simp [Value.cells])
  have hval := zfJ hu k2 ht
  have hb : X.P.built t (parts.map fun (i, x) => (i, a.eval x)).toList = some cs' := by
    unfold Program.built
    simp only [hi1, hun, hi4, zlO _ hall]
    rw [← k1]
    simp [Value.cells]
  have hrun : (execOp a.eval o).run X.P w = .ok (.value (.agg cs')) w := by simp [execOp, ho, run_build w t _ cs' hb]
  unfold Oper.wp
  rw [hrun]
  exact ⟨ρ', zpU g1 (by simpa [RV, zcj, TK.agg] using hval)⟩
theorem zkn {o : Oper} (hp : PDok X.P X.pd) (t : TypeId) (parts : Array (Nat × Operand)) (ho : o.op = .build t parts) {k : Nat} {et : TypeId} {ei : TI} {sz by' : Nat} {z z' : List C} {ps : List (Nat × List C)} {obs : List (Nat × Ob)} {id n : Nat} {u : U} {rd : List Nat}
    (ht : X.pd.ti t = some ⟨.arr k et, sz, by', z⟩) (hei : X.pd.ti et = some ei) (hab : abCs X.pd id z = some (z', obs, n)) (hps : zaR X.pd s sz (fun i => some (i * ei.size, et)) parts.toList = some ps) (hu : X.pd.mkU t (zdY z' ps) = some u) :
    Does X o s ⟨o.dst, .u u, obs, [], List.range' id (n - id), rd⟩ := by
  intro ρ a w Q h hnew
  have hTI := hp.ti _ _ ht
  obtain ⟨hun, _⟩ := hTI.kind
  obtain ⟨i, zv, hi1, hi2, hi3, hi4, hz, hza, _⟩ := hTI.info
  obtain ⟨zc, rfl⟩ := hza rfl
  have hzl := zat (X := X) (ρ := ρ) (zcK hz)
  have hsize := hTI.size
  simp only at hz hzl hsize hi2
  obtain ⟨i2, _, h5, h6, _⟩ := (hp.ti _ _ hei).info
  obtain ⟨ρ', g1, g2, g3, g4, g5, g6⟩ := zeF (w := w) (a := a) (B := fun g => X.w0.heap.size <= g) (fun _ h => .inl h) _ [] id _ obs n s ρ hab (zgM hz) h (fun id x hx hb => by simp) (fun j h1 h2 => za9 hnew (by omega) (by omega))
  rw [← zh5 g6] at hps
  obtain ⟨cs', k1, k2, k3⟩ := zji (n := sz) (real := fun j => some (j * i2.size, i2.size)) hp g1 (fun j off ft ti hj hti => by
    simp only [oi1, pi1] at hj
    obtain ⟨rfl, rfl⟩ := hj
    rw [hei] at hti
    cases hti
    rw [h6]) parts.toList (l := z') (cs := zc) hps (by simpa [Value.cells] using g2) (by rw [← hsize, hzl]; simp [Value.cells])
  have hval := zfJ hu k2 ht
  have hb : X.P.built t (parts.map fun (i, x) => (i, a.eval x)).toList = some cs' := by
    unfold Program.built
    simp only [hi1, hun, hi4, h5]
    rw [← k1]
    simp [Value.cells]
  have hrun : (execOp a.eval o).run X.P w = .ok (.value (.agg cs')) w := by simp [execOp, ho, run_build w t _ cs' hb]
  unfold Oper.wp
  rw [hrun]
  exact ⟨ρ', zpU g1 (by simpa [RV, zcj, TK.agg] using hval)⟩
theorem zlR {o : Oper} (hp : PDok X.P X.pd) (t : TypeId) (x i : Operand) (ho : o.op = .index t x i) {sz by' : Nat} {z : List C} {l : List UInt8} {j : Int} {rd : List Nat}
    (ht : X.pd.ti t = some ⟨.str, sz, by', z⟩) (hx : X.pd.ev t s x = .u (.c (.str l))) (hi : (X.pd.ev 3 s i).int? = some j) (hj : (leI 0 j && ltI j l.length) = true) : Does X o s ⟨o.dst, .u (.c (.u8 (l.getD j.toNat 0))), [], [], [], rd⟩ := by
  intro ρ a w Q h _
  have hv := zck h t x
  rw [hx] at hv
  have hv2 := zap (X := X) (ρ := ρ) (c := .str l) rfl hv
  obtain ⟨k, hk⟩ := znh h hi
  obtain ⟨n, rfl, hn⟩ := zcF hj
  have hun := zeD hp ht
  refine zaW h (x := .int .u8 (l.getD n 0).toNat) ?_ (show RC X ρ (.u8 _) _ from za0 (by simp [C.val]))
  have hg : (⟨l.toArray⟩ : ByteArray)[n]? = some (l.getD n 0) := by
    have hs : n < (⟨l.toArray⟩ : ByteArray).size := by simpa [ByteArray.size] using hn
    rw [getElem?_pos (⟨l.toArray⟩ : ByteArray) n hs]
    show some (l.toArray[n]'(by simpa using hn)) = _
    simp [List.getD_eq_getElem?_getD, hn]
  simp [execOp, ho, Instr.index, hv2, hk, asIntOf, run_underlying hun, hg]
theorem zgO {P : Program} {t e : TypeId} (hun : P.underlying t = some (.pointer e)) (d : Nat) (p : Option Addr) (w : World) : (Op.equalIn (d + 1) t (.pointer p) (.pointer none)).run P w = .ok p.isNone w := by
  cases p <;> simp [Op.equalIn, run_underlying hun]
theorem zwB {P : Program} {t e : TypeId} (hun : P.underlying t = some (.pointer e)) (x y : Operand) (op : BinOp) (r : Bool) (p : Option Addr) (h : (op = .eql /\ r = p.isNone) \/ (op = .neq /\ r = !p.isNone)) (w : World) :
    (do eqGuard op t x y (.pointer p) (.pointer none); binOp op t (.pointer p) (.pointer none) : Sem Value).run P w = .ok (.bool r) w := by
  have h1 := zgO hun 9999 p w
  rcases h with ⟨rfl, rfl⟩ | ⟨rfl, rfl⟩
  . have e1 : (binOp .eql t (.pointer p) (.pointer none)).run P w = .ok (.bool p.isNone) w := by
      simp only [binOp]
      simp [Op.equal, Op.maxDepth, h1]
    have e2 : (eqGuard .eql t x y (.pointer p) (.pointer none)).run P w = .ok () w := by simp [eqGuard]
    rw [Sem.run_bind, e2]
    exact e1
  . have e1 : (binOp .neq t (.pointer p) (.pointer none)).run P w = .ok (.bool (!p.isNone)) w := by
      simp only [binOp]
      simp [Op.equal, Op.maxDepth, h1]
    have e2 : (eqGuard .neq t x y (.pointer p) (.pointer none)).run P w = .ok () w := by simp [eqGuard]
    rw [Sem.run_bind, e2]
    exact e1
theorem zon {o : Oper} (hp : PDok X.P X.pd) (op : BinOp) (t t' : TypeId) (x y : Operand) (ho : o.op = .binOp op t x y t') {p q c : C}
    (hx : X.pd.ev t s x = .u (.c p)) (hy : X.pd.ev t' s y = .u (.c q)) (hc : zwb X.pd t op p q = some c) {rd : List Nat} : Does X o s ⟨o.dst, .u (.c c), [], [], [], rd⟩ := by
  intro ρ a w Q h _
  have hv := zck h t x
  have hu := zck h t' y
  rw [hx] at hv
  rw [hy] at hu
  unfold zwb at hc
  split at hc
  . split at hc
    . rename_i e sz by' z ht
      have hun : X.P.underlying t = some (.pointer e) := (hp.ti _ _ ht).kind
      have hu2 := zap (X := X) (ρ := ρ) (c := .nilp) rfl hu
      have main : ∀ (r : Bool) (ad : Option Addr), a.eval x = .pointer ad -> ((op = .eql /\ r = ad.isNone) \/ (op = .neq /\ r = !ad.isNone)) -> c = .bool r -> o.wp X.P a w (fun a' w' => ∃ ρ', Sim X ρ' ((⟨o.dst, .u (.c c), [], [], [], rd⟩ : Eff).app s) a' w') Q := by
        intro r ad hvv hop hcr
        subst hcr
        have hr := zwB hun x y op r ad hop w
        refine zaW h (x := .bool r) ?_ (show RC X ρ (.bool r) _ from za0 rfl)
        simp only [execOp, ho, hvv, hu2]
        rw [Sem.run_bind, hr]
        rfl
      split at hc
      . obtain ⟨_, _, hv2⟩ := hv
        exact main false _ hv2 (.inl ⟨rfl, rfl⟩) (by simpa using hc.symm)
      . obtain ⟨_, _, hv2⟩ := hv
        exact main true _ hv2 (.inr ⟨rfl, rfl⟩) (by simpa using hc.symm)
      . exact main true none (zap (X := X) (ρ := ρ) (c := .nilp) rfl hv) (.inl ⟨rfl, rfl⟩) (by simpa using hc.symm)
      . exact main false none (zap (X := X) (ρ := ρ) (c := .nilp) rfl hv) (.inr ⟨rfl, rfl⟩) (by simpa using hc.symm)
      . cases hc
    . cases hc
  . cases hc
end
section
variable {X : Ctx} {ρ : Nat -> RI} {s : St} {a : Act} {w : World} {R : Type} {r : R}
theorem zdP {n : Nat} {l : List Nat} : memN n l = true ↔ n ∈ l := by
  induction l with
  | nil => simp [memN]
  | cons m l ih =>
    simp only [memN, List.mem_cons]
    cases h : Nat.beq m n with
    | true => have := Nat.beq_true h; simp [this]
    | false =>
      have : n ≠ m := fun e => by subst e; simp at h
      simp [ih, this]
theorem zcz {n : Nat} {l : List Nat} : memN n l = false ↔ n ∉ l := by
  rw [← zdP]; cases memN n l <;> simp
theorem zcx {b c : Bool} (h : cond b false c = true) : b = false /\ c = true := by cases b <;> simp_all
theorem zao {R : Type} {g : Bool} {x : Option R} {r : R} (h : must g x = some r) : g = true /\ x = some r := zaa h
def zdZ (l : List (Nat × Ob)) (id : Nat) (x : Option Ob) : Option Ob := l.foldl (fun x p => if p.1 = id then some p.2 else x) x
theorem zbW (s : St) (l : List (Nat × Ob)) : (s.puts l).tm = s.tm := by
  induction l generalizing s with
  | nil => rfl
  | cons p l ih => rw [zaC, ih]
theorem zcq (s : St) (l : List Nat) : (s.dels l).tm = s.tm := by
  induction l generalizing s with
  | nil => rfl
  | cons p l ih => simp only [St.dels, ih]
theorem zaM (s : St) (l : List (Nat × Ob)) (id : Nat) : (s.puts l).get id = zdZ l id (s.get id) := by
  induction l generalizing s with
  | nil => rfl
  | cons p l ih =>
    rw [zaC, ih]
    simp only [zdZ, List.foldl_cons]
    congr 1
    unfold St.get
    by_cases h : p.1 = id
    . rw [if_pos h, ← h]; exact zaA ..
    . rw [if_neg h]; exact zaJ _ _ fun e => h e.symm
theorem za7 (s : St) (l : List Nat) (id : Nat) : (s.dels l).get id = if id ∈ l then none else s.get id := by
  induction l generalizing s with
  | nil => rfl
  | cons p l ih =>
    simp only [St.dels, ih]
    unfold St.get
    by_cases h : id ∈ l
    . simp [h]
    . by_cases h2 : id = p
      . subst h2; simp [h, zbO]
      . simp [h, h2, zcD _ h2]
theorem zdQ {s : St} {l : List Nat} {id : Nat} (h : s.men id = false) : (s.dels l).men id = false := by
  induction l generalizing s with
  | nil => exact h
  | cons p l ih => exact ih (zlL h)
theorem zb6 {l : List Nat} (h : zgs l = true) : l.Nodup := by
  induction l with
  | nil => exact List.nodup_nil
  | cons n l ih =>
    unfold zgs at h
    obtain ⟨h1, h2⟩ := zcx h
    exact List.nodup_cons.2 ⟨zcz.1 h1, ih h2⟩
theorem zdm {els : List (Nat × El)} {B : Nat -> Prop} {c1 c2 : List C} {v1 v2 : List Value} {g1 g2 : List Nat} (h1 : OwnL els w B c1 v1 g1) (h2 : OwnL els w B c2 v2 g2) (hd : ∀ g ∈ g1, g ∉ g2) : OwnL els w B (c1 ++ c2) (v1 ++ v2) (g1 ++ g2) := by
  induction h1 with
  | nil => exact h2
  | sc hv _ ih => exact .sc hv (ih hd)
  | nilr _ ih => exact .nilr (ih hd)
  | len _ ih => exact .len (ih hd)
  | @view e l g cap ty xs cs vs gs a1 a2 a3 a4 a5 a6 a7 _ ih =>
    refine .view a1 a2 ?_ a4 a5 a6 a7 (ih fun g hg => hd g (List.mem_cons_of_mem _ hg))
    intro hm
    rcases List.mem_append.1 hm with hm | hm
    . exact a3 hm
    . exact hd g List.mem_cons_self hm
  | @room e l g m ty xs cs vs gs a1 a2 a3 a4 a5 a6 a7 _ ih =>
    refine .room a1 a2 ?_ a4 a5 a6 a7 (ih fun g hg => hd g (List.mem_cons_of_mem _ hg))
    intro hm
    rcases List.mem_append.1 hm with hm | hm
    . exact a3 hm
    . exact hd g List.mem_cons_self hm
  | @row e l g cap ty xs cs vs gs a0 a1 a2 a3 a4 a5 a6 a7 _ ih =>
    refine .row a0 a1 a2 ?_ a4 a5 a6 a7 (ih fun g hg => hd g (List.mem_cons_of_mem _ hg))
    intro hm
    rcases List.mem_append.1 hm with hm | hm
    . exact a3 hm
    . exact hd g List.mem_cons_self hm
theorem zcm {e : El} {l : List e.T} {vs : List Value} (h : RCs X ρ (flat e l) vs) : Vals (flat e l) vs := by
  have : ∀ (cs : List C) (vs : List Value), (∀ c ∈ cs, ∃ v, c.val = some v) -> RCs X ρ cs vs -> Vals cs vs := by
    intro cs
    induction cs with
    | nil => intro vs _ h; cases vs with
      | nil => trivial
      | cons _ _ => exact h.elim
    | cons c cs ih =>
      intro vs hv h
      cases vs with
      | nil => exact h.elim
      | cons v vs =>
        obtain ⟨z, hz⟩ := hv c (by simp)
        exact ⟨by rw [zap hz h.1]; exact hz, ih vs (fun d hd => hv d (by simp [hd])) h.2⟩
  exact this _ _ (fun c hc => zeH e l c hc) h
def Blks (ρ : Nat -> RI) (s : St) (ids gs : List Nat) : Prop := ∀ g ∈ gs, ∃ id ∈ ids, ∃ x, s.get id = some x /\ hasB ρ id x /\ (ρ id).blk = g
theorem Blks.apart (h : Sim X ρ s a w) {i1 i2 g1 g2 : List Nat} (h1 : Blks ρ s i1 g1) (h2 : Blks ρ s i2 g2) (hd : ∀ i ∈ i1, i ∉ i2) : ∀ g ∈ g1, g ∉ g2 := by
  intro g hg hg2
  obtain ⟨i, hi, x, hx, hbx, e1⟩ := h1 g hg
  obtain ⟨j, hj, y, hy, hby, e2⟩ := h2 g hg2
  exact h.inj i j x y hx hy (fun e => hd i hi (e ▸ hj)) hbx hby (by rw [e1, e2])
theorem zpV (h : Sim X ρ s a w) {c d : C} {v : Value} (hd : rsC X.pd s c = some (true, d)) (hv : RC X ρ c v) : ∃ gs, OwnL X.pd.els w (fun b => X.w0.heap.size <= b \/ X.may b) [d] [v] gs /\ Blks ρ s (idC c) gs := by
  have scal : ∀ u, c.val = some u -> d = c -> ∃ gs, OwnL X.pd.els w (fun b => X.w0.heap.size <= b \/ X.may b) [d] [v] gs /\ Blks ρ s (idC c) gs := by
    intro u hu e
    subst e
    exact ⟨[], .sc (by rw [zap hu hv]; exact hu) .nil, fun g hg => by cases hg⟩
  cases c with
  | row id =>
    simp only [rsC] at hd
    split at hd
    . rename_i n ty e l hg
      split at hd
      . rename_i t ht
        obtain ⟨h1, h2⟩ := zaa hd
        simp only [oi1, pi1, true_and] at h2
        subst h2
        obtain rfl := Nat.beq_true h1
        have hro := h.ob _ _ hg
        rcases zb4 hro with ⟨h3, rfl⟩ | ⟨cap, h3, h4, h5⟩
        . refine ⟨[], ?_, fun g hg => by cases hg⟩
          rw [hv.1, h3]
          exact .nilr .nil
        . have hB : hasB ρ id ⟨true, n, t, .vec e l⟩ := .inr (by rw [h3]; simp)
          rcases hro.mem with ⟨_, m2, _⟩ | ⟨vs, ty', cap', m1, m2, m3, m4, m5⟩
          . rcases hB with hb | hb
            . cases hb
            . exact absurd m2 hb
          . obtain ⟨m6, m7, m8, m9, m10⟩ := m5 rfl
            simp only at m6
            subst m6
            rw [hv.1, m7]
            simp only [O.cells, O.len, O.sz, zab] at m2 m8 m10 ⊢
            have hown : X.w0.heap.size <= (ρ id).blk \/ X.may (ρ id).blk := h.own _ _ hg hB
            refine ⟨[(ρ id).blk], .row ht m1 hown (by simp) m8 m9 m10 (zcm m2) .nil, fun g hgg => ⟨id, by simp [idC], _, hg, hB, ?_⟩⟩
            simp at hgg; exact hgg.symm
      . cases hd
    . cases hd
  | sl id i n =>
    cases i with
    | succ i => simp [rsC] at hd
    | zero =>
      simp only [rsC] at hd
      split at hd
      . rename_i rw' m ty e l hg
        simp only [oi1, pi1] at hd
        obtain ⟨hn, rfl⟩ := hd
        have hn' : 0 < n := by simpa [ltN] using hn
        have hro := h.ob _ _ hg
        obtain ⟨h1, cap, h2, h3, _, h4⟩ := hv
        have e2 := hro.len
        simp only [O.len] at e2
        rw [e2] at h1
        have hpos : 0 < (O.vec e l).cells.length := by
          simp only [O.cells, zab]; exact Nat.mul_pos (by omega) (zaK e)
        have hB := zcL hro hpos
        rcases h4 with h4 | ⟨h4, _⟩
        . rcases hro.mem with ⟨m0, m2, _⟩ | ⟨vs, ty', cap', m1, m2, m3, m4, m5⟩
          . rcases hB with hb | hb
            . rw [m0] at hb; cases hb
            . exact absurd m2 hb
          . have hown : X.w0.heap.size <= (ρ id).blk \/ X.may (ρ id).blk := h.own _ _ hg hB
            have hl : (l.take n).length = n := by rw [List.length_take]; omega
            simp only [O.cells, zab] at m2 m3
            have hle : n * e.size <= l.length * e.size := Nat.mul_le_mul_right _ (by omega)
            have hvals : Vals (flat e (l.take n)) (vs.toList.take ((l.take n).length * e.size)) := by
              refine zcm (X := X) (ρ := ρ) ?_
              have := zbe m2 (n * e.size)
              rw [← zbw, List.take_take, Nat.min_eq_left hle] at this
              rw [hl]; exact this
            refine ⟨[(ρ id).blk], ?_, fun g hgg => ⟨id, by simp [idC], _, hg, hB, ?_⟩⟩
            . have hval : v = .slice (some ⟨(ρ id).blk, 0, none⟩) (l.take n).length cap := by rw [h4, hl]; simp
              rw [hval]
              exact .view m1 hown (by simp) (by rw [hl]; exact h2) h3 (by rw [hl]; omega) hvals .nil
            . simp at hgg; exact hgg.symm
        . omega
      . cases hd
  | slc id i n cc =>
    cases i with
    | succ i => simp [rsC] at hd
    | zero =>
      simp only [rsC] at hd
      split at hd
      . rename_i m ty e l hg
        simp only [oi1, pi1, Bool.and_eq_true, leN, decide_eq_true_eq] at hd
        obtain ⟨⟨hn1, hn2⟩, rfl⟩ := hd
        obtain rfl : cc = l.length := by omega
        have hro := h.ob _ _ hg
        obtain ⟨h2, h3, h1, h4⟩ := hv
        have hB : hasB ρ id ⟨false, m, ty, .vec e l⟩ := .inl rfl
        rcases hro.mem with ⟨m0, m2, _⟩ | ⟨vs, ty', cap', m1, m2, m3, m4, m5⟩
        . cases m0
        . have hown : X.w0.heap.size <= (ρ id).blk \/ X.may (ρ id).blk := h.own _ _ hg hB
          simp only [O.cells, zab] at m2 m3
          refine ⟨[(ρ id).blk], ?_, fun g hgg => ⟨id, by simp [idC], _, hg, hB, ?_⟩⟩
          . have hval : v = .slice (some ⟨(ρ id).blk, 0, none⟩) n l.length := by rw [h4]; simp
            rw [hval]
            exact .room m1 hown (by simp) h2 h3 m3 (zcm m2) .nil
          . simp at hgg; exact hgg.symm
      . cases hd
  | u64 x => simp only [rsC, oi1, pi1, true_and] at hd; exact scal _ rfl hd.symm
  | u32 x => simp only [rsC, oi1, pi1, true_and] at hd; exact scal _ rfl hd.symm
  | u8 x => simp only [rsC, oi1, pi1, true_and] at hd; exact scal _ rfl hd.symm
  | int x => simp only [rsC, oi1, pi1, true_and] at hd; exact scal _ rfl hd.symm
  | bool x => simp only [rsC, oi1, pi1, true_and] at hd; exact scal _ rfl hd.symm
  | str x => simp only [rsC, oi1, pi1, true_and] at hd; exact scal _ rfl hd.symm
  | len n =>
    simp only [rsC, oi1, pi1, true_and] at hd
    subst hd
    obtain ⟨ad, cp, rfl⟩ := hv
    exact ⟨[], .len .nil, fun g hg => by cases hg⟩
  | ro _ _ | rop _ _ _ _ | rt _ | rtp _ _ _ | asl _ _ _ _ | ptr _ _ _ | nilp | dead => simp [rsC] at hd
theorem zyJ (h : Sim X ρ s a w) {c d : C} {v : Value} (hd : rsR X.pd s c = some (true, d)) (hv : RC X ρ c v) : ∃ gs, OwnL X.pd.els w (fun b => X.w0.heap.size <= b \/ X.may b) [d] [v] gs /\ Blks ρ s (idC c) gs := by
  unfold rsR at hd
  split at hd
  . rename_i e l
    simp only [oi1, pi1, true_and] at hd
    subst hd
    have hv : Holds X.w0 X.ok (.ro e l) v := hv
    refine ⟨[], ?_, fun g hg => (by cases hg)⟩
    cases hv with
    | sc h => cases h
    | ro f _ _ _ _ _ => exact .len .nil
    | emp => exact .len .nil
  . exact zpV h hd hv
theorem zeI (h : Sim X ρ s a w) : ∀ (l : List C) (vs : List Value) (k : List C -> Option R), zfc X.pd s l k = some r -> RCs X ρ l vs -> (idCs l).Nodup ->
    ∃ d gs, k d = some r /\ OwnL X.pd.els w (fun b => X.w0.heap.size <= b \/ X.may b) d vs gs /\ Blks ρ s (idCs l) gs /\ d.length = l.length
  | [], vs, k, hk, hv, _ => by
    cases vs with
    | nil => exact ⟨[], [], hk, .nil, fun g hg => (by cases hg), rfl⟩
    | cons _ _ => exact hv.elim
  | c :: l, vs, k, hk, hv, hnd => by
    cases vs with
    | nil => exact hv.elim
    | cons v vs =>
      unfold zfc at hk
      split at hk
      . rename_i g d hd
        obtain ⟨hg, hk⟩ := zao hk
        subst hg
        simp only [idCs, List.nodup_append] at hnd
        obtain ⟨n1, n2, n3⟩ := hnd
        obtain ⟨d', gs, k1, k2, k3, k4⟩ := zeI h l vs _ hk hv.2 n2
        obtain ⟨g1, o1, b1⟩ := zpV h hd hv.1
        refine ⟨d :: d', g1 ++ gs, k1, zdm o1 k2 (Blks.apart h b1 k3 fun i hi hj => n3 i hi i hj rfl), fun g hg => ?_, by simp [k4]⟩
        rcases List.mem_append.1 hg with hg | hg
        . obtain ⟨i, hi, hr⟩ := b1 g hg; exact ⟨i, List.mem_append_left _ hi, hr⟩
        . obtain ⟨i, hi, hr⟩ := k3 g hg; exact ⟨i, List.mem_append_right _ hi, hr⟩
      . cases hk
theorem Sim.dels (h : Sim X ρ s a w) (l : List Nat) : Sim X ρ (s.dels l) a w := by
  induction l generalizing s with
  | nil => exact h
  | cons id l ih => exact ih (h.del id)
theorem OwnL.mono' {els : List (Nat × El)} {B B' : Nat -> Prop} {cs : List C} {vs : List Value} {gs : List Nat} (h : OwnL els w B cs vs gs) (hb : ∀ b ∈ gs, B' b) : OwnL els w B' cs vs gs := by
  induction h with
  | nil => exact .nil
  | sc h _ ih => exact .sc h (ih hb)
  | nilr _ ih => exact .nilr (ih hb)
  | len _ ih => exact .len (ih hb)
  | row h1 h2 h3 h4 h5 h6 h7 h8 _ ih => exact .row h1 h2 (hb _ List.mem_cons_self) h4 h5 h6 h7 h8 (ih fun b hm => hb b (List.mem_cons_of_mem _ hm))
  | view h1 h2 h3 h4 h5 h6 h7 _ ih => exact .view h1 (hb _ List.mem_cons_self) h3 h4 h5 h6 h7 (ih fun b hm => hb b (List.mem_cons_of_mem _ hm))
  | room h1 h2 h3 h4 h5 h6 h7 _ ih => exact .room h1 (hb _ List.mem_cons_self) h3 h4 h5 h6 h7 (ih fun b hm => hb b (List.mem_cons_of_mem _ hm))
theorem Sim.back (h : Sim X ρ s a w) (id : Nat) (y : Ob) (hro : RO X ρ w id y) (hinj : ∀ j x, s.get j = some x -> j ≠ id -> hasB ρ j x -> (ρ j).blk ≠ (ρ id).blk)
    (hown : hasB ρ id y -> X.w0.heap.size <= (ρ id).blk \/ X.may (ρ id).blk) : Sim X ρ ⟨s.tm, za5 id y s.ob⟩ a w := by
  refine ⟨h.tm, h.sz, h.df, fun j z hz => ?_, fun i j u z hu hz hij hbi hbj => ?_, fun j z hz hb => ?_, h.fr⟩
  . rcases zbt hz with ⟨rfl, rfl⟩ | ⟨hne, hz'⟩
    . exact hro
    . exact h.ob j z hz'
  . rcases zbt hu with ⟨rfl, rfl⟩ | ⟨hne, hu'⟩
    . rcases zbt hz with ⟨rfl, rfl⟩ | ⟨hne, hz'⟩
      . exact absurd rfl hij
      . exact fun e => hinj j z hz' hne hbj e.symm
    . rcases zbt hz with ⟨rfl, rfl⟩ | ⟨hne', hz'⟩
      . exact hinj i u hu' hne hbi
      . exact h.inj i j u z hu' hz' hij hbi hbj
  . rcases zbt hz with ⟨rfl, rfl⟩ | ⟨hne, hz'⟩
    . exact hown hb
    . exact h.own j z hz' hb
theorem zfo {w' : World} {id : Nat} {y : Ob} {o' : O} {xs xs' : Array Value} {ty : TypeId} {ρ' : Nat -> RI} (hro : RO X ρ w id y) (hB : hasB ρ id y) (hm : w.heap[(ρ id).blk]? = some (.cells xs ty (0, 0)))
    (hm' : w'.heap[(ρ id).blk]? = some (.cells xs' ty (0, 0))) (hsize : xs'.size = xs.size) (hid : ρ' id = ρ id) (hsz : o'.sz = y.o.sz) (hlen : o'.len = y.o.len) (hcells : o'.cells.length = y.o.cells.length)
    (hvec : ∀ e l, y.o = .vec e l -> ∃ l', o' = .vec e l' /\ l'.length = l.length) (hlit : ∀ l, y.o = .lit l -> ∃ l', o' = .lit l') (hc : RCs X ρ' o'.cells (xs'.toList.take o'.cells.length)) :
    RO X ρ' w' id ⟨y.row, y.n, y.ty, o'⟩ := by
  rcases hro.mem with ⟨hrow, hval', _⟩ | ⟨vs', ty', cap, hm1, hm2, hm3, hm4, hm5⟩
  . rcases hB with hb | hb
    . rw [hrow] at hb; cases hb
    . exact absurd hval' hb
  . rw [hm] at hm1
    cases hm1
    refine ⟨by rw [hid]; simp only [hsz]; exact hro.sz, by rw [hid]; simp only [hlen]; exact hro.len, fun hrow hn0 e l he => ?_, fun hrow => ?_, .inr ⟨xs', ty, cap, by rw [hid]; exact hm', hc, by simp only [hcells, hsize]; exact hm3, fun hrow => ?_, fun hrow => ?_⟩⟩
    . cases hyo : y.o with
      | lit l0 =>
        obtain ⟨l', hl'⟩ := hlit l0 hyo
        simp only at he
        rw [hl'] at he; cases he
      | vec e0 l0 =>
        obtain ⟨l', he', hl'⟩ := hvec e0 l0 hyo
        simp only at he
        rw [he'] at he
        cases he
        rw [hl', hid]
        exact hro.n hrow hn0 _ _ hyo
    . obtain ⟨⟨e0, l0, hyo⟩, hn⟩ := hro.vec hrow
      obtain ⟨l', he', _⟩ := hvec e0 l0 hyo
      exact ⟨⟨e0, l', he'⟩, hn⟩
    . rw [hid]; simp only [hcells, hsize]; exact hm4 hrow
    . have := hm5 hrow
      rw [hid]
      simp only [hsz, hlen, hsize]
      exact this
theorem zoo {y o' : O} {u : U} (h : zwc y u = some (true, o')) : o'.cells = u.cells /\ o'.sz = y.sz /\ o'.len = y.len /\ o'.cells.length = y.cells.length /\ (∀ e l, y = .vec e l -> ∃ l', o' = .vec e l' /\ l'.length = l.length /\ u = .vec e l') /\ (∀ l, y = .lit l -> ∃ l', o' = .lit l' /\ u = .agg l') := by
  unfold zwc at h
  split at h
  . rename_i l m
    simp only [oi1, pi1] at h
    obtain ⟨h1, rfl⟩ := h
    have h1 := Nat.beq_true h1
    exact ⟨rfl, h1, rfl, h1, fun e l h => (by cases h), fun l h => ⟨m, rfl, rfl⟩⟩
  . rename_i e l f m
    split at h
    . rename_i m' hm
      obtain ⟨q1, q2, rfl⟩ := zdN hm
      obtain ⟨_, hq⟩ := zbH hm
      simp only [oi1, pi1] at h
      obtain ⟨h1, rfl⟩ := h
      have h1 := Nat.beq_true h1
      subst hq
      refine ⟨rfl, rfl, h1, by simp only [O.cells, zab, h1], fun e l h => ?_, fun l h => (by cases h)⟩
      cases h
      exact ⟨_, rfl, h1, rfl⟩
    . cases h
  . cases h
theorem ztr (h : Sim X ρ s a w) {mode : Nat} {c : C} {v0 : Value} {k : Nat -> List Nat -> U -> Option R} (hk : zi0 X.pd s mode c k = some r) (hv : RC X ρ c v0) :
    ∃ id rows u0 y xs ty gs, k id rows u0 = some r /\ s.get id = some y /\ hasB ρ id y /\ w.heap[(ρ id).blk]? = some (.cells xs ty (0, 0)) /\ zpK X.pd.els w mode u0 v0 (ρ id).blk xs gs /\ Blks ρ s rows gs /\ id ∉ rows /\ u0.cells.length = y.o.cells.length := by
  unfold zi0 at hk
  split at hk
  ·
    rename_i id
    split at hk
    . rename_i n ty e l hg
      obtain ⟨h1, hk⟩ := zaa hk
      obtain ⟨h2, hk⟩ := zao hk
      have h1 := Nat.beq_true h1
      have h2 : 0 < l.length := by simpa [ltN] using h2
      have hro := h.ob _ _ hg
      have hpos : 0 < (flat e l).length := by rw [zab]; exact Nat.mul_pos h2 (zaK e)
      have hB := zcL hro hpos
      rcases zb4 hro with ⟨_, h3⟩ | ⟨cap, h3, h4, h5⟩
      . rw [h3] at h2; simp at h2
      . rcases hro.mem with ⟨_, m2, _⟩ | ⟨vs, ty', cap', m1, m2, m3, m4, m5⟩
        . rw [m2] at h3; cases h3
        . refine ⟨id, [], .vec e l, _, vs, ty', [], hk, hg, hB, m1, ⟨hpos, m3, ?_, .inl ⟨h1, e, l, cap, rfl, by rw [hv.1, h3], h4, h5⟩⟩, (fun g hg => by cases hg), by simp, rfl⟩
          have : ∀ (l : List C) (vs : List Value), Vals l vs -> OwnL X.pd.els w (fun g => g < w.heap.size /\ g ≠ (ρ id).blk) l vs [] := by
            intro l
            induction l with
            | nil => intro vs h; cases vs with
              | nil => exact .nil
              | cons _ _ => exact h.elim
            | cons c l ih => intro vs h; cases vs with
              | nil => exact h.elim
              | cons v vs => exact .sc h.1 (ih vs h.2)
          exact this _ _ (zcm m2)
    . cases hk
  . rename_i id
    split at hk
    . rename_i n ty e l hg
      have hro := h.ob _ _ hg
      have hk' : 0 < l.length /\ k id [] (.vec e l) = some r /\ (mode = 2 \/ (100 < mode /\ l.length = mode - 100)) := by
        cases hb : Nat.beq mode 2 with
        | true => rw [hb] at hk; obtain ⟨h2, hk⟩ := zao hk; exact ⟨by simpa [ltN] using h2, hk, .inl (Nat.beq_true hb)⟩
        | false =>
          rw [hb] at hk
          obtain ⟨h2, hk⟩ := zaa (show cond _ _ none = some r from hk)
          simp only [Bool.and_eq_true, Nat.blt_eq] at h2
          have h3 := Nat.beq_true h2.2
          have h4 := hro.nl rfl (by simp only; omega) e l rfl
          simp only at h4
          exact ⟨by omega, hk, .inr ⟨h2.1, by omega⟩⟩
      obtain ⟨h2, hk, h1⟩ := hk'
      have hpos : 0 < (flat e l).length := by rw [zab]; exact Nat.mul_pos h2 (zaK e)
      have hB := zcL hro hpos
      rcases hro.mem with ⟨m0, _, _⟩ | ⟨vs, ty', cap', m1, m2, m3, m4, m5⟩
      . cases m0
      . refine ⟨id, [], .vec e l, _, vs, ty', [], hk, hg, hB, m1, ⟨hpos, m3, ?_, (by
          rcases h1 with h1 | ⟨h1, h1'⟩
          . exact .inr (.inl ⟨h1, e, l, rfl, by rw [hv.2.2]; simp⟩)
          . exact .inr (.inr (.inr ⟨h1, e, l, rfl, by rw [hv.2.2]; simp, h1'⟩)))⟩, (fun g hg => by cases hg), by simp, rfl⟩
        have : ∀ (l : List C) (vs : List Value), Vals l vs -> OwnL X.pd.els w (fun g => g < w.heap.size /\ g ≠ (ρ id).blk) l vs [] := by
          intro l
          induction l with
          | nil => intro vs h; cases vs with
            | nil => exact .nil
            | cons _ _ => exact h.elim
          | cons c l ih => intro vs h; cases vs with
            | nil => exact h.elim
            | cons v vs => exact .sc h.1 (ih vs h.2)
        exact this _ _ (zcm m2)
    . rename_i n ty l hg
      obtain ⟨h1, hk⟩ := zaa hk
      obtain ⟨h2, hk⟩ := zaa hk
      have h1 := Nat.beq_true h1
      simp only [Bool.and_eq_true] at h2
      obtain ⟨h2, h3⟩ := h2
      have h2 : 0 < l.length := by simpa using h2
      have hnd := zb6 h3
      have hro := h.ob _ _ hg
      have hB := zcL hro h2
      rcases hro.mem with ⟨m0, _, _⟩ | ⟨vs, ty', cap', m1, m2, m3, m4, m5⟩
      . cases m0
      . obtain ⟨d, gs, k1, k2, k3, k4⟩ := zeI h l _ _ hk m2 (List.nodup_cons.1 hnd).2
        have hne := (List.nodup_cons.1 hnd).1
        refine ⟨id, idCs l, .agg d, _, vs, ty', gs, k1, hg, hB, m1, ⟨by simp only [U.cells, k4]; exact h2, by simp only [U.cells, k4]; exact m3, ?_, .inr (.inr (.inl ⟨h1, d, rfl, by rw [hv.2.2]; simp⟩))⟩, k3, hne, k4⟩
        simp only [U.cells, k4]
        refine k2.mono' fun g hgg => ?_
        obtain ⟨i, hi, x, hx, hbx, e1⟩ := k3 g hgg
        refine ⟨by rw [← e1]; exact h.lt hx hbx, fun e => ?_⟩
        exact h.inj i id x _ hx hg (fun e => hne (e ▸ hi)) hbx hB (by rw [e1, e])
    . cases hk
  . cases hk
theorem zko {els : List (Nat × El)} {B : Nat -> Prop} {e : El} {l : List e.T} {cs : List C} {vs vs' : List Value} {gs : List Nat} (h : OwnL els w B (flat e l ++ cs) (vs ++ vs') gs) (hl : vs.length = (flat e l).length) : Vals (flat e l) vs := by
  have : ∀ (xs : List C) (vs : List Value) (gs : List Nat), (∀ c ∈ xs, ∃ v, c.val = some v) -> OwnL els w B (xs ++ cs) (vs ++ vs') gs -> vs.length = xs.length -> Vals xs vs := by
    intro xs
    induction xs with
    | nil => intro vs gs _ _ hl; cases vs with
      | nil => trivial
      | cons _ _ => simp at hl
    | cons c xs ih =>
      intro vs gs hv h hl
      cases vs with
      | nil => simp at hl
      | cons v vs =>
        obtain ⟨z, hz⟩ := hv c (by simp)
        generalize hq : (c :: xs) ++ cs = q at h
        generalize hq2 : (v :: vs) ++ vs' = q2 at h
        cases h with
        | nil => cases hq
        | sc h1 h2 =>
          cases hq; cases hq2
          exact ⟨h1, ih vs _ (fun d hd => hv d (by simp [hd])) h2 (by simpa using hl)⟩
        | nilr _ => cases hq; cases hz
        | len _ => cases hq; cases hz
        | view _ _ _ _ _ _ _ _ => cases hq; cases hz
        | room _ _ _ _ _ _ _ _ => cases hq; cases hz
        | row _ _ _ _ _ _ _ _ _ => cases hq; cases hz
  exact this _ _ _ (fun c hc => zeH e l c hc) h hl
theorem zts {pd : PD} {n m : Nat} {c d : C} {o : List (Nat × Ob)} (h : abC pd n c = some (d, o, m)) : n <= m /\ ∀ p ∈ o, n <= p.1 /\ p.1 < m := by
  unfold abC at h
  split at h
  . split at h
    . simp only [oi1, pi1] at h
      obtain ⟨rfl, rfl, rfl⟩ := h
      exact ⟨by omega, fun p hp => by rw [List.mem_singleton] at hp; subst hp; simp⟩
    . cases h
  . simp only [oi1, pi1] at h
    obtain ⟨rfl, rfl, rfl⟩ := h
    exact ⟨by omega, fun p hp => by rw [List.mem_singleton] at hp; subst hp; simp⟩
  . simp only [oi1, pi1] at h
    obtain ⟨rfl, rfl, rfl⟩ := h
    exact ⟨by omega, fun p hp => by rw [List.mem_singleton] at hp; subst hp; simp⟩
  all_goals first
    | (cases h; done)
    | (simp only [oi1, pi1] at h; obtain ⟨rfl, rfl, rfl⟩ := h; exact ⟨Nat.le_refl _, fun p hp => by cases hp⟩)
theorem zeJ {pd : PD} {l : List C} : ∀ {n m : Nat} {d : List C} {o : List (Nat × Ob)}, abCs pd n l = some (d, o, m) -> n <= m /\ ∀ p ∈ o, n <= p.1 /\ p.1 < m := by
  induction l with
  | nil =>
    intro n m d o h
    simp [abCs] at h
    obtain ⟨rfl, rfl, rfl⟩ := h
    exact ⟨Nat.le_refl _, fun p hp => by cases hp⟩
  | cons c l ih =>
    intro n m d o h
    simp only [abCs] at h
    split at h
    . rename_i d1 o1 m1 hc
      split at h
      . rename_i r p k hr
        simp only [oi1, pi1] at h
        obtain ⟨rfl, rfl, rfl⟩ := h
        obtain ⟨h1, h2⟩ := zts hc
        obtain ⟨h3, h4⟩ := ih hr
        refine ⟨by omega, fun q hq => ?_⟩
        rcases List.mem_append.1 hq with hq | hq
        . have := h2 q hq; omega
        . have := h4 q hq; omega
      . cases h
    . cases h
theorem zcH {l : List (Nat × Ob)} {id : Nat} (h : ∀ p ∈ l, p.1 ≠ id) (x : Option Ob) : zdZ l id x = x := by
  induction l generalizing x with
  | nil => rfl
  | cons p l ih =>
    simp only [zdZ, List.foldl_cons]
    rw [if_neg (h p List.mem_cons_self)]
    exact ih (fun q hq => h q (List.mem_cons_of_mem _ hq)) x
theorem ztt {pd : PD} {n k : Nat} {u : U} {ls rs : List U} {e : El} {m : List e.T} {obs : List (Nat × Ob)} (h : abUs pd n (u :: ls) = some (.vec e m :: rs, obs, k)) : u = .vec e m := by
  simp only [abUs] at h
  split at h
  . rename_i d o m1 hd
    split at h
    . simp only [oi1, pi1, List.cons.injEq] at h
      obtain ⟨⟨rfl, _⟩, _⟩ := h
      cases u with
      | c x => simp only [abU] at hd; split at hd <;> simp at hd
      | agg l => simp only [abU] at hd; split at hd <;> simp at hd
      | vec f l => simp only [abU, oi1, pi1] at hd; exact hd.1
      | box l => simp [abU] at hd
    . cases h
  . cases h
theorem zgg (n : Nat) {vs : List Value} (h : vs.length = n) : RCs X ρ (List.replicate n .dead) vs := by
  induction n generalizing vs with
  | zero => cases vs with
    | nil => trivial
    | cons _ _ => simp at h
  | succ n ih => cases vs with
    | nil => simp at h
    | cons v vs => exact ⟨trivial, ih (by simpa using h)⟩
theorem zgh (n id : Nat) : anyC (C.men id) (List.replicate n .dead) = false := by
  induction n with
  | zero => rfl
  | succ n ih => simp [List.replicate_succ, anyC, C.men, ih]
theorem zlS {l : List U} {vs : List Value} (h : RUs X ρ l vs) : RV X ρ (tupV l) (zcs vs) := by
  match l, vs, h with
  | [], [], _ => trivial
  | [u], [v], h => exact h.1
  | u :: u2 :: l, v :: v2 :: vs, h => exact ⟨_, rfl, h⟩
theorem Split.length {ds : List U} {vs cs : List Value} (h : Split ds vs cs) : ds.length = vs.length := by
  induction h with
  | nil => rfl
  | c _ ih => simp [ih]
  | agg _ _ ih => simp [ih]
  | vec _ _ ih => simp [ih]
theorem zlT {o : Oper} (f : FuncId) (args : Array Operand) (ts : Array TypeId) (ho : o.op = .call ⟨.value (.func f), args, ts⟩) {g : Sg} (hg : SgIO X.P X.pd.els f g) {e : Eff}
    (h : zcu X.pd g args.toList ts.toList o s some = some e) : Does X o s e := by
  intro ρ a w Q hs hnew
  unfold zcu at h
  split at h
  case h_2 => cases h
  rename_i x rest hargs
  split at h
  case h_2 => cases h
  rename_i c hc
  have hv : RC X ρ c (a.eval x) := by
    have := zck hs (ts.toList.headD 0) x
    rw [zcS hc] at this
    exact this
  obtain ⟨id, rows, u0, y, xs, ty, gs, hk, hy, hB, hm, hh, hbl, hnr, hcl⟩ := ztr hs h hv
  clear h
  split at hk
  case h_2 => cases hk
  rename_i us hus
  obtain ⟨r, hr, hk⟩ := Option.bind_eq_some_iff.1 hk
  simp only [hy] at hk
  split at hk
  case h_2 => cases hk
  rename_i l y0 hres hy0
  cases hy0
  split at hk
  case h_2 => cases hk
  rename_i u3 rs obs n hab
  split at hk
  case h_2 => cases hk
  rename_i gd o' hback
  obtain ⟨hgd, hk⟩ := zao hk
  subst hgd
  cases hk
  obtain ⟨q1, q2, q3, q4, q5, q6⟩ := zoo hback
  have hblt := hs.lt hy hB
  have hgs : ∀ c ∈ gs, c < w.heap.size /\ c ≠ (ρ id).blk := zbV.own_ge hh.2.2.1
  have hbown := hs.own id y hy hB
  have hgown : ∀ c ∈ gs, X.w0.heap.size <= c \/ X.may c := fun c hc => by
    obtain ⟨i, hi, z, hz, hbz, e1⟩ := hbl c hc
    rw [← e1]; exact hs.own i z hz hbz
  have hsd0 : ∀ j z, (s.dels (id :: rows)).get j = some z -> j ≠ id /\ s.get j = some z /\ (hasB ρ j z -> (ρ j).blk < w.heap.size /\ (ρ j).blk ≠ (ρ id).blk /\ (ρ j).blk ∉ gs) := fun j z hz => by
    rw [za7] at hz
    split at hz
    . cases hz
    . rename_i hj
      simp only [List.mem_cons, not_or] at hj
      refine ⟨hj.1, hz, fun hb => ⟨hs.lt hz hb, hs.inj j id z y hz hy hj.1 hb hB, fun hin => ?_⟩⟩
      obtain ⟨i, hi, z', hz', hbz', e1⟩ := hbl _ hin
      exact hs.inj i j z' z hz' hz (fun e => hj.2 (e ▸ hi)) hbz' hb e1
  have hA : zeG X ρ (s.dels (id :: rows)) (fun c => c = (ρ id).blk \/ c ∈ gs) := by
    refine ⟨fun j z hz hb hor => ?_, fun c hc hor => ?_⟩
    . obtain ⟨_, _, h3⟩ := hsd0 j z hz
      rcases hor with hor | hor
      . exact (h3 hb).2.1 hor
      . exact (h3 hb).2.2 hor
    . have : X.w0.heap.size <= c \/ X.may c := by
        rcases hor with rfl | hor
        . exact hbown
        . exact hgown c hor
      rcases this with h1 | h1
      . exact absurd hc.1 (by omega)
      . exact hc.2.1 h1
  have hcall := hg u0 us r hr w (a.eval x) (rest.map a.eval) (fun c => c < w.heap.size /\ ¬ (c = (ρ id).blk \/ c ∈ gs)) (ρ id).blk xs ty gs
    (fun c hc => ⟨hc.1, fun e => hc.2 (.inl e), fun e => hc.2 (.inr e)⟩) (zcZ (hs.dels _) hA hus) hm hh
  have hvals : (a.eval x :: rest.map a.eval).toArray = args.map a.eval := by
    rw [← List.map_cons, ← hargs, ← Array.toList_map, Array.toArray_toList]
  rw [hvals] at hcall
  unfold Oper.wp
  have h1 : (execOp a.eval o).run X.P w = (callFunc f (args.map a.eval)).run X.P w := by
    simp [execOp, ho, resolve, Deferred.ofValue, invoke, Act.eval]
  rw [h1]
  refine hcall o a _ Q fun val w' ⟨xs', vals, l', gs', hres', hval, hm', hsize, hown, hkx⟩ => ?_
  rw [hres] at hres'
  cases hres'
  obtain ⟨cs, hsp, hol⟩ := hown
  have hfr : Frm X w' := ⟨by rw [hkx.os]; exact hs.fr.os, by rw [hkx.tape]; exact hs.fr.tape, by rw [hkx.output]; exact hs.fr.output, Nat.le_trans hs.fr.size hkx.size, fun k h1 h2 => by
    rw [hkx.block k (Nat.lt_of_lt_of_le h1 hs.fr.size) ?_]
    . exact hs.fr.block k h1 h2
    . intro hin
      have : X.w0.heap.size <= k \/ X.may k := by
        rcases List.mem_cons.1 hin with rfl | hin
        . exact hbown
        . exact hgown k hin
      rcases this with h3 | h3
      . omega
      . exact h2 h3⟩
  have hsd : Sim X ρ (s.dels (id :: rows)) a w' := (hs.dels _).world (fun j z hz hb => by
    obtain ⟨_, _, h3⟩ := hsd0 j z hz
    obtain ⟨h4, h5, h6⟩ := h3 hb
    exact hkx.block _ h4 (by simp only [List.mem_cons, not_or]; exact ⟨h5, h6⟩)) hfr
  obtain ⟨hac, hspl⟩ := zc0 hab
  obtain ⟨hnle, hkeys⟩ := zeJ hac
  have hpos : u0.cells.length <= xs'.size := by rw [hsize]; exact hh.2.1
  have hidr : ∀ i, zbm o id rows <= i -> i < n -> s.men i = false := fun i h1 h2 => za9 hnew h1 (by omega)
  have hidn : ∀ i, zbm o id rows <= i -> i < n -> i ≠ id := fun i h1 h2 e => (zgy hy (hidr i h1 h2)).1 e.symm
  obtain ⟨o0, hro0, hmen0⟩ : ∃ o0 : O, RO X ρ w' id ⟨y.row, y.n, y.ty, o0⟩ /\ ∀ i, o0.men i = false := by
    cases hyo : y.o with
    | lit l0 =>
      refine ⟨.lit (List.replicate l0.length .dead), ?_, fun i => zgh _ _⟩
      refine zfo (ρ' := ρ) (hs.ob id y hy) hB hm hm' hsize rfl (by rw [hyo]; simp [O.sz]) (by rw [hyo]; rfl) (by rw [hyo]; simp [O.cells]) (fun e l he => by rw [hyo] at he; cases he) (fun l hl => ⟨_, rfl⟩) ?_
      refine zgg _ ?_
      simp only [O.cells, List.length_replicate, List.length_take, Array.length_toList]
      rw [hcl, hyo] at hpos
      simp only [O.cells] at hpos
      omega
    | vec e0 l0 =>
      obtain ⟨l1, rfl, h2, hu3⟩ := q5 e0 l0 hyo
      refine ⟨.vec e0 l1, ?_, fun i => rfl⟩
      refine zfo (ρ' := ρ) (hs.ob id y hy) hB hm hm' hsize rfl q2 q3 q4 (fun e l he => by rw [hyo] at he; cases he; exact ⟨_, rfl, h2⟩) (fun l hl => by rw [hyo] at hl; cases hl) ?_
      subst hu3
      cases l with
      | nil => simp [abUs] at hab
      | cons u ls =>
        obtain rfl := ztt hab
        cases hsp with
        | vec hl hsp' =>
          have hV := zko hol hl.symm
          have e1 : u0.cells.length = (flat e0 l1).length := by rw [hcl, ← q4]; rfl
          rw [e1] at hV
          simp only [O.cells]
          exact zeE hV
  have hs2 := hsd.back id ⟨y.row, y.n, y.ty, o0⟩ hro0 (fun j z hz hj hb => ((hsd0 j z hz).2.2 hb).2.1) (fun _ => hbown)
  obtain ⟨ρ', g1, g2, g3, g4, g5, g6⟩ := zeF (B := fun c => w.heap.size <= c \/ c ∈ gs) (fun c hc => by
      rcases hc with hc | hc
      . exact .inl (Nat.le_trans hs.fr.size hc)
      . exact hgown c hc) cs gs' _ _ obs n _ ρ hac hol hs2 (fun j z hz hb hin => by
      have hge := zbV.own_ge hol _ hin
      have hlt : (ρ j).blk < w.heap.size /\ (ρ j).blk ∉ gs := by
        rcases zbt hz with ⟨rfl, rfl⟩ | ⟨hne, hz'⟩
        . exact ⟨hblt, fun h => (hgs _ h).2 rfl⟩
        . have := (hsd0 j z hz').2.2 hb
          exact ⟨this.1, this.2.2⟩
      rcases hge with hge | hge
      . omega
      . exact hlt.2 hge) (fun i h1 h2 => zbU (zdQ (hidr i h1 h2)) (hidn i h1 h2) (hmen0 i))
  have hus3 := zcM (hspl _ _ hsp) g2
  have hid : ρ' id = ρ id := g4 id (by
    by_cases e1 : id < zbm o id rows
    . exact .inl e1
    . by_cases e2 : n <= id
      . exact .inr e2
      . exact absurd rfl (hidn id (by omega) (by omega)))
  have hroF : RO X ρ' w' id ⟨y.row, y.n, y.ty, o'⟩ := by
    refine zfo (hs.ob id y hy) hB hm hm' hsize hid q2 q3 q4 (fun e l he => by obtain ⟨l', h1, h2, _⟩ := q5 e l he; exact ⟨l', h1, h2⟩) (fun l hl => by obtain ⟨l', h1, _⟩ := q6 l hl; exact ⟨l', h1⟩) ?_
    have e1 : o'.cells.length = u0.cells.length := by rw [q4, hcl]
    rw [e1, q1]
    have h3 := hus3.1
    cases u3 with
    | c x => cases hyo : y.o with
      | lit l0 => obtain ⟨_, _, h4⟩ := q6 l0 hyo; cases h4
      | vec e0 l0 => obtain ⟨_, _, _, h4⟩ := q5 e0 l0 hyo; cases h4
    | agg m => obtain ⟨vs, hvs, hrc⟩ := h3; cases hvs; exact hrc
    | vec e0 m => obtain ⟨vs, hvs, hrc⟩ := h3; cases hvs; exact hrc
    | box _ => exact h3.elim
  have hget2 : (St.puts ⟨(s.dels (id :: rows)).tm, za5 id ⟨y.row, y.n, y.ty, o0⟩ (s.dels (id :: rows)).ob⟩ obs).get id = some ⟨y.row, y.n, y.ty, o0⟩ := by
    rw [zaM, zcH fun p hp => hidn p.1 (hkeys p hp).1 (hkeys p hp).2]
    exact zaA _ _ _
  have hBF : ∀ q : O, hasB ρ' id ⟨y.row, y.n, y.ty, q⟩ := fun q => by unfold hasB at hB ⊢; rw [hid]; exact hB
  have hs3 := g1.store id _ ⟨y.row, y.n, y.ty, o'⟩ hget2 (hBF _) (hBF _) hroF (fun _ _ => rfl) ⟨rfl, rfl, rfl, rfl⟩
  have hs4 : Sim X ρ' ((s.dels rows).puts (obs ++ [(id, ⟨y.row, y.n, y.ty, o'⟩)])) a w' := by
    refine hs3.same ?_ fun j => ?_
    . rw [zbW, zcq, g6]
      exact (zcq s (id :: rows)).symm
    . rw [zb5]
      simp only [St.puts]
      unfold St.get
      simp only
      by_cases hj : j = id
      . subst hj; rw [zaA, zaA]
      . rw [zaJ _ _ hj, zaJ _ _ hj]
        have e1 := zaM (s.dels rows) obs j
        have e2 := zaM ⟨(s.dels (id :: rows)).tm, za5 id ⟨y.row, y.n, y.ty, o0⟩ (s.dels (id :: rows)).ob⟩ obs j
        unfold St.get at e1 e2
        simp only at e1 e2
        rw [e1, e2]
        congr 1
        rw [zaJ _ _ hj]
        have e3 := za7 s rows j
        have e4 := za7 s (id :: rows) j
        unfold St.get at e3 e4
        rw [e3, e4]
        simp only [List.mem_cons, hj, false_or]
  refine ⟨ρ', ?_⟩
  cases hd : o.dst with
  | none => simpa [Eff.app, Act.put] using hs4
  | some d =>
    rw [hval]
    simpa [Eff.app] using hs4.set d (zlS hus3.2)
end
section
variable {X : Ctx} {ρ ρ' : Nat -> RI} {s : St} {a : Act} {w w' : World} {R : Type} {r : R}
theorem znu {s : St} {l : List (Nat × Ob)} {id : Nat} (h : s.men id = false) (hl : zbr id l = false) : (s.puts l).men id = false := by
  induction l generalizing s with
  | nil => exact h
  | cons p l ih =>
    obtain ⟨j, x⟩ := p
    simp only [zbr] at hl
    cases h1 : Nat.beq j id with
    | true => simp [h1] at hl
    | false =>
      cases h2 : x.o.men id with
      | true => simp [h1, h2] at hl
      | false =>
        simp only [h1, h2, cond_false] at hl
        rw [zaC]
        refine ih (zbU h ?_ h2) hl
        intro e
        subst e
        simp at h1
theorem zlU {A : Type} (l : List A) : zn8 (zn8 l) = l := by
  match l with
  | [] => rfl
  | [_] => rfl
  | _ :: _ :: _ => rfl
theorem zpW {A B : Type} (f : A -> B) (l : List A) : zn8 (l.map f) = (zn8 l).map f := by
  match l with
  | [] => rfl
  | [_] => rfl
  | _ :: _ :: _ => rfl
theorem zlV {A : Type} (mode : Nat) (l : List A) : zbC mode (zbC mode l) = l := by
  unfold zbC
  cases Nat.beq mode 4 with
  | true => exact zlU l
  | false => rfl
theorem zpX {A B : Type} (mode : Nat) (f : A -> B) (l : List A) : zbC mode (l.map f) = (zbC mode l).map f := by
  unfold zbC
  cases Nat.beq mode 4 with
  | true => exact zpW f l
  | false => rfl
theorem zkp (h : Sim X ρ s a w) : ∀ (n : Nat) (args : List Operand) (ts : List TypeId) (ids : List Nat), zes X.pd s n args ts = some ids ->
    args.map a.eval = (ids.map fun id => Value.pointer (some ⟨(ρ id).blk, 0, none⟩)) ++ (args.drop n).map a.eval /\ ids.length = n
  | 0, args, ts, ids, hi => by
    have : ids = [] := by cases args <;> (cases hi; rfl)
    subst this
    simp
  | n + 1, [], ts, ids, hi => by cases hi
  | n + 1, x :: l, ts, ids, hi => by
    unfold zes at hi
    split at hi
    . rename_i id hc
      split at hi
      . rename_i r hr
        cases hi
        obtain ⟨h1, h2⟩ := zkp h n l ts.tail r hr
        have hv := zck h (ts.headD 0) x
        rw [zcS hc] at hv
        have hv : RC X ρ (.ptr id 0 0) (a.eval x) := hv
        have hv := hv.2.2
        refine ⟨?_, by simp [h2]⟩
        simp only [List.map_cons, List.drop_succ_cons, List.cons_append, h1, hv]
        simp
      . cases hi
    . cases hi
def HRel (ρ : Nat -> RI) (s : St) (w : World) : List Nat -> List Hd -> Prop
  | [], [] => True
  | id :: ids, h :: hs => (∃ n ty l, s.get id = some ⟨false, n, ty, .lit l⟩ /\ h.b = (ρ id).blk /\ w.heap[h.b]? = some (.cells h.xs h.ty (0, 0)) /\ 0 < l.length /\ h.u.length = l.length /\ l.length <= h.xs.size) /\ HRel ρ s w ids hs
  | _, _ => False
theorem HRel.bs : ∀ {ids : List Nat} {hs : List Hd}, HRel ρ s w ids hs -> Hd.bs hs = ids.map fun id => (ρ id).blk
  | [], [], _ => rfl
  | [], _ :: _, h => h.elim
  | _ :: _, [], h => h.elim
  | id :: ids, h :: hs, ⟨⟨_, _, _, _, h1, _⟩, h2⟩ => by
    have := HRel.bs h2
    unfold Hd.bs at this ⊢
    simp only [List.map_cons, this, h1]
theorem HRel.len : ∀ {ids : List Nat} {hs : List Hd}, HRel ρ s w ids hs -> hs.length = ids.length
  | [], [], _ => rfl
  | [], _ :: _, h => h.elim
  | _ :: _, [], h => h.elim
  | id :: ids, h :: hs, ⟨_, h2⟩ => by simp [HRel.len h2]
theorem HRel.get : ∀ {ids : List Nat} {hs : List Hd}, HRel ρ s w ids hs -> ∀ id ∈ ids, ∃ n ty l, s.get id = some ⟨false, n, ty, .lit l⟩
  | [], [], _, _, hi => by cases hi
  | [], _ :: _, h, _, _ => h.elim
  | _ :: _, [], h, _, _ => h.elim
  | id :: ids, h :: hs, ⟨⟨n, ty, l, h0, _⟩, h2⟩, i, hi => by
    rcases List.mem_cons.1 hi with rfl | hi
    . exact ⟨n, ty, l, h0⟩
    . exact HRel.get h2 i hi
theorem HRel.blk : ∀ {ids : List Nat} {hs : List Hd}, HRel ρ s w ids hs -> ∀ h ∈ hs, w.heap[h.b]? = some (.cells h.xs h.ty (0, 0)) /\ 0 < h.u.length /\ h.u.length <= h.xs.size
  | [], [], _, _, hi => by cases hi
  | [], _ :: _, h, _, _ => h.elim
  | _ :: _, [], h, _, _ => h.elim
  | id :: ids, h :: hs, ⟨⟨n, ty, l, h0, h1, h3, h4, h5, h6⟩, h2⟩, i, hi => by
    rcases List.mem_cons.1 hi with rfl | hi
    . exact ⟨h3, by omega, by omega⟩
    . exact HRel.blk h2 i hi
theorem zkq (h : Sim X ρ s a w) : ∀ (ids : List Nat) (k : List U -> Option R), zdE X.pd s ids k = some r -> (zbf s ids).Nodup ->
    ∃ hs gs, k (Hd.us hs) = some r /\ HRel ρ s w ids hs /\ OwnL X.pd.els w (fun b => X.w0.heap.size <= b \/ X.may b) (Hd.cs hs) (Hd.vs hs) gs /\ Blks ρ s (zbf s ids) gs
  | [], k, hk, _ => ⟨[], [], hk, trivial, .nil, fun g hg => by cases hg⟩
  | id :: ids, k, hk, hnd => by
    unfold zdE at hk
    split at hk
    case h_2 => cases hk
    rename_i n ty l hg
    obtain ⟨h1, hk⟩ := zaa hk
    have h1 : 0 < l.length := by simpa using h1
    have hro := h.ob _ _ hg
    simp only [zbf, hg] at hnd ⊢
    obtain ⟨n1, n2, n3⟩ := List.nodup_append.1 hnd
    rcases hro.mem with ⟨m0, _, _⟩ | ⟨vs, ty', cap, m1, m2, m3, m4, m5⟩
    . cases m0
    . obtain ⟨d, g1, k1, k2, k3, k4⟩ := zeI h l _ (fun m => zdE X.pd s ids fun us => k (.agg m :: us)) hk m2 n1
      obtain ⟨hs, g2, q1, q2, q3, q4⟩ := zkq h ids _ k1 n2
      refine ⟨⟨d, (ρ id).blk, vs, ty'⟩ :: hs, g1 ++ g2, q1, ⟨⟨n, ty, l, hg, rfl, m1, h1, k4, m3⟩, q2⟩, ?_, fun g hg => ?_⟩
      . refine zdm ?_ q3 (Blks.apart h k3 q4 fun i hi hj => n3 i hi i hj rfl)
        simp only [k4]
        exact k2
      . rcases List.mem_append.1 hg with hg | hg
        . obtain ⟨i, hi, hr⟩ := k3 g hg; exact ⟨i, List.mem_append_left _ hi, hr⟩
        . obtain ⟨i, hi, hr⟩ := q4 g hg; exact ⟨i, List.mem_append_right _ hi, hr⟩
theorem zdn : ∀ {ids : List Nat} {hs : List Hd}, HRel ρ s w ids hs -> ∀ j, (∃ p ∈ zbN s ids, p.1 = j) ↔ j ∈ ids
  | [], [], _, j => by simp [zbN]
  | [], _ :: _, h, _ => h.elim
  | _ :: _, [], h, _ => h.elim
  | id :: ids, h :: hs, ⟨⟨n, ty, l, h0, _⟩, h2⟩, j => by
    simp only [zbN, h0, List.mem_cons, exists_eq_or_imp, zdn h2 j]
    constructor
    . rintro (rfl | h)
      . exact .inl rfl
      . exact .inr h
    . rintro (rfl | h)
      . exact .inl rfl
      . exact .inr h
theorem zh6 : ∀ (ids : List Nat) (i : Nat), i ∉ ids -> zbr i (zbN s ids) = false
  | [], _, _ => rfl
  | id :: ids, i, h => by
    have h1 : i ≠ id := fun e => h (by simp [e])
    have h2 := zh6 ids i fun e => h (by simp [e])
    unfold zbN
    split
    . simp only [zbr, zhT (fun e => h1 e.symm), cond_false, O.men, zgh, h2]
    . exact h2
theorem znv {l : List (Nat × Ob)} {id : Nat} (h : ∃ p ∈ l, p.1 = id) (x y : Option Ob) : zdZ l id x = zdZ l id y := by
  induction l generalizing x y with
  | nil => obtain ⟨_, h, _⟩ := h; cases h
  | cons p l ih =>
    simp only [zdZ, List.foldl_cons]
    by_cases h1 : p.1 = id
    . rw [if_pos h1, if_pos h1]
    . rw [if_neg h1, if_neg h1]
      obtain ⟨q, hq, hq2⟩ := h
      rcases List.mem_cons.1 hq with rfl | hq
      . exact absurd hq2 h1
      . exact ih ⟨q, hq, hq2⟩ x y
theorem zkr {l : List (Nat × Ob)} {id : Nat} (h : ∃ p ∈ l, p.1 = id) (x : Option Ob) : ∃ p ∈ l, p.1 = id /\ zdZ l id x = some p.2 := by
  induction l generalizing x with
  | nil => obtain ⟨_, h, _⟩ := h; cases h
  | cons p l ih =>
    by_cases h2 : ∃ q ∈ l, q.1 = id
    . obtain ⟨q, h3, h4, h5⟩ := ih h2 (if p.1 = id then some p.2 else x)
      exact ⟨q, List.mem_cons_of_mem _ h3, h4, h5⟩
    . obtain ⟨q, hq, hq2⟩ := h
      rcases List.mem_cons.1 hq with rfl | hq
      . refine ⟨q, List.mem_cons_self, hq2, ?_⟩
        have e := zcH (l := l) (id := id) (fun p hp e => h2 ⟨p, hp, e⟩) (some q.2)
        simp only [zdZ, List.foldl_cons, if_pos hq2] at e ⊢
        exact e
      . exact absurd ⟨q, hq, hq2⟩ h2
theorem Sim.deads (hs0 : Sim X ρ s a w) : ∀ (ids : List Nat) (hds : List Hd) (ys : List (Array Value)) (S : St), HRel ρ s w ids hds -> zkl w' hds ys -> (Hd.bs hds).Nodup -> Sim X ρ S a w' ->
    (∀ j z, S.get j = some z -> hasB ρ j z -> (ρ j).blk ∉ Hd.bs hds) -> Sim X ρ (S.puts (zbN s ids)) a w'
  | [], _, _, S, _, _, _, hS, _ => hS
  | _ :: _, [], _, _, h, _, _, _, _ => h.elim
  | id :: ids, h :: hds, [], S, _, h2, _, _, _ => h2.elim
  | id :: ids, h :: hds, y :: ys, S, ⟨⟨n, ty, l, h0, h1, h3, h4, h5, h6⟩, hrel⟩, ⟨⟨a1, a2⟩, haft⟩, hnd, hS, hdis => by
    have hnd' := List.nodup_cons.1 hnd
    simp only [zbN, h0]
    rw [zaC]
    have hB : hasB ρ id ⟨false, n, ty, .lit l⟩ := .inl rfl
    have hS1 := hS.back id ⟨false, n, ty, .lit (List.replicate l.length .dead)⟩ (zfo (ρ' := ρ) (hs0.ob id _ h0) hB (by rw [← h1]; exact h3) (by rw [← h1]; exact a1) a2 rfl (by simp [O.sz]) rfl (by simp [O.cells]) (fun e l he => by cases he) (fun l hl => ⟨_, rfl⟩) (by
        refine zgg _ ?_
        simp only [O.cells, List.length_replicate, List.length_take, Array.length_toList]
        omega))
      (fun j z hz hj hb e => hdis j z hz hb (by simp [Hd.bs, e, h1])) (fun hb => hs0.own id _ h0 hB)
    refine Sim.deads hs0 ids hds ys _ hrel haft hnd'.2 hS1 fun j z hz hb => ?_
    rcases zbt hz with ⟨rfl, rfl⟩ | ⟨hne, hz'⟩
    . rw [← h1]; exact hnd'.1
    . exact fun hin => hdis j z hz' hb (List.mem_cons_of_mem _ hin)
theorem Sim.stores (hs0 : Sim X ρ s a w) : ∀ (ids : List Nat) (hds : List Hd) (ys : List (Array Value)) (us : List U) (vs : List Value) (ps : List (Nat × Ob)) (rs : List U) (S : St), HRel ρ s w ids hds -> zkl w' hds ys ->
    zlu s ids us = some (true, ps, rs) -> RUs X ρ' us (Hd.aft hds ys ++ vs) -> (∀ id ∈ ids, ρ' id = ρ id) -> Sim X ρ' S a w' -> (∀ id ∈ ids, ∃ x, S.get id = some x /\ x.row = false) -> Sim X ρ' (S.puts ps) a w' /\ RUs X ρ' rs vs
  | [], [], [], us, vs, ps, rs, S, _, _, hb, hu, _, hS, _ => by cases hb; exact ⟨hS, hu⟩
  | [], [], _ :: _, us, vs, ps, rs, S, _, h, _, _, _, _, _ => h.elim
  | [], _ :: _, _, us, vs, ps, rs, S, h, _, _, _, _, _, _ => h.elim
  | _ :: _, [], _, us, vs, ps, rs, S, h, _, _, _, _, _, _ => h.elim
  | id :: ids, h :: hds, [], us, vs, ps, rs, S, _, h2, _, _, _, _, _ => h2.elim
  | id :: ids, h :: hds, y :: ys, us, vs, ps, rs, S, ⟨⟨n, ty, l, h0, h1, h3, h4, h5, h6⟩, hrel⟩, ⟨⟨a1, a2⟩, haft⟩, hb, hu, hid, hS, hget => by
    unfold zlu at hb
    split at hb
    case h_2 => cases hb
    rename_i m us'
    simp only [h0] at hb
    split at hb
    case h_2 => cases hb
    rename_i g ps' rs' hb'
    simp only [oi1, pi1] at hb
    obtain ⟨hg, rfl, rfl⟩ := hb
    have hml : m.length = l.length /\ g = true := by
      cases hm : Nat.beq m.length l.length with
      | true => rw [hm] at hg; exact ⟨Nat.beq_true hm, hg⟩
      | false => rw [hm] at hg; cases hg
    obtain ⟨hml, rfl⟩ := hml
    obtain ⟨⟨zs, hzs, hrc⟩, hu'⟩ := hu
    cases hzs
    have hB : hasB ρ id ⟨false, n, ty, .lit l⟩ := .inl rfl
    obtain ⟨x, hx, hxr⟩ := hget id List.mem_cons_self
    have hro : RO X ρ' w' id ⟨false, n, ty, .lit m⟩ := zfo (hs0.ob id _ h0) hB (by rw [← h1]; exact h3) (by rw [← h1]; exact a1) a2 (hid id List.mem_cons_self) (by simp [O.sz, hml]) rfl (by simp [O.cells, hml]) (fun e l he => by cases he) (fun l hl => ⟨_, rfl⟩) (by
      simp only [O.cells, hml, ← h5]
      exact hrc)
    have hS1 := hS.store id x ⟨false, n, ty, .lit m⟩ hx (.inl hxr) (.inl rfl) hro (fun _ _ => rfl) ⟨rfl, rfl, rfl, rfl⟩
    rw [zaC]
    refine Sim.stores hs0 ids hds ys us' vs ps' rs' _ hrel haft hb' hu' (fun i hi => hid i (List.mem_cons_of_mem _ hi)) hS1 fun i hi => ?_
    by_cases e : i = id
    . subst e
      exact ⟨_, zaA _ _ _, rfl⟩
    . obtain ⟨z, hz, hzr⟩ := hget i (List.mem_cons_of_mem _ hi)
      refine ⟨z, ?_, hzr⟩
      unfold St.get at hz ⊢
      rw [zaJ _ _ e]; exact hz
theorem zeK : ∀ {l : List C} {vs : List Value} {c : C}, RCs X ρ l vs -> zn7 l = some c -> ∃ v, vs.getLast? = some v /\ RC X ρ c v
  | [], _, _, _, h => by cases h
  | [c], [v], _, h, e => by cases e; exact ⟨v, rfl, h.1⟩
  | [c], [], _, h, _ => h.elim
  | [c], _ :: _ :: _, _, h, _ => h.2.elim
  | _ :: _ :: _, [], _, h, _ => h.elim
  | _ :: _ :: _, [_], _, h, _ => h.2.elim
  | _ :: c2 :: l, v :: v2 :: vs, c, h, e => by
    obtain ⟨u, h1, h2⟩ := zeK (l := c2 :: l) (vs := v2 :: vs) h.2 e
    exact ⟨u, by rw [List.getLast?_cons_cons]; exact h1, h2⟩
theorem zgP : ∀ {l : List C} {vs : List Value} {c : C}, RCs X ρ l vs -> (∀ v, vs.getLast? = some v -> RC X ρ c v) -> RCs X ρ (zlt c l) vs
  | [], _, _, h, _ => h
  | [c], [v], _, h, e => ⟨e v rfl, trivial⟩
  | [c], [], _, h, _ => h.elim
  | [c], _ :: _ :: _, _, h, _ => h.2.elim
  | _ :: _ :: _, [], _, h, _ => h.elim
  | _ :: _ :: _, [_], _, h, _ => h.2.elim
  | _ :: c2 :: l, v :: v2 :: vs, c, h, e => ⟨h.1, zgP (l := c2 :: l) (vs := v2 :: vs) h.2 fun u hu => e u (by rw [List.getLast?_cons_cons]; exact hu)⟩
theorem ztu {l : List U} {vs : List Value} (h : RUs X ρ l vs) (he : zh1 vs) : RUs X ρ (fixL l) vs := by
  unfold fixL
  split
  . rename_i m q
    split
    . rename_i d hd
      match vs, h with
      | [_, _], ⟨⟨a, rfl, h1⟩, ⟨b, rfl, h2⟩, _⟩ =>
        refine ⟨⟨a, rfl, zgP h1 fun v hv => ?_⟩, ⟨b, rfl, h2⟩, trivial⟩
        obtain ⟨u, h3, h4⟩ := zeK h2 hd
        rw [he a b rfl, h3] at hv
        cases hv
        exact h4
    . exact h
  . exact h
theorem zlW {o : Oper} (f : FuncId) (args : Array Operand) (ts : Array TypeId) (ho : o.op = .call ⟨.value (.func f), args, ts⟩) {g : Sg} (hg : SgIM X.P X.pd.els f g) {e : Eff}
    (h : zc8 X.pd g args.toList ts.toList o s some = some e) : Does X o s e := by
  intro ρ a w Q hs hnew
  unfold zc8 at h
  split at h
  case h_2 => cases h
  rename_i ids hids
  obtain ⟨hnd, h⟩ := zaa h
  have hnd := zb6 hnd
  obtain ⟨n1, n2, n3⟩ := List.nodup_append.1 hnd
  obtain ⟨hds, gs, hk, hrel, hown, hbl⟩ := zkq hs ids _ h n2
  clear h
  split at hk
  case h_2 => cases hk
  rename_i us hus
  obtain ⟨r, hr, hk⟩ := Option.bind_eq_some_iff.1 hk
  split at hk
  case h_2 => cases hk
  rename_i l hres
  split at hk
  case h_2 => cases hk
  rename_i l2 obs n hab
  split at hk
  case h_2 => cases hk
  rename_i gd ps rs hback
  obtain ⟨hgd, hk⟩ := zao hk
  subst hgd
  cases hk
  obtain ⟨hargs, hlen⟩ := zkp hs _ _ _ _ hids
  have hbs := hrel.bs
  have hmemb : ∀ id ∈ ids, (ρ id).blk ∈ Hd.bs hds := fun id hid => by rw [hbs]; exact List.mem_map.2 ⟨id, hid, rfl⟩
  have hbown : ∀ c ∈ Hd.bs hds, X.w0.heap.size <= c \/ X.may c := fun c hc => by
    rw [hbs] at hc
    obtain ⟨i, hi, rfl⟩ := List.mem_map.1 hc
    obtain ⟨nn, ty, m, hm⟩ := hrel.get i hi
    exact hs.own i _ hm (.inl rfl)
  have hgown : ∀ c ∈ gs, X.w0.heap.size <= c \/ X.may c := fun c hc => zbV.own_ge hown c hc
  have hgs : ∀ c ∈ gs, c < w.heap.size /\ c ∉ Hd.bs hds := fun c hc => by
    obtain ⟨i, hi, z, hz, hbz, e1⟩ := hbl c hc
    refine ⟨by rw [← e1]; exact hs.lt hz hbz, fun hin => ?_⟩
    rw [hbs] at hin
    obtain ⟨j, hj, e2⟩ := List.mem_map.1 hin
    obtain ⟨nn, ty, m, hm⟩ := hrel.get j hj
    exact hs.inj j i _ z hm hz (fun e => n3 j hj i hi e) (.inl rfl) hbz (by rw [e1]; exact e2)
  have hbnd : (Hd.bs hds).Nodup := by
    rw [hbs]
    refine List.pairwise_map.2 ?_
    refine List.Pairwise.imp_of_mem ?_ n1
    intro i j hi hj hne e
    obtain ⟨_, _, _, hi'⟩ := hrel.get i hi
    obtain ⟨_, _, _, hj'⟩ := hrel.get j hj
    exact hs.inj i j _ _ hi' hj' hne (.inl rfl) (.inl rfl) e
  have hsd0 : ∀ j z, (s.dels (ids ++ zbf s ids)).get j = some z -> j ∉ ids /\ s.get j = some z /\ (hasB ρ j z -> (ρ j).blk < w.heap.size /\ (ρ j).blk ∉ Hd.bs hds /\ (ρ j).blk ∉ gs) := fun j z hz => by
    rw [za7] at hz
    split at hz
    . cases hz
    . rename_i hj
      simp only [List.mem_append, not_or] at hj
      refine ⟨hj.1, hz, fun hb => ⟨hs.lt hz hb, fun hin => ?_, fun hin => ?_⟩⟩
      . rw [hbs] at hin
        obtain ⟨i, hi, e2⟩ := List.mem_map.1 hin
        obtain ⟨nn, ty, m, hm⟩ := hrel.get i hi
        exact hs.inj i j _ z hm hz (fun e => hj.1 (e ▸ hi)) (.inl rfl) hb e2
      . obtain ⟨i, hi, z', hz', hbz', e1⟩ := hbl _ hin
        exact hs.inj i j z' z hz' hz (fun e => hj.2 (e ▸ hi)) hbz' hb e1
  have hA : zeG X ρ (s.dels (ids ++ zbf s ids)) (fun c => c ∈ Hd.bs hds \/ c ∈ gs) := by
    refine ⟨fun j z hz hb hor => ?_, fun c hc hor => ?_⟩
    . obtain ⟨_, _, h3⟩ := hsd0 j z hz
      rcases hor with hor | hor
      . exact (h3 hb).2.1 hor
      . exact (h3 hb).2.2 hor
    . have : X.w0.heap.size <= c \/ X.may c := by
        rcases hor with hor | hor
        . exact hbown c hor
        . exact hgown c hor
      rcases this with h1 | h1
      . exact absurd hc.1 (by omega)
      . exact hc.2.1 h1
  have hcall := hg hds us r (by rw [hrel.len, hlen]) hr w (((zbC g.mode args.toList).drop (cntM g.mode)).map a.eval) (fun c => c < w.heap.size /\ ¬ (c ∈ Hd.bs hds \/ c ∈ gs)) gs
    (fun c hc => ⟨hc.1, fun e => hc.2 (.inl e), fun e => hc.2 (.inr e)⟩) (zcZ (hs.dels _) hA hus) ⟨hrel.blk, hbnd, hown.mono' hgs⟩
  have hvals : (zbC g.mode (hds.map Hd.ptr ++ ((zbC g.mode args.toList).drop (cntM g.mode)).map a.eval)).toArray = args.map a.eval := by
    have e1 : hds.map Hd.ptr = ids.map fun id => Value.pointer (some ⟨(ρ id).blk, 0, none⟩) := by
      have : hds.map Hd.ptr = (Hd.bs hds).map fun b => Value.pointer (some ⟨b, 0, none⟩) := by unfold Hd.bs; rw [List.map_map]; rfl
      rw [this, hbs, List.map_map]; rfl
    rw [e1, ← hargs, zpX, zlV, ← Array.toList_map, Array.toArray_toList]
  rw [hvals] at hcall
  unfold Oper.wp
  have h1 : (execOp a.eval o).run X.P w = (callFunc f (args.map a.eval)).run X.P w := by
    simp [execOp, ho, resolve, Deferred.ofValue, invoke, Act.eval]
  rw [h1]
  refine hcall o a _ Q fun val w' ⟨ys, vals, l', gs', hres', hval, haft, hown', hkx, hlast⟩ => ?_
  rw [hres] at hres'
  cases hres'
  obtain ⟨cs, hsp, hol⟩ := hown'
  have hfr : Frm X w' := ⟨by rw [hkx.os]; exact hs.fr.os, by rw [hkx.tape]; exact hs.fr.tape, by rw [hkx.output]; exact hs.fr.output, Nat.le_trans hs.fr.size hkx.size, fun k h1 h2 => by
    rw [hkx.block k (Nat.lt_of_lt_of_le h1 hs.fr.size) ?_]
    . exact hs.fr.block k h1 h2
    . intro hin
      have : X.w0.heap.size <= k \/ X.may k := by
        rcases List.mem_append.1 hin with hin | hin
        . exact hbown k hin
        . exact hgown k hin
      rcases this with h3 | h3
      . omega
      . exact h2 h3⟩
  have hsd : Sim X ρ (s.dels (ids ++ zbf s ids)) a w' := (hs.dels _).world (fun j z hz hb => by
    obtain ⟨_, _, h3⟩ := hsd0 j z hz
    obtain ⟨h4, h5, h6⟩ := h3 hb
    exact hkx.block _ h4 (by simp only [List.mem_append, not_or]; exact ⟨h5, h6⟩)) hfr
  obtain ⟨hac, hspl⟩ := zc0 hab
  obtain ⟨hnle, hkeys⟩ := zeJ hac
  have hidr : ∀ i, zbm o (ids.headD 0) (zbf s ids) <= i -> i < n -> s.men i = false := fun i h1 h2 => za9 hnew h1 (by omega)
  have hidn : ∀ i, zbm o (ids.headD 0) (zbf s ids) <= i -> i < n -> i ∉ ids := fun i h1 h2 e => by
    obtain ⟨_, _, _, hi'⟩ := hrel.get i e
    exact (zgy hi' (hidr i h1 h2)).1 rfl
  have hs2 := Sim.deads hs ids hds ys _ hrel haft hbnd hsd fun j z hz hb => ((hsd0 j z hz).2.2 hb).2.1
  have hget1 : ∀ j z, ((s.dels (ids ++ zbf s ids)).puts (zbN s ids)).get j = some z -> j ∈ ids \/ (s.dels (ids ++ zbf s ids)).get j = some z := fun j z hz => by
    by_cases hj : j ∈ ids
    . exact .inl hj
    . right
      rw [zaM, zcH fun p hp e => hj ((zdn hrel j).1 ⟨p, hp, e⟩)] at hz
      exact hz
  obtain ⟨ρ', g1, g2, g3, g4, g5, g6⟩ := zeF (B := fun c => w.heap.size <= c \/ c ∈ gs) (fun c hc => by
      rcases hc with hc | hc
      . exact .inl (Nat.le_trans hs.fr.size hc)
      . exact hgown c hc) cs gs' _ _ obs n _ ρ hac hol hs2 (fun j z hz hb hin => by
      have hge := zbV.own_ge hol _ hin
      have hlt : (ρ j).blk < w.heap.size /\ (ρ j).blk ∉ gs := by
        rcases hget1 j z hz with hj | hz'
        . obtain ⟨_, _, _, hi'⟩ := hrel.get j hj
          exact ⟨hs.lt hi' (.inl rfl), fun h => (hgs _ h).2 (hmemb j hj)⟩
        . have := (hsd0 j z hz').2.2 hb
          exact ⟨this.1, this.2.2⟩
      rcases hge with hge | hge
      . omega
      . exact hlt.2 hge) (fun i h1 h2 => znu (zdQ (hidr i h1 h2)) (zh6 _ _ (hidn i h1 h2)))
  have hus3 := zcM (hspl _ _ hsp) g2
  have hus3 : RUs X ρ' (cond (Nat.beq g.mode 7) (fixL l2) l2) (Hd.aft hds ys ++ vals) := by
    cases hm7 : Nat.beq g.mode 7 with
    | true => exact ztu hus3 (hlast (Nat.beq_true hm7))
    | false => exact hus3
  have hid : ∀ id ∈ ids, ρ' id = ρ id := fun id hid => g4 id (by
    by_cases e1 : id < zbm o (ids.headD 0) (zbf s ids)
    . exact .inl e1
    . by_cases e2 : n <= id
      . exact .inr e2
      . exact absurd hid (hidn id (by omega) (by omega)))
  obtain ⟨hs3, hrv⟩ := Sim.stores hs ids hds ys _ vals ps rs _ hrel haft hback hus3 hid g1 fun id hi => by
    rw [zaM, zcH (l := obs) (id := id) (fun p hp e => hidn id (by rw [← e]; exact (hkeys p hp).1) (by rw [← e]; exact (hkeys p hp).2) hi), zaM]
    obtain ⟨p, hp, _, hp2⟩ := zkr ((zdn hrel id).2 hi) ((s.dels (ids ++ zbf s ids)).get id)
    exact ⟨p.2, hp2, deadAt_row p hp⟩
  have hs4 : Sim X ρ' ((s.dels (zbf s ids)).puts (zbN s ids ++ (obs ++ ps))) a w' := by
    refine hs3.same ?_ fun j => ?_
    . simp only [zbW, zcq]
    . rw [zb5, zb5, zaM _ ps, zaM _ obs, zaM _ (zbN s ids), zaM _ ps, zaM _ obs, zaM _ (zbN s ids)]
      congr 2
      by_cases hj : j ∈ ids
      . exact znv ((zdn hrel j).2 hj) _ _
      . rw [za7, za7]
        simp only [List.mem_append, hj, false_or]
  refine ⟨ρ', ?_⟩
  cases hd : o.dst with
  | none => simpa [Eff.app, Act.put] using hs4
  | some d =>
    rw [hval]
    simpa [Eff.app] using hs4.set d (zlS hrv)
where
  deadAt_row {ids : List Nat} (p : Nat × Ob) (hp : p ∈ zbN s ids) : p.2.row = false := by
    induction ids with
    | nil => cases hp
    | cons id ids ih =>
      unfold zbN at hp
      split at hp
      . rcases List.mem_cons.1 hp with rfl | hp
        . rfl
        . exact ih hp
      . exact ih hp
end
section
variable {X : Ctx} {ρ : Nat -> RI} {s : St} {a : Act} {w : World}
theorem zks {P : Program} (t : TypeId) (x y : Operand) {op : BinOp} (hop : op = .shl \/ op = .shr) {p c : C} {n : Int} (h0 : leI 0 n = true) (h1 : ltI n 18446744073709551616 = true) (h : binC op p (.u64 (UInt64.ofNat n.toNat)) = some c) :
    ∃ vp vc, p.val = some vp /\ c.val = some vc /\ ∀ w, (do eqGuard op t x y vp (.int .i64 n); binOp op t vp (.int .i64 n) : Sem Value).run P w = .ok vc w := by
  obtain ⟨⟨vp, hp⟩, _⟩ := zka h
  simp only [leI, ltI, decide_eq_true_eq] at h0 h1
  have hn : (UInt64.ofNat n.toNat).toNat = n.toNat := by simp; omega
  have hb : (C.u64 (UInt64.ofNat n.toNat)).val = some (.int .u64 n) := by
    simp only [C.val, hn]; rw [Int.toNat_of_nonneg h0]
  have hpi : ∃ k m, vp = .int k m := by
    rcases hop with rfl | rfl <;> cases p <;> simp [binC] at h <;> (simp only [C.val, oi1] at hp; exact ⟨_, _, hp.symm⟩)
  obtain ⟨k, m, rfl⟩ := hpi
  obtain ⟨vc, hc, _⟩ := zgB (P := P) t x y default h hp hb (fun p q _ h => by cases h)
  refine ⟨_, vc, hp, hc, fun w => ?_⟩
  obtain ⟨vc', hc', hr⟩ := zgB (P := P) t x y w h hp hb (fun p q _ h => by cases h)
  rw [hc] at hc'
  cases hc'
  obtain ⟨j, rfl⟩ := Int.eq_ofNat_of_zero_le h0
  have e1 : ∀ yk w, (binOp op t (.int k m) (.int yk (j : Int))).run P w = (Op.shift op k m yk j).run P w := fun yk w => by rcases hop with rfl | rfl <;> rfl
  have e2 : ∀ yk w, (eqGuard op t x y (.int k m) (.int yk (j : Int))).run P w = .ok () w := fun yk w => by rcases hop with rfl | rfl <;> simp [eqGuard]
  rw [Sem.run_bind, e2, Result.andThen_ok, e1, zbS _ _ _ _ _ hop] at hr ⊢
  exact hr
theorem zh7 {o : Oper} (fn : FuncId) (args : Array Operand) (ts : Array TypeId) (ho : o.op = .call ⟨.value (.func fn), args, ts⟩) {g : Sg} (hok : zjj X.P X.pd.els fn g) {f : Eff}
    (h : zdD X.pd g args.toList ts.toList o s some = some f) : Does X o s f := by
  unfold zdD at h
  cases hus : zb2 X.pd s args.toList ts.toList with
  | none => simp [hus] at h
  | some us =>
    simp only [hus] at h
    cases hr : g.run us with
    | none => simp [hr] at h
    | some r =>
      simp only [hr, Option.bind_some] at h
      cases hab : abV X.pd (site o) (g.res r) with
      | none => simp [hab] at h
      | some q =>
        obtain ⟨v, obs, n⟩ := q
        simp only [hab, oi1] at h
        subst h
        exact zpS fn args ts ho (fun w vs ok h1 h2 => hok us r hr w vs ok h1 h2) hus hab
theorem ztv {s : St} {l d : List C} (h : reCs s l = some d) : d.length = l.length := by
  induction l generalizing d with
  | nil => simp [reCs] at h; subst h; rfl
  | cons c l ih =>
    simp only [reCs] at h
    cases hc : reC s c with
    | none => simp [hc] at h
    | some c' =>
      cases hl : reCs s l with
      | none => simp [hc, hl] at h
      | some l' =>
        simp only [hc, hl, oi1] at h
        subst h
        simp [ih hl]
theorem zop {o : Oper} (fn : FuncId) (args : Array Operand) (ts : Array TypeId) (ho : o.op = .call ⟨.value (.func fn), args, ts⟩) {g : Sg} (hok : zyF X.P X.pd.els fn g) {f : Eff}
    (h : zda X.pd g args.toList ts.toList o s some = some f) : Does X o s f := by
  unfold zda at h
  split at h
  . rename_i rest hargs
    cases hus : zb2 X.pd s rest ts.toList.tail with
    | none => simp [hus] at h
    | some us =>
      simp only [hus] at h
      cases hr : g.run us with
      | none => simp [hr] at h
      | some r =>
        simp only [hr, Option.bind_some] at h
        cases hab : abV X.pd (site o) (g.res r) with
        | none => simp [hab] at h
        | some q =>
          obtain ⟨v, obs, n⟩ := q
          simp only [hab, oi1] at h
          subst h
          intro ρ a w Q h hnew
          unfold Oper.wp
          have h1 : (execOp a.eval o).run X.P w = (callFunc fn (args.map a.eval)).run X.P w := by
            simp [execOp, ho, resolve, Deferred.ofValue, invoke, Act.eval]
          rw [h1]
          have h2 := hok us r hr w (rest.map a.eval) (fun b => b < w.heap.size /\ ¬ False) (fun b hb => hb.1) (zcZ h zeG.nothing hus)
          have e2 : (Value.slice none 0 0 :: rest.map a.eval).toArray = args.map a.eval := by
            rw [← Array.toArray_toList (xs := args.map a.eval), Array.toList_map, hargs]; rfl
          rw [e2] at h2
          refine h2 o a _ Q fun val w' ⟨hown, hk⟩ => ?_
          have hs1 : Sim X ρ s a w' := h.world (fun id x hx hb => hk.block _ (h.lt hx hb)) (hk.frm h.fr)
          obtain ⟨ρ', g1, g2, g3⟩ := zbV (fun g hg => .inl (Nat.le_trans h.fr.size hg)) hab hown hs1 (fun id x hx hb => Nat.not_le.2 (h.lt hx hb)) (fun id h1 h2 => za9 hnew h1 (by omega))
          refine ⟨ρ', ?_⟩
          cases hd : o.dst with
          | none => simpa [Eff.app, St.dels, Act.put] using g1
          | some d => simpa [Eff.app, St.dels] using g1.set d g2
  . cases h
theorem zoq {o : Oper} (fn : FuncId) (args : Array Operand) (ts : Array TypeId) (ho : o.op = .call ⟨.value (.func fn), args, ts⟩) {g : Sg} (hok : zyE X.P X.pd.els fn g) {f : Eff}
    (h : zc9 X.pd g args.toList ts.toList o s some = some f) : Does X o s f := by
  unfold zc9 at h
  split at h
  case h_2 => cases h
  rename_i x hargs
  split at h
  case h_2 => cases h
  rename_i id off0 n hx
  split at h
  case h_2 => cases h
  rename_i nn ty0 l hgid
  obtain ⟨hc, h⟩ := zaa h
  cases hd : reCs (s.dels [id]) l with
  | none => simp [hd] at h
  | some ds =>
    simp only [hd] at h
    cases hr : g.run [.agg ds] with
    | none => simp [hr] at h
    | some r =>
      simp only [hr, Option.bind_some] at h
      cases hab : abV X.pd (site o) (g.res r) with
      | none => simp [hab] at h
      | some q =>
        obtain ⟨v, obs, m⟩ := q
        simp only [hab, oi1] at h
        subst h
        intro ρ a w Q h hnew
        obtain ⟨hl1, hl2, hl3, hv⟩ := ev_c h hx
        have hro := h.ob _ _ hgid
        have hB : hasB ρ id ⟨false, nn, ty0, .lit l⟩ := .inl rfl
        simp only [Bool.and_eq_true] at hc
        have hlen : l.length = n := Nat.beq_true hc.1
        have hdl : ds.length = l.length := ztv hd
        have hpos : 0 < n := by simpa [Nat.blt_eq] using hc.2.1
        rcases hro.mem with ⟨m0, _, _⟩ | ⟨xs, ty, cap, m1, m2, m3, m4, m5⟩
        . cases m0
        simp only [O.cells] at m2 m3
        have hbown := h.own id _ hgid hB
        have hblt : (ρ id).blk < w.heap.size := h.lt hgid hB
        have hsd : Sim X ρ (s.dels [id]) a w := h.dels _
        have hget : ∀ j z, (s.dels [id]).get j = some z -> j ≠ id /\ s.get j = some z := fun j z hz => by
          rw [za7] at hz
          split at hz
          . cases hz
          . rename_i hj; exact ⟨fun e => hj (by simp [e]), hz⟩
        have hne : ∀ j z, (s.dels [id]).get j = some z -> hasB ρ j z -> (ρ j).blk ≠ (ρ id).blk := fun j z hz hb => h.inj j id z _ (hget j z hz).2 hgid (hget j z hz).1 hb hB
        have hA : zeG X ρ (s.dels [id]) (fun c => c = (ρ id).blk) := by
          refine ⟨fun j z hz hb => hne j z hz hb, fun c hc e => ?_⟩
          rw [e] at hc
          rcases hbown with h1 | h1
          . exact absurd hc.1 (by omega)
          . exact hc.2.1 h1
        have hH := zpO hsd hA hd m2
        have hcall := hok ds r hr w (ρ id).blk xs ty (fun c => c < w.heap.size /\ ¬ c = (ρ id).blk) (fun c hc => hc) m1 (by rw [hdl]; exact m3) (by rw [hdl]; exact hH) (by omega) (by rw [hdl, hlen]; exact hl3)
        have e2 : #[Value.slice (some ⟨(ρ id).blk, 0, none⟩) ds.length ds.length] = args.map a.eval := by
          rw [← Array.toArray_toList (xs := args.map a.eval), Array.toList_map, hargs, hdl, hlen]
          simp only [List.map_cons, List.map_nil, hv]
        rw [e2] at hcall
        unfold Oper.wp
        have h1 : (execOp a.eval o).run X.P w = (callFunc fn (args.map a.eval)).run X.P w := by
          simp [execOp, ho, resolve, Deferred.ofValue, invoke, Act.eval]
        rw [h1]
        refine hcall o a _ Q fun val w' ⟨hown, hkx⟩ => ?_
        have hfr : Frm X w' := ⟨by rw [hkx.os]; exact h.fr.os, by rw [hkx.tape]; exact h.fr.tape, by rw [hkx.output]; exact h.fr.output, Nat.le_trans h.fr.size hkx.size, fun k h1 h2 => by
          rw [hkx.block k (Nat.lt_of_lt_of_le h1 h.fr.size) ?_]
          . exact h.fr.block k h1 h2
          . intro hin
            rw [List.mem_singleton] at hin
            subst hin
            rcases hbown with h3 | h3
            . omega
            . exact h2 h3⟩
        have hs1 : Sim X ρ (s.dels [id]) a w' := hsd.world (fun j z hz hb => hkx.block _ (hsd.lt hz hb) (by rw [List.mem_singleton]; exact hne j z hz hb)) hfr
        obtain ⟨ρ', g1, g2, g3⟩ := zbV (B := fun c => w.heap.size <= c \/ c = (ρ id).blk) (fun c hc => by
          rcases hc with hc | hc
          . exact .inl (Nat.le_trans h.fr.size hc)
          . rw [hc]; exact hbown) hab hown hs1 (fun j z hz hb hin => by
          rcases hin with hin | hin
          . exact absurd (hsd.lt hz hb) (Nat.not_lt.2 hin)
          . exact hne j z hz hb hin) (fun i h1 h2 => zdQ (za9 hnew h1 (by omega)))
        refine ⟨ρ', ?_⟩
        cases hd : o.dst with
        | none => simpa [Eff.app, Act.put] using g1
        | some d => simpa [Eff.app, zcq, g3] using g1.set d g2
theorem zor {o : Oper} (fn : FuncId) (args : Array Operand) (ts : Array TypeId) (ho : o.op = .call ⟨.value (.func fn), args, ts⟩) {g : Sg} (hok : zvt X.P X.pd.els fn g) {f : Eff}
    (h : zdb X.pd g args.toList ts.toList o s some = some f) : Does X o s f := by
  unfold zdb at h
  split at h
  case h_2 => cases h
  rename_i x rest hargs
  split at h
  case h_2 => cases h
  rename_i id n c hx
  split at h
  case h_2 => cases h
  rename_i nn ty0 e l hgid
  obtain ⟨hc, h⟩ := zao h
  cases hus : zb2 X.pd (s.dels [id]) rest ts.toList.tail with
  | none => simp [hus] at h
  | some us =>
    simp only [hus] at h
    cases hr : g.run (.c (.rop e l 1 n) :: us) with
    | none => simp [hr] at h
    | some r =>
      simp only [hr, Option.bind_some] at h
      cases hab : abV X.pd (site o) (g.res r) with
      | none => simp [hab] at h
      | some q =>
        obtain ⟨v, obs, m⟩ := q
        simp only [hab, oi1] at h
        subst h
        intro ρ a w Q hS hnew
        obtain ⟨hl1, hl2, hl3, hv⟩ := ev_c hS hx
        have hro := hS.ob _ _ hgid
        have hB : hasB ρ id ⟨false, nn, ty0, .vec e l⟩ := .inl rfl
        simp only [Bool.and_eq_true, leN, decide_eq_true_eq] at hc
        obtain rfl : c = l.length := by omega
        rcases hro.mem with ⟨m0, _, _⟩ | ⟨xs, ty, cap, m1, m2, m3, m4, m5⟩
        . cases m0
        simp only [O.cells, zab] at m2 m3
        have hbown := hS.own id _ hgid hB
        have hblt : (ρ id).blk < w.heap.size := hS.lt hgid hB
        have hsd : Sim X ρ (s.dels [id]) a w := hS.dels _
        have hget : ∀ j z, (s.dels [id]).get j = some z -> j ≠ id /\ s.get j = some z := fun j z hz => by
          rw [za7] at hz
          split at hz
          . cases hz
          . rename_i hj; exact ⟨fun e => hj (by simp [e]), hz⟩
        have hne : ∀ j z, (s.dels [id]).get j = some z -> hasB ρ j z -> (ρ j).blk ≠ (ρ id).blk := fun j z hz hb => hS.inj j id z _ (hget j z hz).2 hgid (hget j z hz).1 hb hB
        have hA : zeG X ρ (s.dels [id]) (fun c => c = (ρ id).blk) := by
          refine ⟨fun j z hz hb => hne j z hz hb, fun c hc e => ?_⟩
          rw [e] at hc
          rcases hbown with h1 | h1
          . exact absurd hc.1 (by omega)
          . exact hc.2.1 h1
        have hcall := hok e l n us r hr w (ρ id).blk xs ty (rest.map a.eval) (fun c => c < w.heap.size /\ ¬ c = (ρ id).blk) (fun c hc => hc) (zcZ hsd hA hus) m1 m3 (zcm m2) hl1 hl2
        have e2 : (Value.slice (some ⟨(ρ id).blk, 0, none⟩) n l.length :: rest.map a.eval).toArray = args.map a.eval := by
          rw [← Array.toArray_toList (xs := args.map a.eval), Array.toList_map, hargs]
          simp only [List.map_cons, hv, Nat.zero_mul]
        rw [e2] at hcall
        unfold Oper.wp
        have h1 : (execOp a.eval o).run X.P w = (callFunc fn (args.map a.eval)).run X.P w := by
          simp [execOp, ho, resolve, Deferred.ofValue, invoke, Act.eval]
        rw [h1]
        refine hcall o a _ Q fun val w' ⟨hown, hkx⟩ => ?_
        have hfr : Frm X w' := ⟨by rw [hkx.os]; exact hS.fr.os, by rw [hkx.tape]; exact hS.fr.tape, by rw [hkx.output]; exact hS.fr.output, Nat.le_trans hS.fr.size hkx.size, fun k h1 h2 => by
          rw [hkx.block k (Nat.lt_of_lt_of_le h1 hS.fr.size) ?_]
          . exact hS.fr.block k h1 h2
          . intro hin
            rw [List.mem_singleton] at hin
            subst hin
            rcases hbown with h3 | h3
            . omega
            . exact h2 h3⟩
        have hs1 : Sim X ρ (s.dels [id]) a w' := hsd.world (fun j z hz hb => hkx.block _ (hsd.lt hz hb) (by rw [List.mem_singleton]; exact hne j z hz hb)) hfr
        obtain ⟨ρ', g1, g2, g3⟩ := zbV (B := fun c => w.heap.size <= c \/ c = (ρ id).blk) (fun c hc => by
          rcases hc with hc | hc
          . exact .inl (Nat.le_trans hS.fr.size hc)
          . rw [hc]; exact hbown) hab hown hs1 (fun j z hz hb hin => by
          rcases hin with hin | hin
          . exact absurd (hsd.lt hz hb) (Nat.not_lt.2 hin)
          . exact hne j z hz hb hin) (fun i h1 h2 => zdQ (za9 hnew h1 (by omega)))
        refine ⟨ρ', ?_⟩
        cases hd : o.dst with
        | none => simpa [Eff.app, Act.put] using g1
        | some d => simpa [Eff.app, zcq, g3] using g1.set d g2
theorem ztw {o : Oper} (x : Operand) (t : TypeId) (ho : o.op = .call ⟨.builtin .cap, #[x], #[t]⟩) {et : TypeId} {id i n c : Nat} (hu : X.P.underlying t = some (.slice et)) (hx : (X.pd.ev t s x).c? = some (.slc id i n c)) {rd : List Nat} :
    Does X o s ⟨o.dst, .u (.c (.int c)), [], [], [], rd⟩ := by
  intro ρ a w Q h _
  obtain ⟨_, _, _, hv⟩ := ev_c h hx
  refine zaW h (x := .int .i64 c) ?_ (show RC X ρ (.int c) _ from za0 rfl)
  simp [execOp, ho, resolve, invoke, builtin, Builtin.cap_, run_underlying hu, hv, goInt]
theorem ztx {c : C} {v : Value} (hc : c.heldb = true) (h : Holds X.w0 X.ok c v) : RC X ρ c v := by
  cases c <;> first | exact h | cases hc
theorem zty {c : C} {v : Value} (hc : c.heldb = true) (h : RC X ρ c v) : Holds X.w0 X.ok c v := by
  cases c <;> first | exact h | cases hc
theorem zeL : ∀ {m : List C} {vs : List Value}, zet m = true -> zaS X.w0 X.ok m vs -> RCs X ρ m vs
  | [], [], _, _ => trivial
  | [], _ :: _, _, h => h.elim
  | _ :: _, [], _, h => h.elim
  | c :: m, v :: vs, hc, h => by
    obtain ⟨h1, h2⟩ := cond_some' hc
    exact ⟨ztx h1 h.1, zeL h2 h.2⟩
where cond_some' {a b : Bool} (h : cond a b false = true) : a = true /\ b = true := by cases a <;> simp_all
theorem zjm : ∀ {m : List C} {vs : List Value}, zet m = true -> RCs X ρ m vs -> zaS X.w0 X.ok m vs
  | [], [], _, _ => trivial
  | [], _ :: _, _, h => h.elim
  | _ :: _, [], _, h => h.elim
  | c :: m, v :: vs, hc, h => by
    obtain ⟨h1, h2⟩ := zeL.cond_some' hc
    exact ⟨zty h1 h.1, zjm h2 h.2⟩
theorem znw : ∀ {m : List C} (id : Nat), zet m = true -> anyC (C.men id) m = false
  | [], _, _ => rfl
  | c :: m, id, hc => by
    obtain ⟨h1, h2⟩ := zeL.cond_some' hc
    simp only [anyC, znw id h2]
    cases c <;> first | rfl | cases h1
theorem zaS.mono {w' : World} {ok ok' : Nat -> Prop} (hok : ∀ b, ok b -> ok' b /\ w'.heap[b]? = w.heap[b]?) : ∀ {m : List C} {vs : List Value}, zaS w ok m vs -> zaS w' ok' m vs
  | [], [], _ => trivial
  | [], _ :: _, h => h.elim
  | _ :: _, [], h => h.elim
  | _ :: _, _ :: _, h => ⟨h.1.mono hok, zaS.mono hok h.2⟩
theorem zfN {w' : World} {ok ok' : Nat -> Prop} : ∀ {us : List U} {vs : List Value}, zm7 us = true -> zaX w ok us vs -> zaX w' ok' us vs
  | [], [], _, _ => trivial
  | [], _ :: _, _, h => h.elim
  | _ :: _, [], _, h => h.elim
  | u :: us, v :: vs, hc, h => by
    unfold zm7 at hc
    split at hc
    . rename_i x
      obtain ⟨h1, h2⟩ := zeL.cond_some' hc
      refine ⟨?_, zfN h2 h.2⟩
      have h3 : Holds w ok x v := h.1
      cases x <;> first | (cases h1; done) | exact zh2 rfl h3
    . cases hc
theorem zgQ (hs : Sim X ρ s a w) {id n : Nat} {ty : TypeId} {l m : List C} (hg : s.get id = some ⟨false, n, ty, .lit l⟩) {w' : World} {xs xs' : Array Value} {bty : TypeId} (hm : w.heap[(ρ id).blk]? = some (.cells xs bty (0, 0)))
    (hm' : w'.heap[(ρ id).blk]? = some (.cells xs' bty (0, 0))) (hsize : xs'.size = xs.size) (hlen : m.length = l.length) (hh : zet m = true) (hH : zaS w' X.ok m (xs'.toList.take m.length)) (hk : KeptX [(ρ id).blk] w w') :
    Sim X ρ ⟨s.tm, za5 id ⟨false, n, ty, .lit m⟩ (s.dels [id]).ob⟩ a w' := by
  have hB : hasB ρ id ⟨false, n, ty, .lit l⟩ := .inl rfl
  have hbown := hs.own id _ hg hB
  have hsd : Sim X ρ (s.dels [id]) a w := hs.dels _
  have hget : ∀ j z, (s.dels [id]).get j = some z -> j ≠ id /\ s.get j = some z := fun j z hz => by
    rw [za7] at hz
    split at hz
    . cases hz
    . rename_i hj; exact ⟨fun e => hj (by simp [e]), hz⟩
  have hne : ∀ j z, (s.dels [id]).get j = some z -> hasB ρ j z -> (ρ j).blk ≠ (ρ id).blk := fun j z hz hb => hs.inj j id z _ (hget j z hz).2 hg (hget j z hz).1 hb hB
  have hfr : Frm X w' := ⟨by rw [hk.os]; exact hs.fr.os, by rw [hk.tape]; exact hs.fr.tape, by rw [hk.output]; exact hs.fr.output, Nat.le_trans hs.fr.size hk.size, fun k h1 h2 => by
    rw [hk.block k (Nat.lt_of_lt_of_le h1 hs.fr.size) ?_]
    . exact hs.fr.block k h1 h2
    . intro hin
      rw [List.mem_singleton] at hin
      subst hin
      rcases hbown with h3 | h3
      . omega
      . exact h2 h3⟩
  have hs1 : Sim X ρ (s.dels [id]) a w' := hsd.world (fun j z hz hb => hk.block _ (hsd.lt hz hb) (by rw [List.mem_singleton]; exact hne j z hz hb)) hfr
  have hRC : RCs X ρ m (xs'.toList.take m.length) := zeL hh (hH.mono fun b hb => ⟨hb, (hfr.block b hb.1 hb.2.1).symm⟩)
  have hro : RO X ρ w' id ⟨false, n, ty, .lit m⟩ := zfo (ρ' := ρ) (hs.ob id _ hg) hB hm hm' hsize rfl (by simp [O.sz, hlen]) rfl (by simp [O.cells, hlen]) (fun e l he => by cases he) (fun l hl => ⟨_, rfl⟩) hRC
  exact hs1.back id _ hro (fun j z hz _ hb => hne j z hz hb) (fun _ => hbown)
theorem zh8 {tk : Bool} {o : Oper} (fn : FuncId) (args : Array Operand) (ts : Array TypeId) (ho : o.op = .call ⟨.value (.func fn), args, ts⟩) {g : Sg} (hok1 : tk = false -> zpL X.P X.pd.els fn g) (hok2 : tk = true -> zpM X.P X.pd.els fn g) {f : Eff}
    (h0 : zcR X.pd tk g args.toList ts.toList o s some = some f) : Does X o s f := by
  unfold zcR at h0
  split at h0
  case h_2 => cases h0
  rename_i x rest hargs
  split at h0
  case h_2 => cases h0
  rename_i id hx
  split at h0
  case h_2 => cases h0
  rename_i n ty l hgid
  obtain ⟨hc, h1⟩ := zaa h0
  clear h0
  simp only [Bool.and_eq_true] at hc
  obtain ⟨hcl, hcp⟩ := hc
  have hcp : 0 < l.length := by simpa [Nat.blt_eq] using hcp
  split at h1
  case h_2 => cases h1
  rename_i us hus
  obtain ⟨hsc, h2⟩ := zaa h1
  clear h1
  obtain ⟨r, hr, h3⟩ := Option.bind_eq_some_iff.1 h2
  clear h2
  split at h3
  case h_2 => cases h3
  rename_i m us2 hres
  obtain ⟨hcm, h4⟩ := zaa h3
  clear h3
  simp only [Bool.and_eq_true] at hcm
  obtain ⟨hhm, hlm⟩ := hcm
  have hlm := Nat.beq_true hlm
  intro ρ a w Q hS hnew
  obtain ⟨hp1, hp2, hv⟩ := ev_c hS hx
  have hv : a.eval x = .pointer (some ⟨(ρ id).blk, 0, none⟩) := by simpa using hv
  have hro := hS.ob _ _ hgid
  have hB : hasB ρ id ⟨false, n, ty, .lit l⟩ := .inl rfl
  rcases hro.mem with ⟨m0, _, _⟩ | ⟨xs, bty, cap, m1, m2, m3, m4, m5⟩
  . cases m0
  simp only [O.cells] at m2 m3
  have hbown := hS.own id _ hgid hB
  have hblt : (ρ id).blk < w.heap.size := hS.lt hgid hB
  have hsd : Sim X ρ (s.dels [id]) a w := hS.dels _
  have hget : ∀ j z, (s.dels [id]).get j = some z -> j ≠ id /\ s.get j = some z := fun j z hz => by
    rw [za7] at hz
    split at hz
    . cases hz
    . rename_i hj; exact ⟨fun e => hj (by simp [e]), hz⟩
  have hne : ∀ j z, (s.dels [id]).get j = some z -> hasB ρ j z -> (ρ j).blk ≠ (ρ id).blk := fun j z hz hb => hS.inj j id z _ (hget j z hz).2 hgid (hget j z hz).1 hb hB
  have hokb : ∀ c, X.ok c -> c < w.heap.size /\ c ≠ (ρ id).blk := fun c hc => by
    refine ⟨Nat.lt_of_lt_of_le hc.1 hS.fr.size, fun e => ?_⟩
    rw [e] at hc
    rcases hbown with h1 | h1
    . exact absurd hc.1 (by omega)
    . exact hc.2.1 h1
  have hA : zeG X ρ (s.dels [id]) (fun c => c = (ρ id).blk) := ⟨fun j z hz hb => hne j z hz hb, fun c hc => (hokb c hc).2⟩
  have hHl : zaS w X.ok l (xs.toList.take l.length) := (zjm hcl m2).mono fun b hb => ⟨hb, hS.fr.block b hb.1 hb.2.1⟩
  have hHus : zaX w X.ok us (rest.map a.eval) := zfN hsc (zcZ hsd hA hus)
  have e2 : (Value.pointer (some ⟨(ρ id).blk, 0, none⟩) :: rest.map a.eval).toArray = args.map a.eval := by
    rw [← Array.toArray_toList (xs := args.map a.eval), Array.toList_map, hargs]
    simp only [List.map_cons, hv]
  have hrun : (execOp a.eval o).run X.P w = (callFunc fn (args.map a.eval)).run X.P w := by
    simp [execOp, ho, resolve, Deferred.ofValue, invoke, Act.eval]
  have hmen : ∀ {n2 : Nat} {i : Nat}, i ≠ id -> s.men i = false -> St.men ⟨s.tm, za5 id ⟨false, n, ty, .lit m⟩ (s.dels [id]).ob⟩ i = false := fun {n2 i} hi hsm => by
    have h1 := zdQ (l := [id]) hsm
    have h2 := zbU (s := ⟨s.tm, (s.dels [id]).ob⟩) (id := id) (j := i) (x := ⟨false, n, ty, .lit m⟩) (by rw [show (⟨s.tm, (s.dels [id]).ob⟩ : St) = s.dels [id] by rw [← zcq s [id]]]; exact h1) hi (znw i hhm)
    exact h2
  have hsame : ∀ (obs : List (Nat × Ob)) j, (s.puts ((id, ⟨false, n, ty, .lit m⟩) :: obs)).get j = ((⟨s.tm, za5 id ⟨false, n, ty, .lit m⟩ (s.dels [id]).ob⟩ : St).puts obs).get j := fun obs j => by
    rw [zaC, zaM, zaM]
    congr 1
    unfold St.get
    simp only
    by_cases e : j = id
    . rw [e, zaA, zaA]
    . rw [zaJ _ _ e, zaJ _ _ e]
      have := za7 s [id] j
      unfold St.get at this
      rw [this, if_neg (by simpa using e)]
  unfold Oper.wp
  rw [hrun]
  cases tk with
  | false =>
    rw [cond_false] at h4
    split at h4
    case h_2 => cases h4
    rename_i rs obs k2 hab
    cases h4
    have hcall := hok1 rfl l us r hr w (ρ id).blk xs bty (rest.map a.eval) X.ok hokb hHus m1 hcp m3 hHl
    rw [e2] at hcall
    refine hcall o a _ Q fun val w' ⟨xs', vals, l', m', gs', hres', hval, hm', hsize, hH, hown, hk⟩ => ?_
    rw [hres] at hres'
    cases hres'
    have hb := zgQ hS hgid m1 hm' hsize hlm hhm (hH hlm) hk
    obtain ⟨cs, hsp, hol⟩ := hown
    obtain ⟨hac, hspl⟩ := zc0 hab
    have hidr : ∀ i, zbm o id [] <= i -> i < k2 -> s.men i = false := fun i h1 h2 => za9 hnew h1 (by omega)
    have hidn : ∀ i, zbm o id [] <= i -> i < k2 -> i ≠ id := fun i h1 h2 e => (zgy hgid (hidr i h1 h2)).1 e.symm
    obtain ⟨ρ', g1, g2, g3, g4, g5, g6⟩ := zeF (B := fun c => w.heap.size <= c) (fun c hc => .inl (Nat.le_trans hS.fr.size hc)) cs gs' _ _ obs k2 _ ρ hac hol hb (fun j z hz hbz hin => by
      have hge : w.heap.size <= (ρ j).blk := zbV.own_ge hol _ hin
      rcases zbt hz with ⟨rfl, rfl⟩ | ⟨hne', hz'⟩
      . omega
      . exact absurd (hS.lt (hget j z hz').2 hbz) (Nat.not_lt.2 hge)) (fun i h1 h2 => hmen (n2 := 0) (hidn i h1 h2) (hidr i h1 h2))
    have hus3 := zcM (hspl _ _ hsp) g2
    refine ⟨ρ', ?_⟩
    have hs3 : Sim X ρ' (s.puts ((id, ⟨false, n, ty, .lit m⟩) :: obs)) a w' := g1.same (by rw [zbW, zbW]) fun j => hsame obs j
    cases hd : o.dst with
    | none => simpa [Eff.app, St.dels, Act.put] using hs3
    | some d =>
      rw [hval]
      simpa [Eff.app, St.dels] using hs3.set d (zlS hus3)
  | true =>
    rw [cond_true] at h4
    split at h4
    case h_2 => cases h4
    rename_i e q
    have hcall := hok2 rfl l us r hr w (ρ id).blk xs bty (rest.map a.eval) X.ok hokb hHus m1 hcp m3 hHl
    rw [e2] at hcall
    cases he : errC m with
    | true =>
      rw [he, cond_true] at h4
      cases h4
      refine hcall o a _ Q fun val w' ⟨xs', m', e', q', hres', hm', hsize, hH, hk, hv1, hv2⟩ => ?_
      rw [hres] at hres'
      cases hres'
      have hb := zgQ hS hgid m1 hm' hsize hlm hhm (hH hlm) hk
      have hs3 : Sim X ρ (s.puts [(id, ⟨false, n, ty, .lit m⟩)]) a w' := hb.same (by rw [zbW]) fun j => hsame [] j
      have hrv : RC X ρ (.ro e q) val := (hv1 he).mono fun b hb' => ⟨hb', (hb.fr.block b hb'.1 hb'.2.1).symm⟩
      refine ⟨ρ, ?_⟩
      cases hd : o.dst with
      | none => simpa [Eff.app, St.dels, Act.put] using hs3
      | some d => simpa [Eff.app, St.dels] using hs3.set d (v := .u (.c (.ro e q))) hrv
    | false =>
      rw [he, cond_false] at h4
      split at h4
      case h_2 => cases h4
      rename_i c obs k2 hab
      cases h4
      refine hcall o a _ Q fun val w' ⟨xs', m', e', q', hres', hm', hsize, hH, hk, hv1, hv2⟩ => ?_
      rw [hres] at hres'
      cases hres'
      have hb := zgQ hS hgid m1 hm' hsize hlm hhm (hH hlm) hk
      obtain ⟨gs', hol⟩ := hv2 he
      have hac : abCs X.pd (zbm o id []) [.ro e q] = some ([c], obs, k2) := by simp [abCs, hab]
      have hidr : ∀ i, zbm o id [] <= i -> i < k2 -> s.men i = false := fun i h1 h2 => za9 hnew h1 (by omega)
      have hidn : ∀ i, zbm o id [] <= i -> i < k2 -> i ≠ id := fun i h1 h2 e => (zgy hgid (hidr i h1 h2)).1 e.symm
      obtain ⟨ρ', g1, g2, g3, g4, g5, g6⟩ := zeF (B := fun c => w.heap.size <= c) (fun c hc => .inl (Nat.le_trans hS.fr.size hc)) [val] gs' _ _ obs k2 _ ρ hac hol hb (fun j z hz hbz hin => by
        have hge : w.heap.size <= (ρ j).blk := zbV.own_ge hol _ hin
        rcases zbt hz with ⟨rfl, rfl⟩ | ⟨hne', hz'⟩
        . omega
        . exact absurd (hS.lt (hget j z hz').2 hbz) (Nat.not_lt.2 hge)) (fun i h1 h2 => hmen (n2 := 0) (hidn i h1 h2) (hidr i h1 h2))
      refine ⟨ρ', ?_⟩
      have hs3 : Sim X ρ' (s.puts ((id, ⟨false, n, ty, .lit m⟩) :: obs)) a w' := g1.same (by rw [zbW, zbW]) fun j => hsame obs j
      cases hd : o.dst with
      | none => simpa [Eff.app, St.dels, Act.put] using hs3
      | some d => simpa [Eff.app, St.dels] using hs3.set d (v := .u (.c c)) g2.1
theorem zos {env : Nat -> Option Sg} (henv : ∀ f g, env f = some g -> SgOK X.P X.pd.els f g) {o : Oper} (fn : Nat) (args : Array Operand) (ts : Array TypeId) (ho : o.op = .call ⟨.value (.func fn), args, ts⟩) {f : Eff}
    (h : zdc X.pd env fn args.toList ts.toList o s some = some f) : Does X o s f := by
  unfold zdc at h
  obtain ⟨hlt, h⟩ := zaa h
  rw [Nat.blt_eq] at hlt
  split at h
  . rename_i g hg
    have := (henv _ g hg).2.1 (by omega)
    rw [show (fn + 2000000) % 1000000 = fn by omega] at this
    exact zoq fn args ts ho this h
  . split at h
    . rename_i g hg
      have := (henv _ g hg).2.2.1 (by omega)
      rw [show (fn + 3000000) % 1000000 = fn by omega] at this
      exact zop fn args ts ho this h
    . split at h
      . rename_i g hg
        have := (henv _ g hg).2.2.2.1 (by omega)
        rw [show (fn + 4000000) % 1000000 = fn by omega] at this
        exact zor fn args ts ho this h
      . split at h
        . rename_i g hg
          have := (henv _ g hg).2.2.2.2.1 (by omega)
          rw [show (fn + 6000000) % 1000000 = fn by omega] at this
          exact zh8 fn args ts ho (fun _ => this) (fun h => by cases h) h
        . split at h
          . rename_i g hg
            have := (henv _ g hg).2.2.2.2.2 (by omega)
            rw [show (fn + 7000000) % 1000000 = fn by omega] at this
            exact zh8 fn args ts ho (fun h => by cases h) (fun _ => this) h
          . cases h
theorem zpY {env : Nat -> Option Sg} (henv : ∀ f g, env f = some g -> SgOK X.P X.pd.els f g) {o : Oper} (fn : Nat) (args : Array Operand) (ts : Array TypeId) (ho : o.op = .call ⟨.value (.func fn), args, ts⟩) {f : Eff}
    (h : zeu X.pd env fn args.toList ts.toList o s some = some f) : Does X o s f := by
  unfold zeu at h
  cases hg : env fn with
  | none =>
    simp only [hg] at h
    exact zos henv fn args ts ho h
  | some g =>
    simp only [hg] at h
    obtain ⟨hlt, h⟩ := zaa h
    rw [Nat.blt_eq] at hlt
    have hok : zjk X.P X.pd.els fn g := by
      have := (henv fn g hg).1 (by omega)
      rwa [Nat.mod_eq_of_lt hlt] at this
    cases hm : Nat.beq g.mode 0 with
    | true =>
      rw [hm] at h
      exact zh7 fn args ts ho (hok.1 (Nat.beq_true hm)) h
    | false =>
      rw [hm] at h
      simp only [cond_false] at h
      cases hn : zhP X.pd s args.toList ts.toList with
      | false =>
        rw [hn] at h
        simp only [cond_false] at h
        cases hM : isM g.mode with
        | true => rw [hM] at h; exact zlW fn args ts ho (hok.2.2 hM) h
        | false => rw [hM] at h; exact zlT fn args ts ho (hok.2.1 (fun e => by rw [e] at hm; cases hm) hM) h
      | true =>
        rw [hn] at h
        simp only [cond_true] at h
        split at h
        . rename_i g2 hg2
          obtain ⟨hm2, h⟩ := zaa h
          have hok2 : zjk X.P X.pd.els fn g2 := by
            have := (henv _ g2 hg2).1 (by omega)
            rwa [Nat.add_mod_right, Nat.mod_eq_of_lt hlt] at this
          exact zh7 fn args ts ho (hok2.1 (Nat.beq_true hm2)) h
        . cases h
theorem zh9 {c : C} : zpm c = true ↔ ∃ l, c = .str l := by
  cases c <;> simp [zpm]
theorem zia {et : TypeId} {k : TK} {c : C} (h : zjX et k c = true) : k = .slice et \/ k = .str := by
  unfold zjX at h
  split at h
  . cases h
  . left; rw [Nat.beq_true h]
  . right; rfl
  . cases h
theorem zkt (hp : PDok X.P X.pd) {o : Oper} (b : Builtin) (args : Array Operand) (ts : Array TypeId) (ho : o.op = .call ⟨.builtin b, args, ts⟩) {f : Eff}
    (h : zbu X.pd b args.toList ts.toList o s some = some f) : Does X o s f := by
  unfold zbu at h
  split at h
  ·
    rename_i x t ha hts
    have ha' : args = #[x] := by apply Array.ext'; simpa using ha
    have ht' : ts = #[t] := by apply Array.ext'; simpa using hts
    subst ha'; subst ht'
    split at h
    . rename_i n et sz by' z ht
      rw [zak h]
      exact zlK x t n et ho (hp.ti _ _ ht).kind.1
    . rename_i et sz by' z ht
      cases hx : (X.pd.ev t s x).c? with
      | none => simp [hx] at h
      | some c =>
        simp only [hx] at h
        obtain ⟨hns, h⟩ := zez h
        cases hn : lenC s c with
        | none => simp [hn] at h
        | some n =>
          simp only [hn] at h
          rw [zak h]
          have hk := za3 hp ht
          refine zno hp x t ho hx hn (.inl ⟨et, hk⟩) ?_
          rw [← zh9, hns, hk]
          simp
    . rename_i sz by' z ht
      cases hx : (X.pd.ev t s x).c? with
      | none => simp [hx] at h
      | some c =>
        simp only [hx] at h
        obtain ⟨hns, h⟩ := zaa h
        cases hn : lenC s c with
        | none => simp [hn] at h
        | some n =>
          simp only [hn] at h
          rw [zak h]
          have hk := zeD hp ht
          refine zno hp x t ho hx hn (.inr hk) ?_
          rw [← zh9, hns, hk]
          simp
    . cases h
  ·
    rename_i x t ha hts
    have ha' : args = #[x] := by apply Array.ext'; simpa using ha
    have ht' : ts = #[t] := by apply Array.ext'; simpa using hts
    subst ha'; subst ht'
    split at h
    . rename_i et sz by' z ht
      split at h
      . rename_i id i n c hx
        rw [zak h]
        exact ztw x t ho (za3 hp ht) hx
      . cases h
    . cases h
  ·
    rename_i x y ha
    have ha' : args = #[x, y] := by apply Array.ext'; simpa using ha
    subst ha'
    split at h
    . rename_i m n hx hy
      rw [zak h]
      exact zkf x y ts _ ho hx hy (.inl ⟨rfl, rfl⟩)
    . cases h
  . rename_i x y ha
    have ha' : args = #[x, y] := by apply Array.ext'; simpa using ha
    subst ha'
    split at h
    . rename_i m n hx hy
      rw [zak h]
      exact zkf x y ts _ ho hx hy (.inr ⟨rfl, rfl⟩)
    . cases h
  . rename_i x y z ha
    have ha' : args = #[x, y, z] := by apply Array.ext'; simpa using ha
    subst ha'
    split at h
    . rename_i m n k hx hy hz
      rw [zak h]
      exact zpH x y z ts ho hx hy hz
    . cases h
  ·
    rename_i x y t u ha hts
    have ha' : args = #[x, y] := by apply Array.ext'; simpa using ha
    have ht' : ts = #[t, u] := by apply Array.ext'; simpa using hts
    subst ha'; subst ht'
    split at h
    . rename_i et sz by' z ku sz2 by2 z2 ht hu
      split at h
      . rename_i ei id n hei hx hy
        split at h
        . rename_i m ty e l hg
          obtain ⟨hc1, h⟩ := zaa h
          obtain ⟨hc2, h⟩ := zao h
          simp only [oi1] at h
          subst h
          simp only [Bool.and_eq_true] at hc1 hc2
          obtain rfl := Nat.beq_true hc1.1
          obtain ⟨ti', hti', _, hel⟩ := zbT hp hc1.2.1
          exact zkh hp x y t u ho (za3 hp ht) (hp.ti _ _ hu).kind hei hel hx hy hg (by simpa [leI] using hc2.1) (by simpa [Nat.blt_eq] using hc1.2.2) (by simpa [leN] using hc2.2)
        . cases h
      . cases h
    . rename_i et sz by' z tu hnum ht hu
      split at h
      . rename_i ei id n c hei hx hy
        split at h
        . rename_i m ty e l f' l2' hg hl
          split at h
          . rename_i l2 hcast
            obtain ⟨hc1, h⟩ := zaa h
            obtain ⟨hc2, h⟩ := zao h
            simp only [Bool.and_eq_true] at hc1 hc2
            obtain ⟨h1, h2, h3, h4, h5⟩ := hc1
            simp only [oi1] at h
            subst h
            obtain rfl := Nat.beq_true h1
            obtain ⟨ti', hti', _, hel⟩ := zbT hp h3
            have hk := za3 hp ht
            refine zkg hp x y t u ho hk ?_ hei hel hx hy hg hl hcast (by simpa [Nat.blt_eq] using h2) (by simpa [ltN] using hc2.1) (by simpa [Nat.blt_eq] using h4) (by simpa [leN] using hc2.2)
            obtain ⟨k, sz2, by2, z2⟩ := tu
            rcases zia h5 with hk' | hk'
            . simp only at hk'; subst hk'; exact .inl (za3 hp hu)
            . simp only at hk'; subst hk'; exact .inr (zeD hp hu)
          . cases h
        . cases h
      . rename_i ei id c hei hx hy
        split at h
        . rename_i m ty e l f' l2' hg hl
          split at h
          . rename_i l2 hcast
            obtain ⟨hc1, h⟩ := zaa h
            obtain ⟨hc2, h⟩ := zao h
            obtain ⟨h1, h2, h3, h4⟩ := beq4 hc1
            simp only [oi1] at h
            subst h
            obtain rfl := Nat.beq_true h1
            obtain ⟨ti', hti', _, hel⟩ := zbT hp h2
            have hk := za3 hp ht
            refine zlM hp x y t u ho hk ?_ hei hel hx hy hg hl hcast (by simpa [Nat.blt_eq] using h3) (by simpa [leN] using hc2)
            obtain ⟨k, sz2, by2, z2⟩ := tu
            rcases zia h4 with hk' | hk'
            . simp only at hk'; subst hk'; exact .inl (za3 hp hu)
            . simp only at hk'; subst hk'; exact .inr (zeD hp hu)
          . cases h
        . cases h
      . cases h
    . cases h
  ·
    rename_i x y t u ha hts
    have ha' : args = #[x, y] := by apply Array.ext'; simpa using ha
    have ht' : ts = #[t, u] := by apply Array.ext'; simpa using hts
    subst ha'; subst ht'
    split at h
    . rename_i et sz by' z tu ht hu
      split at h
      . rename_i id i n c hx hy
        split at h
        . rename_i rw' m ty e l f' l2' hg hl
          split at h
          . rename_i l2 hcast
            obtain ⟨hc1, h⟩ := zaa h
            simp only [oi1] at h
            subst h
            simp only [Bool.and_eq_true] at hc1
            exact zgN hp x y t u ho ht hc1.1 hx (.inl (.inl rfl)) hg hy hl hcast
          . cases h
        . cases h
      . rename_i id i n cc c hx hy
        split at h
        . rename_i rw' m ty e l f' l2' hg hl
          split at h
          . rename_i l2 hcast
            obtain ⟨hc1, h⟩ := zaa h
            simp only [oi1] at h
            subst h
            simp only [Bool.and_eq_true] at hc1
            exact zgN hp x y t u ho ht hc1.1 hx (.inl (.inr ⟨_, rfl⟩)) hg hy hl hcast
          . cases h
        . cases h
      . rename_i id c hx hy
        split at h
        . rename_i m ty e l f' l2' hg hl
          split at h
          . rename_i l2 hcast
            obtain ⟨hc1, h⟩ := zaa h
            simp only [oi1] at h
            subst h
            simp only [Bool.and_eq_true] at hc1
            exact zgN hp x y t u ho ht hc1.1 hx (.inr ⟨rfl, rfl, rfl, rfl⟩) hg hy hl hcast
          . cases h
        . cases h
      . rename_i i1 o1 e n1 i2 o2 f2 n2 hx hy
        split at h
        . rename_i rw' m ty l1 rw2 m2 ty2 l2 hg1 hg2
          obtain ⟨hc1, h⟩ := zaa h
          simp only [oi1] at h
          subst h
          simp only [Bool.and_eq_true] at hc1
          obtain ⟨c1, c2, c3, c4, c5, c6, c7⟩ := hc1
          obtain rfl := zfd c2
          exact zom hp x y t u ho ht c1 hx hy hg1 hg2 (by simpa [Nat.blt_eq] using c4) (by simpa [Nat.ble_eq] using c5) (by simpa [Nat.ble_eq] using c6) c7
        . cases h
      . cases h
    . cases h
  . cases h
theorem zgR {pd : PD} {t : TypeId} {x : Operand} {e : El} {et : TypeId} (h : zm8 pd t x = some (e, et)) : x = .const (.slice none 0 0) := by
  unfold zm8 at h
  split at h
  . rfl
  . cases h
theorem zc1 {R : Type} {j : Int} {k : Nat -> Option R} {r : R} : ∀ {m i : Nat}, zgr m i j k = some r -> ∃ c, i <= c /\ c < i + m /\ j = (c : Int) /\ k c = some r
  | 0, _, h => by cases h
  | m + 1, i, h => by
    unfold zgr at h
    cases hb : eqI j i with
    | true =>
      rw [hb] at h
      simp only [cond_true] at h
      exact ⟨i, Nat.le_refl _, by omega, by simpa [eqI] using hb, h⟩
    | false =>
      rw [hb] at h
      simp only [cond_false] at h
      obtain ⟨c, h1, h2, h3, h4⟩ := zc1 h
      exact ⟨c, by omega, by omega, h3, h4⟩
end
section
variable {X : Ctx} {ρ : Nat -> RI} {s : St} {a : Act} {w : World}
theorem ztz {pd : PD} {t : TypeId} (h : pd.pos t = true) : ∃ ti, pd.ti t = some ti /\ 0 < ti.size := by
  unfold PD.pos at h
  split at h
  . rename_i ti hti; exact ⟨ti, hti, by simpa [Nat.blt_eq] using h⟩
  . cases h
theorem ztA (hp : PDok X.P X.pd) {o : Oper} (op : BinOp) (t t' : TypeId) (x y : Operand) (ho : o.op = .binOp op t x y t') {env : Nat -> Option Sg} {f : Eff} (h : opK X.pd env o s some = some f) : Does X o s f := by
  rw [zau] at h
  unfold opK1 at h
  rw [ho] at h
  simp only at h
  split at h
  . rename_i p q hx hy
    split at h
    ·
      split at h
      . rename_i m n
        obtain ⟨hn, h⟩ := zao h
        rw [zak h]
        refine zbc _ t t' x y ho hx hy rfl rfl (vc := .int .i64 (wr (m.tdiv n))) rfl fun w => ?_
        have := zlG (P := X.P) (w := w) .i64 m n (neI hn)
        simpa [eqGuard, binOp, wr] using this
      . rename_i m n
        obtain ⟨hn, h⟩ := zao h
        rw [zak h]
        refine zbc _ t t' x y ho hx hy rfl rfl (vc := .int .u64 (m / n).toNat) rfl fun w => ?_
        have := zlG (P := X.P) (w := w) .u64 m.toNat n.toNat (ne64 hn)
        rw [zBL] at this
        simpa [eqGuard, binOp] using this
      . rename_i m n
        obtain ⟨hn, h⟩ := zao h
        rw [zak h]
        refine zbc _ t t' x y ho hx hy rfl rfl (vc := .int .u8 (m / n).toNat) rfl fun w => ?_
        have := zlG (P := X.P) (w := w) .u8 m.toNat n.toNat (ne8 hn)
        rw [quo8] at this
        simpa [eqGuard, binOp] using this
      . cases h
    ·
      split at h
      . rename_i m n
        obtain ⟨hn, h⟩ := zao h
        rw [zak h]
        refine zbc _ t t' x y ho hx hy rfl rfl (vc := .int .i64 (m.tmod n)) (by simp [C.val]) fun w => ?_
        have := zlH (P := X.P) (w := w) .i64 m n (neI hn)
        simpa [eqGuard, binOp] using this
      . rename_i m n
        obtain ⟨hn, h⟩ := zao h
        rw [zak h]
        refine zbc _ t t' x y ho hx hy rfl rfl (vc := .int .u64 (m % n).toNat) rfl fun w => ?_
        have := zlH (P := X.P) (w := w) .u64 m.toNat n.toNat (ne64 hn)
        rw [zBM] at this
        simpa [eqGuard, binOp] using this
      . rename_i m n
        obtain ⟨hn, h⟩ := zao h
        rw [zak h]
        refine zbc _ t t' x y ho hx hy rfl rfl (vc := .int .u8 (m % n).toNat) rfl fun w => ?_
        have := zlH (P := X.P) (w := w) .u8 m.toNat n.toNat (ne8 hn)
        rw [rem8] at this
        simpa [eqGuard, binOp] using this
      . cases h
    ·
      split at h
      . rename_i n
        obtain ⟨hn, h⟩ := zao h
        split at h
        . rename_i c hc
          obtain ⟨hn2, h⟩ := zao h
          rw [zak h]
          obtain ⟨vp, vc, h1, h2, h3⟩ := zks (P := X.P) t x y (.inl rfl) hn hn2 hc
          exact zbc _ t t' x y ho hx hy h1 rfl h2 h3
        . cases h
      . split at h
        . rename_i c hc
          rw [zak h]
          exact zja _ t t' x y ho hx hy hc (fun a b ha hb => by subst ha; subst hb; simp [binC] at hc)
        . cases h
    ·
      split at h
      . rename_i n
        obtain ⟨hn, h⟩ := zao h
        split at h
        . rename_i c hc
          obtain ⟨hn2, h⟩ := zao h
          rw [zak h]
          obtain ⟨vp, vc, h1, h2, h3⟩ := zks (P := X.P) t x y (.inr rfl) hn hn2 hc
          exact zbc _ t t' x y ho hx hy h1 rfl h2 h3
        . cases h
      . split at h
        . rename_i c hc
          rw [zak h]
          exact zja _ t t' x y ho hx hy hc (fun a b ha hb => by subst ha; subst hb; simp [binC] at hc)
        . cases h
    . split at h
      . rename_i c hc
        rw [zak h]
        exact zon hp _ t t' x y ho hx hy hc
      . obtain ⟨hok, h⟩ := zaa h
        split at h
        . rename_i c hc
          rw [zak h]
          refine zja _ t t' x y ho hx hy hc (fun a b ha hb => ?_)
          subst ha; subst hb
          unfold zyA at hok
          simp only at hok
          split at hok
          . rename_i hti; exact (hp.ti _ _ hti).kind
          . cases hok
        . cases h
  . rename_i e l e' m hx hy
    split at h
    . rename_i m' hcast
      split at h
      . rename_i g b hv
        split at h
        . obtain ⟨hg, h⟩ := zao h
          subst hg
          rw [zak h]
          exact zns hp _ t t' x y ho hx hy hcast hv (.inl ⟨rfl, rfl⟩)
        . obtain ⟨hg, h⟩ := zao h
          subst hg
          rw [zak h]
          exact zns hp _ t t' x y ho hx hy hcast hv (.inr ⟨rfl, rfl⟩)
        . cases h
      . cases h
    . cases h
  . rename_i l m hx hy
    split at h
    . rename_i b hb
      split at h
      . rw [zak h]; exact znt hp _ t t' x y ho hx hy hb (.inl ⟨rfl, rfl⟩)
      . rw [zak h]; exact znt hp _ t t' x y ho hx hy hb (.inr ⟨rfl, rfl⟩)
      . cases h
    . cases h
  . cases h
theorem zyK (hp : PDok X.P X.pd) {o : Oper} (t : TypeId) (x i : Operand) (ho : o.op = .indexAddr t x i) {env : Nat -> Option Sg} {f : Eff} (h : opK X.pd env o s some = some f) : Does X o s f := by
  rw [zau] at h
  unfold opK1 at h
  rw [ho] at h
  simp only at h
  split at h
  . rename_i c n hx hi
    have one : ∀ j : Int, n = j -> (match X.pd.idx t s c j with
        | some (g, d) => must g (val o (.u (.c d)) (idC c) some)
        | none => none) = some f -> Does X o s f := by
      intro j hj h
      subst hj
      split at h
      . rename_i g d hd
        obtain ⟨hg, h⟩ := zao h
        subst hg
        rw [zak h]
        exact ztn hp t x i ho hx hi hd
      . cases h
    split at h
    . obtain ⟨k, _, _, hk, h⟩ := zc1 h
      exact one k hk h
    . exact one n rfl h
  . cases h
theorem zot (hp : PDok X.P X.pd) {o : Oper} (t : TypeId) (x i : Operand) (ho : o.op = .index t x i) {env : Nat -> Option Sg} {f : Eff} (h : opK X.pd env o s some = some f) : Does X o s f := by
  rw [zau] at h
  unfold opK1 at h
  rw [ho] at h
  simp only at h
  split at h
  . rename_i n et sz by' z e l j ht hx hi
    split at h
    . rename_i u hu
      obtain ⟨hel, hu⟩ := zaa hu
      obtain ⟨hj, h⟩ := zao h
      rw [zak h]
      simp only [Bool.and_eq_true] at hj
      obtain ⟨k, hk, hkl⟩ := zcF (n := j) (m := l.length) (by simp [hj.1, hj.2.2])
      subst hk
      obtain ⟨ei, hei, hes, _⟩ := zbT hp hel
      have hkn : k < n := by simpa [ltI] using hj.2.1
      refine zgH (l := []) hp t x i ho ht hx (.inl ⟨e, l, rfl⟩) hi rfl hkn hei ?_ ?_
      . rw [hes, U.cells, zab, ← Nat.succ_mul]; exact Nat.mul_le_mul_right _ hkl
      . rw [hes, U.cells, zgw e l k hkl]; simpa using hu
    . cases h
  . rename_i n et sz by' z l j ht hx hi
    split at h
    . rename_i ei hei
      obtain ⟨hfit, h⟩ := zaa h
      obtain ⟨k, _, hkn, hj, h5⟩ := zc1 h
      subst hj
      split at h5
      . rename_i u hu
        rw [zak h5]
        refine zgH (l := []) hp t x i ho ht hx (.inr ⟨l, rfl⟩) hi rfl (by omega) hei ?_ (by simpa [U.cells] using hu)
        have h1 : n * ei.size <= l.length := by simpa [Nat.ble_eq] using hfit
        rw [U.cells, ← Nat.succ_mul]
        exact Nat.le_trans (Nat.mul_le_mul_right _ (by omega)) h1
      . cases h5
    . cases h
  . rename_i sz by' z l j ht hx hi
    obtain ⟨hj, h⟩ := zao h
    rw [zak h]
    exact zlR hp t x i ho ht hx hi hj
  . cases h
theorem zpZ (hp : PDok X.P X.pd) {o : Oper} (src dst : TypeId) (x : Operand) (ho : o.op = .convert src dst x) {env : Nat -> Option Sg} {f : Eff} (h : opK X.pd env o s some = some f) : Does X o s f := by
  rw [zau] at h
  unfold opK1 at h
  rw [ho] at h
  simp only at h
  split at h
  . rename_i ts kd sz by' z c hs hd hx
    split at h
    . rename_i d hd'
      rw [zak h]
      exact zpJ hp src dst x ho hs hd hx hd'
    . cases h
  . rename_i et sz by' z sz2 by2 z2 c hs hd hx
    split at h
    . rename_i sz3 by3 z3 het
      split at h
      . rename_i l hl
        obtain ⟨hns, h⟩ := zez h
        rw [zak h]
        exact zoj hp src dst x ho (za3 hp hs) (hp.ti _ _ het).kind (zeD hp hd) hx hl (fun r hr => by rw [hr] at hns; cases hns)
      . cases h
    . cases h
  . cases h
theorem zwC (hp : PDok X.P X.pd) {o : Oper} (op : UnOp) (t : TypeId) (x : Operand) (ho : o.op = .unOp op t x) {env : Nat -> Option Sg} {f : Eff} (h : opK X.pd env o s some = some f) : Does X o s f := by
  rw [zau] at h
  unfold opK1 at h
  rw [ho] at h
  simp only at h
  split at h
  . rename_i b hx
    rw [zak h]
    exact zgC _ t x ho hx rfl rfl fun w => by simp [Op.unary]
  . rename_i b hx
    rw [zak h]
    refine zgC _ t x ho hx rfl (vc := .int .u64 (~~~b).toNat) rfl fun w => ?_
    obtain ⟨v, hv, hr⟩ := zgB (P := X.P) t x x w (op := .xor) (a := .u64 (-1)) (b := .u64 b) (c := .u64 (-1 ^^^ b)) rfl rfl rfl (fun p q h => by cases h)
    have e1 : (-1 : UInt64) ^^^ b = ~~~b := by apply UInt64.toBitVec_inj.1; simp
    rw [e1] at hv
    cases hv
    have e2 : (if IntKind.u64.signed = true then (-1 : Int) else IntKind.u64.max) = 18446744073709551615 := rfl
    simpa [eqGuard, binOp, Op.unary, e2] using hr
  . rename_i b hx
    rw [zak h]
    refine zgC _ t x ho hx rfl (vc := .int .u32 (~~~b).toNat) rfl fun w => ?_
    obtain ⟨v, hv, hr⟩ := zgB (P := X.P) t x x w (op := .xor) (a := .u32 (-1)) (b := .u32 b) (c := .u32 (-1 ^^^ b)) rfl rfl rfl (fun p q h => by cases h)
    have e1 : (-1 : UInt32) ^^^ b = ~~~b := by apply UInt32.toBitVec_inj.1; simp
    rw [e1] at hv
    cases hv
    have e2 : (if IntKind.u32.signed = true then (-1 : Int) else IntKind.u32.max) = 4294967295 := rfl
    simpa [eqGuard, binOp, Op.unary, e2] using hr
  . rename_i b hx
    rw [zak h]
    refine zgC _ t x ho hx rfl (vc := .int .i64 (wr (0 - b))) rfl fun w => ?_
    obtain ⟨v, hv, hr⟩ := zgB (P := X.P) t x x w (op := .sub) (a := .int 0) (b := .int b) (c := .int (wr (0 - b))) rfl rfl rfl (fun p q h => by cases h)
    cases hv
    simpa [eqGuard, binOp, Op.unary] using hr
  . rename_i b hx
    rw [zak h]
    refine zgC _ t x ho hx rfl (vc := .int .u64 (0 - b).toNat) rfl fun w => ?_
    obtain ⟨v, hv, hr⟩ := zgB (P := X.P) t x x w (op := .sub) (a := .u64 0) (b := .u64 b) (c := .u64 (0 - b)) rfl rfl rfl (fun p q h => by cases h)
    cases hv
    simpa [eqGuard, binOp, Op.unary] using hr
  . cases h
theorem zwD (e : El) (x : e.T) : e.ofC (e.toC x) = some x := by
  cases e <;> rfl
theorem zou (e : El) (l : List e.T) : zd1 e l.length (flat e l) = some l := by
  induction l with
  | nil => rfl
  | cons x l ih =>
    have h1 : (e.toC x ++ flat e l).take e.size = e.toC x := by rw [List.take_append_of_le_length (by rw [za2]; exact Nat.le_refl _), List.take_of_length_le (by rw [za2]; exact Nat.le_refl _)]
    have h2 : (e.toC x ++ flat e l).drop e.size = flat e l := by rw [← za2 e x, List.drop_left]
    simp only [List.length_cons, flat, zd1, h1, h2, zwD, ih]
theorem zp0 {pd : PD} {t : TypeId} {sz : Nat} {fs : List (Nat × TypeId)} {z' : List C} {parts : List (Nat × Operand)} {u : U} (h : oneV pd t s sz fs z'.length parts = some (true, u)) :
    ∃ ps, zaR pd s sz (fun i => fs[i]?) parts = some ps /\ pd.mkU t (zdY z' ps) = some u := by
  unfold oneV at h
  split at h
  case h_2 => cases h
  rename_i x ft
  split at h
  case h_2 => cases h
  rename_i n e ti hal hti
  split at h
  case h_2 => cases h
  rename_i f l hev
  split at h
  case h_2 => cases h
  rename_i l2 hc
  obtain ⟨q1, q2, rfl⟩ := zdN hc
  obtain ⟨_, hq⟩ := zbH hc
  change l = l2 at hq
  subst hq
  simp only [oi1, pi1, Bool.and_eq_true] at h
  obtain ⟨⟨h1, h2, h3, h4⟩, rfl⟩ := h
  have h1 := Nat.beq_true h1
  have h2 := Nat.beq_true h2
  have h3 := Nat.beq_true h3
  have hl : (flat f l).length = ti.size := by rw [zab, h1, h2]
  refine ⟨[(0, flat f l)], ?_, ?_⟩
  . simp only [zaR, List.getElem?_cons_zero, hti, hev, U.cells, hl, U.solid, Nat.zero_add, h4]
    simp
  . have : zdY z' [(0, flat f l)] = flat f l := by
      simp [zdY, zan, hl, ← h3]
    rw [this]
    unfold PD.mkU
    rw [hal]
    simp only [← h1, zou]
theorem zyL (hp : PDok X.P X.pd) {env : Nat -> Option Sg} (henv : ∀ f g, env f = some g -> SgOK X.P X.pd.els f g) {o : Oper} {f : Eff} (h : opK X.pd env o s some = some f) : Does X o s f := by
  cases ho : o.op with
  | binOp op t x y t' => exact ztA hp op t t' x y ho h
  | indexAddr t x i => exact zyK hp t x i ho h
  | index t x i => exact zot hp t x i ho h
  | convert src dst x => exact zpZ hp src dst x ho h
  | unOp op t x => exact zwC hp op t x ho h
  | move x =>
    simp only [zau, opK1, ho] at h
    split at h
    . rename_i e et hn
      simp only [oi1] at h
      subst h
      exact znm x (.inl ho) (zgR hn)
    . rw [zak h]; exact zj7 x (.inl ho)
  | assign x =>
    simp only [zau, opK1, ho] at h
    split at h
    . rename_i e et hn
      simp only [oi1] at h
      subst h
      exact znm x (.inr ho) (zgR hn)
    . rw [zak h]; exact zj7 x (.inr ho)
  | pick c x y =>
    simp only [zau, opK1, ho] at h
    split at h
    . rename_i t hc
      cases t with
      | true => simp only [cond_true] at h; rw [zak h]; exact zj8 c x y ho (t := true) hc
      | false => simp only [cond_false] at h; rw [zak h]; exact zj8 c x y ho (t := false) hc
    . cases h
  | alloc t =>
    simp only [zau, opK1, ho] at h
    split at h
    . rename_i u hu
      obtain ⟨hpos, hz⟩ := zaa hu
      split at h
      . rename_i u' obs n hab
        split at h
        . rename_i g x hx
          obtain ⟨hg, h9⟩ := zao h
          subst hg
          simp only [oi1] at h9
          subst h9
          exact zol hp t ho hpos hz hab hx
        . cases h
      . cases h
    . cases h
  | box t x =>
    simp only [zau, opK1, ho] at h
    split at h
    . rename_i u hu
      split at h
      . rename_i g y hy
        obtain ⟨hc, hy⟩ := zaa hy
        obtain ⟨hg, h9⟩ := zao h
        subst hg
        simp only [oi1] at h9
        subst h9
        simp only [Bool.and_eq_true] at hc
        obtain ⟨ti, hti, hpos⟩ := ztz hc.2
        exact ztm hp t x ho hti hpos hu hc.1 hy
      . cases h
    . cases h
  | load t x =>
    simp only [zau, opK1, ho] at h
    split at h
    . rename_i id i sub hx
      split at h
      . rename_i y hy
        split at h
        . rename_i g u hr
          obtain ⟨hg, h⟩ := zao h
          subst hg
          rw [zak h]
          exact zjc hp t x ho hx hy hr
        . cases h
      . cases h
    . rename_i e l i sub hx
      split at h
      . rename_i g u hr
        obtain ⟨hg, h⟩ := zao h
        subst hg
        rw [zak h]
        exact zjd hp t x ho hx hr
      . cases h
    . rename_i l i sub hx
      split at h
      . rename_i ti hti
        obtain ⟨hle, h⟩ := zaa h
        split at h
        . rename_i u hu
          rw [zak h]
          exact zje hp t x ho hx hti (by simpa [Nat.ble_eq] using hle) hu
        . cases h
      . cases h
    . cases h
  | store t x v =>
    simp only [zau, opK1, ho] at h
    split at h
    . rename_i id i sub u hx hu
      split at h
      . rename_i y hy
        split at h
        . rename_i g o' hw
          obtain ⟨hsol, hw⟩ := zaa hw
          obtain ⟨hg, h9⟩ := zao h
          subst hg
          simp only [oi1] at h9
          subst h9
          exact zoh hp t x v ho hx hu hsol hy hw
        . cases h
      . cases h
    . cases h
  | nilCheck x =>
    simp only [zau, opK1, ho] at h
    split at h
    . rename_i id i sub hx
      rw [zak h]; exact zdl x ho hx (.inl ⟨_, _, _, rfl⟩)
    . rename_i e l i sub hx
      rw [zak h]; exact zdl x ho hx (.inr (.inl ⟨_, _, _, _, rfl⟩))
    . rename_i l i sub hx
      rw [zak h]; exact zdl x ho hx (.inr (.inr ⟨_, _, _, rfl⟩))
    . cases h
  | sliceToArrayPointer t x =>
    simp only [zau, opK1, ho] at h
    split at h
    . rename_i n et sz by' z c ht hx
      have hun : X.P.underlying t = some (.array n et) := (hp.ti _ _ ht).kind.1
      split at h
      . split at h
        . rename_i m ty e l hg
          obtain ⟨hn, h⟩ := zaa h
          obtain ⟨hl, h⟩ := zao h
          rw [zak h]
          exact zfl t x ho hun (by simpa [Nat.blt_eq] using hn) hx (.inl ⟨_, m, ty, e, l, rfl, rfl, hg, by simpa [leI] using hl⟩)
        . cases h
      . split at h
        . rename_i r m ty e l hg
          obtain ⟨hn, h⟩ := zaa h
          obtain ⟨hl, h⟩ := zao h
          rw [zak h]
          exact zfl t x ho hun (by simpa [Nat.blt_eq] using hn) hx (.inr (.inl ⟨_, _, _, r, m, ty, e, l, rfl, rfl, hg, by simpa [leI] using hl⟩))
        . cases h
      . rename_i e l
        obtain ⟨hn, h⟩ := zaa h
        obtain ⟨hl, h⟩ := zao h
        rw [zak h]
        exact zfl t x ho hun (by simpa [Nat.blt_eq] using hn) hx (.inr (.inr ⟨e, l, rfl, rfl, by simpa [leI] using hl⟩))
      . cases h
    . cases h
  | makeSlice t n m =>
    simp only [zau, opK1, ho] at h
    split at h
    . rename_i et sz by' z k k' ht hn hm
      split at h
      . rename_i ei e hei hel
        obtain ⟨hc, hh⟩ := zao h
        simp only [Bool.and_eq_true] at hc
        obtain ⟨h1, h2, h3, h4⟩ := hc
        have hk : k = k' := by simpa [eqI] using h2
        subst hk
        split at hh
        . simp only [oi1] at hh
          subst hh
          exact zpD hp t n m ho ht hei hel hn hm (by simpa [leI] using h1) (by simpa [Nat.blt_eq] using h3) (by simpa [leN] using h4)
        . simp only [oi1] at hh
          subst hh
          exact zjf hp t n m ho ht hei hel hn hm (by simpa [leI] using h1) (by simpa [Nat.blt_eq] using h3) (by simpa [leN] using h4)
      . cases h
    . cases h
  | slice t x lo hi mx =>
    cases mx with
    | some q => simp only [zau, opK1, ho] at h; cases h
    | none =>
      simp only [zau, opK1, ho] at h
      split at h
      . rename_i c l u hx hl hu
        split at h
        . rename_i g d hd
          obtain ⟨hg, h⟩ := zao h
          subst hg
          rw [zak h]
          exact zpF hp t x lo hi ho hx hl hu hd
        . cases h
      . cases h
  | fieldAddr t x f' =>
    simp only [zau, opK1, ho] at h
    split at h
    . rename_i fs sz by' z c ht hx
      split at h
      . rename_i off ft hf
        split at h
        . rename_i fi hfi
          split at h
          . rename_i id i sub
            split at h
            . rename_i y hy
              obtain ⟨hc, h⟩ := zaa h
              simp only [Bool.and_eq_true, Nat.blt_eq] at hc
              rw [zak h]
              exact zfj hp t x f' ho ht hf hfi hc.1 hx (.inl ⟨id, i, sub, y, rfl, rfl, hy, hc.2⟩)
            . cases h
          . rename_i e l i sub
            obtain ⟨hc, h⟩ := zaa h
            simp only [Bool.and_eq_true, Nat.blt_eq] at hc
            rw [zak h]
            exact zfj hp t x f' ho ht hf hfi hc.1 hx (.inr (.inl ⟨e, l, i, sub, rfl, rfl, hc.2⟩))
          . rename_i l i sub
            obtain ⟨hc, h⟩ := zaa h
            simp only [Bool.and_eq_true, Nat.blt_eq] at hc
            rw [zak h]
            exact zfj hp t x f' ho ht hf hfi hc.1 hx (.inr (.inr ⟨l, i, sub, rfl, rfl, hc.2⟩))
          . cases h
        . cases h
      . cases h
    . cases h
  | field t x f' =>
    simp only [zau, opK1, ho] at h
    split at h
    . rename_i fs sz by' z l ht hx
      split at h
      . rename_i off ft hf
        split at h
        . rename_i fi hfi
          split at h
          . rename_i u hu
            obtain ⟨hfit, h⟩ := zaa h
            rw [zak h]
            exact zlN hp t x f' ho ht hx hf hfi (by simpa [Nat.ble_eq] using hfit) hu
          . cases h
        . cases h
      . cases h
    . cases h
  | build t parts =>
    simp only [zau, opK1, ho] at h
    split at h
    . rename_i fs sz by' z ht
      split at h
      . rename_i z' obs n hab
        split at h
        . rename_i g u hone
          obtain ⟨hg, h⟩ := zao h
          simp only [oi1] at h
          subst h; subst hg
          obtain ⟨ps, hps, hu⟩ := zp0 hone
          exact zfM hp t parts ho ht hab hps hu
        split at h
        . rename_i ps hps
          split at h
          . rename_i u hu
            simp only [oi1] at h
            subst h
            exact zfM hp t parts ho ht hab hps hu
          . cases h
        . cases h
      . cases h
    . rename_i k et sz by' z ht
      split at h
      . rename_i ei hei
        split at h
        . rename_i z' obs n hab
          split at h
          . rename_i ps hps
            split at h
            . rename_i u hu
              simp only [oi1] at h
              subst h
              exact zkn hp t parts ho ht hei hab hps hu
            . cases h
          . cases h
        . cases h
      . cases h
    . cases h
  | buildSlice t n parts =>
    simp only [zau, opK1, ho] at h
    split at h
    . rename_i et sz by' z ht
      split at h
      . rename_i ei e hei hel
        split at h
        . rename_i ps hps
          split at h
          . rename_i l hl
            obtain ⟨hn, h⟩ := zaa h
            simp only [oi1] at h
            subst h
            exact zgK hp t n parts ho (za3 hp ht) hei hel hps hl (by simpa [Nat.ble_eq] using hn)
          . cases h
        . cases h
      . rename_i ei hei hel
        split at h
        . rename_i ps hps
          obtain ⟨hc, h⟩ := zaa h
          simp only [oi1] at h
          subst h
          simp only [Bool.and_eq_true] at hc
          obtain ⟨c1, c2, c3, c4⟩ := hc
          exact zgJ hp t n parts ho (za3 hp ht) hei (Nat.beq_true c1) (by simpa [Nat.blt_eq] using c2) (by simpa [Nat.blt_eq] using c3) (by simpa [Nat.ble_eq] using c4) hps
        . cases h
      . cases h
    . cases h
  | extract x i =>
    simp only [zau, opK1, ho] at h
    split at h
    . rename_i l hx
      split at h
      . rename_i u hu
        rw [zak h]
        exact zj9 x i ho hx hu
      . cases h
    . cases h
  | call c =>
    obtain ⟨cal, args, ts⟩ := c
    cases cal with
    | builtin b =>
      simp only [zau, opK1, ho] at h
      exact zkt hp b args ts ho h
    | value x =>
      cases x with
      | func fn =>
        simp only [zau, opK1, ho] at h
        exact zpY henv fn args ts ho h
      | _ => simp only [zau, opK1, ho] at h; cases h
    | invoke r n => simp only [zau, opK1, ho] at h; cases h
  | _ => simp only [zau, opK1, ho] at h; cases h
end
section
variable {R : Type} {pd : PD} {env : Nat -> Option Sg}
theorem zbX {A : Type} (g : Bool) (x : Option A) (k : A -> Option R) : must g (x.bind k) = (must g x).bind k := by cases g <;> rfl
theorem zbx {A : Type} (g : Bool) (x : Option A) (k : A -> Option R) : cond g (x.bind k) none = (cond g x none).bind k := by cases g <;> rfl
theorem zib {A : Type} (g : Bool) (x : Option A) (k : A -> Option R) : cond g none (x.bind k) = (cond g none x).bind k := by cases g <;> rfl
theorem zic {A : Type} (g : Bool) (x y : Option A) (k : A -> Option R) : cond g (x.bind k) (y.bind k) = (cond g x y).bind k := by cases g <;> rfl
theorem zid {A : Type} (j : Int) (f : Nat -> Option A) (k : A -> Option R) : ∀ m i, zgr m i j (fun c => (f c).bind k) = (zgr m i j f).bind k
  | 0, _ => rfl
  | m + 1, i => by
    unfold zgr
    rw [zid j f k m (i + 1)]
    cases eqI j i <;> rfl
theorem zie {A B : Type} (s : St) (l : List C) (j : List C -> Option A) (k : A -> Option B) : zfc pd s l (fun m => (j m).bind k) = (zfc pd s l j).bind k := by
  induction l generalizing j with
  | nil => rfl
  | cons c l ih =>
    simp only [zfc]
    split
    . rw [ih fun r => j (_ :: r)]
      cases ‹Bool› <;> rfl
    . rfl
theorem zov {A B : Type} (s : St) (mode : Nat) (c : C) (j : Nat -> List Nat -> U -> Option A) (k : A -> Option B) : zi0 pd s mode c (fun id rows u => (j id rows u).bind k) = (zi0 pd s mode c j).bind k := by
  unfold zi0
  split
  . split
    . cases Nat.beq mode 1 <;> (try rfl)
      exact zbX _ _ k
    . rfl
  . split
    . rename_i nn _ _ _ _
      cases Nat.beq mode 2
      . cases (Nat.blt 100 mode && Nat.beq nn (mode - 100)) <;> rfl
      . exact zbX _ _ k
    . rename_i l _
      cases Nat.beq mode 3 <;> (try rfl)
      cases (Nat.blt 0 l.length && zgs (_ :: idCs l)) <;> (try rfl)
      exact zie _ _ _ k
    . rfl
  . rfl
theorem zjn (g : Sg) (args : List Operand) (ts : List TypeId) (o : Oper) (s : St) (k : Eff -> Option R) : zcu pd g args ts o s k = (zcu pd g args ts o s some).bind k := by
  unfold zcu
  split
  . split
    . rw [← zov]
      congr 1
      funext id rows u0
      split
      . rename_i us _
        cases g.run (u0 :: us) with
        | none => rfl
        | some r =>
          simp only [Option.bind_some]
          split
          . split
            . split
              . exact zbX _ (some _) k
              . rfl
            . rfl
          . rfl
      . rfl
    . rfl
  . rfl
theorem zgS {A B : Type} (s : St) : ∀ (ids : List Nat) (j : List U -> Option A) (k : A -> Option B), zdE pd s ids (fun us => (j us).bind k) = (zdE pd s ids j).bind k
  | [], _, _ => rfl
  | id :: ids, j, k => by
    unfold zdE
    split
    . rename_i l _
      cases Nat.blt 0 l.length <;> (try rfl)
      simp only [cond_true]
      rw [← zie]
      congr 1
      funext m
      exact zgS s ids (fun us => j (.agg m :: us)) k
    . rfl
theorem zku (g : Sg) (args : List Operand) (ts : List TypeId) (o : Oper) (s : St) (k : Eff -> Option R) : zc8 pd g args ts o s k = (zc8 pd g args ts o s some).bind k := by
  unfold zc8
  split
  . rename_i ids _
    rw [← zbx, ← zgS]
    congr 2
    funext us0
    split
    . rename_i us _
      cases g.run (us0 ++ us) with
      | none => rfl
      | some r =>
        simp only [Option.bind_some]
        split
        . split
          . split
            . exact zbX _ (some _) k
            . rfl
          . rfl
        . rfl
    . rfl
  . rfl
theorem zfO (g : Sg) (args : List Operand) (ts : List TypeId) (o : Oper) (s : St) (k : Eff -> Option R) : zdD pd g args ts o s k = (zdD pd g args ts o s some).bind k := by
  unfold zdD
  split
  . rename_i us hus
    cases g.run us with
    | none => rfl
    | some r =>
      simp only [Option.bind_some]
      split <;> rfl
  . rfl
theorem zkv (g : Sg) (args : List Operand) (ts : List TypeId) (o : Oper) (s : St) (k : Eff -> Option R) : zc9 pd g args ts o s k = (zc9 pd g args ts o s some).bind k := by
  unfold zc9
  split
  . split
    . split
      . rw [← zbx]
        congr 1
        split
        . rename_i ds _
          cases g.run [.agg ds] with
          | none => rfl
          | some r =>
            simp only [Option.bind_some]
            split <;> rfl
        . rfl
      . rfl
    . rfl
  . rfl
theorem zkw (g : Sg) (args : List Operand) (ts : List TypeId) (o : Oper) (s : St) (k : Eff -> Option R) : zda pd g args ts o s k = (zda pd g args ts o s some).bind k := by
  unfold zda
  split
  . split
    . rename_i us _
      cases g.run us with
      | none => rfl
      | some r =>
        simp only [Option.bind_some]
        split <;> rfl
    . rfl
  . rfl
theorem zkx (g : Sg) (args : List Operand) (ts : List TypeId) (o : Oper) (s : St) (k : Eff -> Option R) : zdb pd g args ts o s k = (zdb pd g args ts o s some).bind k := by
  unfold zdb
  split
  . split
    . split
      . rw [← zbX]
        congr 1
        split
        . rw [Option.bind_assoc]
          congr 1
          funext r
          split <;> rfl
        . rfl
      . rfl
    . rfl
  . rfl
theorem zfP (tk : Bool) (g : Sg) (args : List Operand) (ts : List TypeId) (o : Oper) (s : St) (k : Eff -> Option R) : zcR pd tk g args ts o s k = (zcR pd tk g args ts o s some).bind k := by
  unfold zcR
  split
  . split
    . split
      . rw [← zbx]
        congr 1
        split
        . rw [← zbx, Option.bind_assoc]
          congr 2
          funext r
          split
          . rw [← zbx]
            congr 1
            cases tk with
            | false =>
              simp only [cond_false]
              split <;> rfl
            | true =>
              simp only [cond_true]
              split
              . rw [← zic]
                congr 1
                split <;> rfl
              . rfl
          . rfl
        . rfl
      . rfl
    . rfl
  . rfl
theorem zky (fn : Nat) (args : List Operand) (ts : List TypeId) (o : Oper) (s : St) (k : Eff -> Option R) : zdc pd env fn args ts o s k = (zdc pd env fn args ts o s some).bind k := by
  unfold zdc
  rw [← zbx]
  congr 1
  split
  . exact zkv ..
  . split
    . exact zkw ..
    . split
      . exact zkx ..
      . split
        . exact zfP ..
        . split
          . exact zfP ..
          . rfl
theorem zlX (fn : Nat) (args : List Operand) (ts : List TypeId) (o : Oper) (s : St) (k : Eff -> Option R) : zeu pd env fn args ts o s k = (zeu pd env fn args ts o s some).bind k := by
  unfold zeu
  split
  . rename_i g hg
    cases Nat.blt fn 1000000 with
    | false => rfl
    | true =>
      simp only [cond_true]
      cases Nat.beq g.mode 0 with
      | true => exact zfO ..
      | false =>
        simp only [cond_false]
        cases zhP pd s args ts with
        | false =>
          simp only [cond_false]
          cases isM g.mode with
          | true => exact zku ..
          | false => exact zjn ..
        | true =>
          simp only [cond_true]
          split
          . rename_i g2 _
            cases Nat.beq g2.mode 0 with
            | true => exact zfO ..
            | false => rfl
          . rfl
  . exact zky ..
theorem zhJ (b : Builtin) (args : List Operand) (ts : List TypeId) (o : Oper) (s : St) (k : Eff -> Option R) : zbu pd b args ts o s k = (zbu pd b args ts o s some).bind k := by
  unfold zbu
  repeat' (first | rfl | exact zbX _ (some _) k | exact zbx _ (some _) k | (refine Eq.trans ?_ (zbx _ _ k); refine congrArg (cond _ · none) ?_) | (refine Eq.trans ?_ (zib _ _ k); refine congrArg (cond _ none ·) ?_) | split)
theorem ztB (o : Oper) (s : St) (k : Eff -> Option R) : opK pd env o s k = (opK pd env o s some).bind k := by
  cases ho : o.op with
  | call c =>
    obtain ⟨cal, args, ts⟩ := c
    cases cal with
    | builtin b => simp only [zau, opK1, ho]; exact zhJ ..
    | value x =>
      cases x with
      | func fn => simp only [zau, opK1, ho]; exact zlX ..
      | _ => simp only [zau, opK1, ho]; rfl
    | invoke r n => simp only [zau, opK1, ho]; rfl
  | slice t x lo hi mx => cases mx <;> simp only [zau, opK1, ho] <;> repeat' (first | rfl | exact zbX _ (some _) k | split)
  | _ =>
    simp only [zau, opK1, ho]
    repeat' first
      | rfl
      | exact zbX _ (some _) k
      | exact zbx _ (some _) k
      | (refine Eq.trans ?_ (zbx _ _ k); refine congrArg (cond _ · none) ?_)
      | (refine Eq.trans ?_ (zib _ _ k); refine congrArg (cond _ none ·) ?_)
      | (refine Eq.trans ?_ (zbX _ _ k); refine congrArg (must _ ·) ?_)
      | (refine Eq.trans ?_ (zic _ _ _ k); refine congr (congrArg (cond _) ?_) ?_)
      | (refine Eq.trans ?_ (zid _ _ k _ _); refine congrArg (zgr _ _ _) (funext fun c => ?_))
      | split
theorem zgi {o : Oper} {s : St} {k : Eff -> Option R} {r : R} (h : opK pd env o s k = some r) : ∃ f, opK pd env o s some = some f /\ k f = some r := by
  rw [ztB] at h
  exact Option.bind_eq_some_iff.1 h
end
section
variable {R : Type} {pd : PD} {env : Nat -> Option Sg} {s s2 : St}
def Same (s s2 : St) (l : List Nat) : Prop := ∀ id ∈ l, s2.get id = s.get id
theorem Same.append {l m : List Nat} (h : Same s s2 (l ++ m)) : Same s s2 l /\ Same s s2 m :=
  ⟨fun id hid => h id (List.mem_append_left _ hid), fun id hid => h id (List.mem_append_right _ hid)⟩
theorem znx {c : C} (h : Same s s2 (idC c)) : reC s2 c = reC s c := by
  cases c <;> simp only [reC] <;> (try rfl) <;> rw [h _ (by simp [idC])]
theorem zkz {l : List C} (h : Same s s2 (idCs l)) : reCs s2 l = reCs s l := by
  induction l with
  | nil => rfl
  | cons c l ih =>
    obtain ⟨h1, h2⟩ := Same.append h
    simp only [reCs, znx h1, ih h2]
theorem ztC {u : U} (h : Same s s2 u.ids) : reU s2 u = reU s u := by
  cases u with
  | c x => simp only [reU, znx h]
  | agg l => simp only [reU, zkz h]
  | vec e l => rfl
  | box l => rfl
theorem ztD {t : TypeId} {c : C} {n : Int} (h : Same s s2 (idC c)) : pd.idx t s2 c n = pd.idx t s c n := by
  cases c <;> simp only [PD.idx] <;> (try rfl) <;> rw [h _ (by simp [idC])]
theorem ztE {t : TypeId} {c : C} (h : Same s s2 (idC c)) : pd.brn t s2 c = pd.brn t s c := by
  cases c <;> simp only [PD.brn] <;> (try rfl) <;> rw [h _ (by simp [idC])]
theorem zp1 {t : TypeId} {c : C} {l u : Option Int} (h : Same s s2 (idC c)) : pd.part t s2 c l u = pd.part t s c l u := by
  unfold PD.part
  cases c with
  | row id => simp only; rw [h _ (by simp [idC])]
  | sl id i n => simp only; rw [h _ (by simp [idC])]
  | slc id i n cc => cases i <;> simp only <;> rw [h _ (by simp [idC])]
  | ptr id i n =>
    have hid : s2.get id = s.get id := h _ (by simp [idC])
    cases i <;> cases n <;> simp only [PD.partLit, hid]
  | _ => rfl
theorem zc2 {c : C} (h : Same s s2 (idC c)) : s2.list c = s.list c := by
  cases c <;> simp only [St.list] <;> (try rfl) <;> rw [h _ (by simp [idC])]
theorem zp2 {c : C} (h : Same s s2 (idC c)) : lenC s2 c = lenC s c := by
  cases c <;> simp only [lenC] <;> (try rfl) <;> rw [h _ (by simp [idC])]
def zec (pd : PD) (s s2 : St) (x : Operand) : Prop := ∀ t, pd.ev t s2 x = pd.ev t s x /\ Same s s2 (pd.ev t s x).ids
theorem zp3 {v : V} {id : Nat} (h : id ∈ v.ids) : v.men id = true := by
  have hc : ∀ c : C, id ∈ idC c -> c.men id = true := by
    intro c hc
    cases c <;> simp [idC] at hc <;> simp [C.men, hc]
  have hcs : ∀ l : List C, id ∈ idCs l -> anyC (C.men id) l = true := by
    intro l
    induction l with
    | nil => intro h; cases h
    | cons c l ih =>
      intro h
      rcases List.mem_append.1 h with h | h
      . simp [anyC, hc c h]
      . simp only [anyC, ih h]; cases c.men id <;> rfl
  have hu : ∀ u : U, id ∈ u.ids -> u.men id = true := by
    intro u hu
    cases u with
    | c x => exact hc x hu
    | agg l => exact hcs l hu
    | vec e l => cases hu
    | box l => cases hu
  have hus : ∀ l : List U, id ∈ idUs l -> anyU (U.men id) l = true := by
    intro l
    induction l with
    | nil => intro h; cases h
    | cons c l ih =>
      intro h
      rcases List.mem_append.1 h with h | h
      . simp [anyU, hu c h]
      . simp only [anyU, ih h]; cases c.men id <;> rfl
  cases v with
  | u x => exact hu x h
  | tup l => exact hus l h
  | dead => cases h
theorem zec.ev {x : Operand} (h : zec pd s s2 x) (t : TypeId) : pd.ev t s2 x = pd.ev t s x := (h t).1
theorem zec.c {x : Operand} (h : zec pd s s2 x) {t : TypeId} {c : C} (hc : (pd.ev t s x).c? = some c) : Same s s2 (idC c) := by
  have := (h t).2
  rw [zcS hc] at this
  exact this
theorem zb7 {args : List Operand} {ts : List TypeId} (h : ∀ x ∈ args, zec pd s s2 x) : zb2 pd s2 args ts = zb2 pd s args ts := by
  induction args generalizing ts with
  | nil => rfl
  | cons x l ih =>
    have hx := h x (by simp)
    simp only [zb2, hx.ev, ih fun y hy => h y (by simp [hy])]
    cases hv : pd.ev (ts.headD 0) s x with
    | u u =>
      have := (hx (ts.headD 0)).2
      rw [hv] at this
      simp only [ztC this]
    | _ => rfl
theorem zb8 {args : List Operand} {ts : List TypeId} (h : ∀ x ∈ args, zec pd s s2 x) : zdu pd s2 args ts = zdu pd s args ts := by
  induction args generalizing ts with
  | nil => rfl
  | cons x l ih =>
    simp only [zdu, (h x (by simp)).ev, ih fun y hy => h y (by simp [hy])]
theorem zkA {x : Option Operand} (h : ∀ y, x = some y -> zec pd s s2 y) : optI pd s2 x = optI pd s x := by
  cases x with
  | none => rfl
  | some y => simp only [optI, (h y rfl).ev]
theorem zfQ {n : Nat} {place : Nat -> Option (Nat × TypeId)} {l : List (Nat × Operand)} (h : ∀ p ∈ l, zec pd s s2 p.2) : zaR pd s2 n place l = zaR pd s n place l := by
  induction l with
  | nil => rfl
  | cons p l ih =>
    obtain ⟨i, x⟩ := p
    simp only [zaR, (h (i, x) (by simp)).ev, ih fun q hq => h q (by simp [hq])]
def zcI (pd : PD) (s s2 : St) (x : Operand) : Prop := ∀ t, pd.ev t s2 x = pd.ev t s x /\ Same s s2 (s.deep (pd.ev t s x).ids)
theorem zcN {s : St} {l : List Nat} {id : Nat} (h : id ∈ l) : id ∈ s.deep l := by
  induction l with
  | nil => cases h
  | cons i l ih =>
    simp only [St.deep, List.mem_cons, List.mem_append]
    rcases List.mem_cons.1 h with rfl | h
    . exact .inl rfl
    . exact .inr (.inr (ih h))
theorem zgT {s : St} {l : List Nat} {id j : Nat} {x : Ob} (h : id ∈ l) (hx : s.get id = some x) (hj : j ∈ x.o.ids) : j ∈ s.deep l := by
  induction l with
  | nil => cases h
  | cons i l ih =>
    simp only [St.deep, List.mem_cons, List.mem_append]
    rcases List.mem_cons.1 h with rfl | h
    . rw [hx]; exact .inr (.inl hj)
    . exact .inr (.inr (ih h))
theorem zcI.weak {x : Operand} (h : zcI pd s s2 x) : zec pd s s2 x := fun t => ⟨(h t).1, fun id hid => (h t).2 id (zcN hid)⟩
theorem zp4 {x : Operand} (h1 : ∀ t, x = .tmp t -> s2.tm.getD t .dead = s.tm.getD t .dead) (h2 : ∀ t, x = .tmp t -> Same s s2 (s.deep (s.tm.getD t .dead).ids)) : zcI pd s s2 x := by
  intro t
  cases x with
  | tmp i => exact ⟨h1 i rfl, h2 i rfl⟩
  | const v =>
    refine ⟨rfl, fun id hid => ?_⟩
    have hnil : (pd.ev t s (.const v)).ids = [] := by
      cases hl : (pd.ev t s (.const v)).ids with
      | nil => rfl
      | cons i l =>
        have := zp3 (v := pd.ev t s (.const v)) (id := i) (by rw [hl]; simp)
        rw [PD.ev, zgD] at this
        cases this
    rw [hnil] at hid
    cases hid
  | _ => exact ⟨rfl, fun id hid => by cases hid⟩
theorem ztF {c : C} (h : Same s s2 (idC c)) : rsC pd s2 c = rsC pd s c := by
  cases c with
  | row id => simp only [rsC]; rw [h _ (by simp [idC])]
  | sl id i n => cases i <;> simp only [rsC]; rw [h _ (by simp [idC])]
  | slc id i n c => cases i <;> simp only [rsC]; rw [h _ (by simp [idC])]
  | _ => rfl
theorem zif {R : Type} {l : List C} (h : Same s s2 (idCs l)) (k : List C -> Option R) : zfc pd s2 l k = zfc pd s l k := by
  induction l generalizing k with
  | nil => rfl
  | cons c l ih =>
    obtain ⟨h1, h2⟩ := Same.append h
    simp only [zfc, ztF h1, ih h2]
theorem zow {R : Type} {mode : Nat} {c : C} (h : Same s s2 (s.deep (idC c))) {k k2 : Nat -> List Nat -> U -> Option R} (hk : ∀ id rows u, id ∈ idC c -> k2 id rows u = k id rows u) : zi0 pd s2 mode c k2 = zi0 pd s mode c k := by
  unfold zi0
  split
  . rename_i id
    rw [h id (zcN (by simp [idC]))]
    split
    . rw [hk _ _ _ (by simp [idC])]
    . rfl
  . rename_i id
    rw [h id (zcN (by simp [idC]))]
    split
    . rw [hk _ _ _ (by simp [idC])]
    . rename_i l hg
      rw [zif (s := s) fun j hj => h j (zgT (by simp [idC]) hg hj)]
      have : (fun m => k2 id (idCs l) (.agg m)) = fun m => k id (idCs l) (.agg m) := funext fun m => hk _ _ _ (by simp [idC])
      rw [this]
    . rfl
  . rfl
theorem zp5 (t : TypeId) (s : St) (l : List Nat) (x : Operand) : pd.ev t (s.dels l) x = pd.ev t s x := by
  cases x <;> simp only [PD.ev, zcq]
theorem zec.dels {x : Operand} (h : zec pd s s2 x) (l : List Nat) : zec pd (s.dels l) (s2.dels l) x := fun t => by
  rw [zp5, zp5]
  refine ⟨(h t).1, fun id hid => ?_⟩
  rw [za7, za7, (h t).2 id hid]
theorem zjo (g : Sg) {args : List Operand} (ts : List TypeId) (o : Oper) (k : Eff -> Option R) (h : ∀ x ∈ args, zcI pd s s2 x) : zcu pd g args ts o s2 k = zcu pd g args ts o s k := by
  unfold zcu
  split
  . rename_i x rest
    have hx := h x (by simp)
    rw [(hx _).1]
    split
    . rename_i c hc
      have hd : Same s s2 (s.deep (idC c)) := by
        have := (hx (ts.headD 0)).2
        rw [zcS hc] at this
        exact this
      refine zow hd fun id rows u hid => ?_
      rw [zb7 (s := s.dels (id :: rows)) fun y hy => (h y (by simp [hy])).weak.dels _, hd id (zcN hid), zb8 (s := s) fun y hy => (h y hy).weak]
    . rfl
  . rfl
theorem zp6 {A : Type} {mode : Nat} {l : List A} {x : A} (h : x ∈ zbC mode l) : x ∈ l := by
  unfold zbC at h
  cases hm : Nat.beq mode 4 with
  | false => rw [hm] at h; exact h
  | true =>
    rw [hm] at h
    simp only [cond_true] at h
    match l, h with
    | [], h => exact h
    | [_], h => exact h
    | a :: b :: l, h =>
      simp only [zn8, List.mem_cons] at h ⊢
      rcases h with h | h | h
      . exact .inr (.inl h)
      . exact .inl h
      . exact .inr (.inr h)
theorem zgU : ∀ (n : Nat) (args : List Operand) (ts : List TypeId), (∀ x ∈ args, zcI pd s s2 x) -> zes pd s2 n args ts = zes pd s n args ts /\ ∀ ids, zes pd s n args ts = some ids -> ∀ id ∈ ids, Same s s2 (s.deep [id])
  | 0, args, ts, _ => ⟨by cases args <;> rfl, fun ids h => by cases args <;> (cases h; intro id hid; cases hid)⟩
  | n + 1, [], ts, _ => ⟨rfl, fun ids h => by cases h⟩
  | n + 1, x :: l, ts, h => by
    obtain ⟨h1, h2⟩ := zgU n l ts.tail fun y hy => h y (by simp [hy])
    have hx := h x (by simp) (ts.headD 0)
    refine ⟨by simp only [zes, hx.1, h1], fun ids hi id hid => ?_⟩
    unfold zes at hi
    split at hi
    . rename_i id0 hc
      split at hi
      . rename_i r hr
        cases hi
        rcases List.mem_cons.1 hid with rfl | hid
        . have := hx.2
          rw [zcS hc] at this
          exact this
        . exact h2 r hr id hid
      . cases hi
    . cases hi
theorem ztG {s s2 : St} {ids : List Nat} (h : ∀ id ∈ ids, Same s s2 (s.deep [id])) {id : Nat} (hid : id ∈ ids) : s2.get id = s.get id := h id hid id (by simp [St.deep])
theorem zgV : ∀ (ids : List Nat), (∀ id ∈ ids, Same s s2 (s.deep [id])) -> zbf s2 ids = zbf s ids
  | [], _ => rfl
  | id :: ids, h => by
    simp only [zbf, ztG h (List.mem_cons_self), zgV ids fun i hi => h i (List.mem_cons_of_mem _ hi)]
theorem zgW : ∀ (ids : List Nat), (∀ id ∈ ids, Same s s2 (s.deep [id])) -> zbN s2 ids = zbN s ids
  | [], _ => rfl
  | id :: ids, h => by
    simp only [zbN, ztG h (List.mem_cons_self), zgW ids fun i hi => h i (List.mem_cons_of_mem _ hi)]
theorem zig : ∀ (ids : List Nat) (us : List U), (∀ id ∈ ids, Same s s2 (s.deep [id])) -> zlu s2 ids us = zlu s ids us
  | [], us, _ => rfl
  | id :: ids, us, h => by
    unfold zlu
    split
    . rename_i m us'
      rw [ztG h (List.mem_cons_self), zig ids us' fun i hi => h i (List.mem_cons_of_mem _ hi)]
    . rfl
theorem zgX {R : Type} : ∀ (ids : List Nat) (k : List U -> Option R), (∀ id ∈ ids, Same s s2 (s.deep [id])) -> zdE pd s2 ids k = zdE pd s ids k
  | [], k, _ => rfl
  | id :: ids, k, h => by
    unfold zdE
    rw [ztG h (List.mem_cons_self)]
    split
    . rename_i n ty l hg
      rw [zif (s := s) fun j hj => h id List.mem_cons_self j (zgT (by simp) hg hj)]
      congr 2
      funext m
      exact zgX ids _ fun i hi => h i (List.mem_cons_of_mem _ hi)
    . rfl
theorem zkB (g : Sg) {args : List Operand} (ts : List TypeId) (o : Oper) (k : Eff -> Option R) (h : ∀ x ∈ args, zcI pd s s2 x) : zc8 pd g args ts o s2 k = zc8 pd g args ts o s k := by
  have hp : ∀ x ∈ zbC g.mode args, zcI pd s s2 x := fun x hx => h x (zp6 hx)
  obtain ⟨h1, h2⟩ := zgU (cntM g.mode) _ (zbC g.mode ts) hp
  unfold zc8
  rw [h1]
  split
  . rename_i ids hids
    have h3 := h2 ids hids
    rw [zgV ids h3, zgW ids h3, zgX ids _ h3]
    congr 2
    funext us0
    rw [zb7 (s := s.dels (ids ++ zbf s ids)) fun y hy => (hp y (List.mem_of_mem_drop hy)).weak.dels _, zb8 (s := s) fun y hy => (h y hy).weak]
    simp only [zig ids _ h3]
  . rfl
theorem zlY {args : List Operand} {ts : List TypeId} (h : ∀ x ∈ args, zcI pd s s2 x) : zhP pd s2 args ts = zhP pd s args ts := by
  unfold zhP
  split
  . rename_i x l
    rw [(h x (by simp)).weak.ev]
  . rfl
theorem zkC (g : Sg) {args : List Operand} (ts : List TypeId) (o : Oper) (k : Eff -> Option R) (h : ∀ x ∈ args, zcI pd s s2 x) : zc9 pd g args ts o s2 k = zc9 pd g args ts o s k := by
  unfold zc9
  split
  . rename_i x
    have hx := h x (by simp)
    rw [(hx _).1]
    split
    . rename_i id off n hc
      have hd : Same s s2 (s.deep (idC (.asl id 0 off n))) := by
        have := (hx (ts.headD 0)).2
        rw [zcS hc] at this
        exact this
      rw [hd id (zcN (by simp [idC]))]
      split
      . rename_i nn ty l hg
        have hsame : Same (s.dels [id]) (s2.dels [id]) (idCs l) := fun j hj => by
          rw [za7, za7, hd j (zgT (by simp [idC]) hg hj)]
        rw [zkz hsame]
      . rfl
    . rfl
  . rfl
theorem zkD (g : Sg) {args : List Operand} (ts : List TypeId) (o : Oper) (k : Eff -> Option R) (h : ∀ x ∈ args, zcI pd s s2 x) : zda pd g args ts o s2 k = zda pd g args ts o s k := by
  unfold zda
  split
  . rename_i rest
    rw [zb7 (s := s) fun y hy => (h y (by simp [hy])).weak, zb8 (s := s) fun y hy => (h y hy).weak]
  . rfl
theorem zkE (g : Sg) {args : List Operand} (ts : List TypeId) (o : Oper) (k : Eff -> Option R) (h : ∀ x ∈ args, zcI pd s s2 x) : zdb pd g args ts o s2 k = zdb pd g args ts o s k := by
  unfold zdb
  split
  . rename_i x rest
    have hx := h x (by simp)
    rw [(hx _).1]
    split
    . rename_i id n c hc
      have hd : Same s s2 (s.deep (idC (.slc id 0 n c))) := by
        have := (hx (ts.headD 0)).2
        rw [zcS hc] at this
        exact this
      rw [hd id (zcN (by simp [idC])), zb7 (s := s.dels [id]) fun y hy => (h y (by simp [hy])).weak.dels _, zb8 (s := s) fun y hy => (h y hy).weak]
    . rfl
  . rfl
theorem zkF (tk : Bool) (g : Sg) {args : List Operand} (ts : List TypeId) (o : Oper) (k : Eff -> Option R) (h : ∀ x ∈ args, zcI pd s s2 x) : zcR pd tk g args ts o s2 k = zcR pd tk g args ts o s k := by
  unfold zcR
  split
  . rename_i x rest
    have hx := h x (by simp)
    rw [(hx _).1]
    split
    . rename_i id hc
      have hd : Same s s2 (s.deep (idC (.ptr id 0 0))) := by
        have := (hx (ts.headD 0)).2
        rw [zcS hc] at this
        exact this
      rw [hd id (zcN (by simp [idC])), zb7 (s := s.dels [id]) fun y hy => (h y (by simp [hy])).weak.dels _, zb8 (s := s) fun y hy => (h y hy).weak]
    . rfl
  . rfl
theorem zkG (fn : Nat) {args : List Operand} (ts : List TypeId) (o : Oper) (k : Eff -> Option R) (h : ∀ x ∈ args, zcI pd s s2 x) : zdc pd env fn args ts o s2 k = zdc pd env fn args ts o s k := by
  simp only [zdc, zkC _ _ _ _ h, zkD _ _ _ _ h, zkE _ _ _ _ h, zkF _ _ _ _ _ h]
theorem zlZ (fn : Nat) {args : List Operand} (ts : List TypeId) (o : Oper) (k : Eff -> Option R) (h : ∀ x ∈ args, zcI pd s s2 x) : zeu pd env fn args ts o s2 k = zeu pd env fn args ts o s k := by
  simp only [zeu, zdD, zlY h, zb7 fun x hx => (h x hx).weak, zb8 fun x hx => (h x hx).weak, zjo _ _ _ _ h, zkB _ _ _ _ h, zkG _ _ _ _ h]
theorem zfp {x : Operand} (h : zec pd s s2 x) {t : TypeId} {c : C} (hc : (pd.ev t s x).c? = some c) {id : Nat} (hid : id ∈ idC c) : s2.get id = s.get id := h.c hc id hid
theorem zhK (b : Builtin) {args : List Operand} (ts : List TypeId) (o : Oper) (k : Eff -> Option R) (h : ∀ x ∈ args, zec pd s s2 x) : zbu pd b args ts o s2 k = zbu pd b args ts o s k := by
  unfold zbu
  split
  . rename_i x t
    have hx := h x (by simp)
    rw [hx.ev]
    cases hc : (pd.ev t s x).c? with
    | none => rfl
    | some c => simp only [zp2 (hx.c hc)]
  . rename_i x t
    rw [(h x (by simp)).ev]
  . rename_i ts x y
    rw [(h x (by simp)).ev, (h y (by simp)).ev]
  . rename_i ts x y
    rw [(h x (by simp)).ev, (h y (by simp)).ev]
  . rename_i ts x y z
    rw [(h x (by simp)).ev, (h y (by simp)).ev, (h z (by simp)).ev]
  . rename_i x y t u
    have hx := h x (by simp)
    have hy := h y (by simp)
    rw [hx.ev, hy.ev]
    split
    . split
      . rename_i ei id c hei hc1 hc2
        rw [zfp hx hc1 (by simp [idC])]
      . rfl
    . split
      . rename_i ei id n c hei hc1 hc2
        rw [zfp hx hc1 (by simp [idC]), zc2 (hy.c hc2)]
      . rename_i ei id c hei hc1 hc2
        rw [zfp hx hc1 (by simp [idC]), zc2 (hy.c hc2)]
      . rfl
    . rfl
  . rename_i x y t u
    have hx := h x (by simp)
    have hy := h y (by simp)
    rw [hx.ev, hy.ev]
    split
    . split
      . rename_i id i n c hc1 hc2
        rw [zfp hx hc1 (by simp [idC]), zc2 (hy.c hc2)]
      . rename_i id i n cc c hc1 hc2
        rw [zfp hx hc1 (by simp [idC]), zc2 (hy.c hc2)]
      . rename_i id c hc1 hc2
        rw [zfp hx hc1 (by simp [idC]), zc2 (hy.c hc2)]
      . rename_i i1 o1 e n1 i2 o2 f n2 hc1 hc2
        rw [zfp hx hc1 (by simp [idC]), zfp hy hc2 (by simp [idC])]
      . rfl
    . rfl
  . rfl
theorem ztH (o : Oper) (k : Eff -> Option R) (hD : ∀ x ∈ o.op.operands.toList, zcI pd s s2 x) : opK pd env o s2 k = opK pd env o s k := by
  have h : ∀ x ∈ o.op.operands.toList, zec pd s s2 x := fun x hx => (hD x hx).weak
  cases ho : o.op with
  | call c =>
    obtain ⟨cal, args, ts⟩ := c
    rw [ho] at h hD
    cases cal with
    | builtin b => simp only [zau, opK1, ho]; exact zhK b _ o k (fun x hx => h x (by simpa [Op.operands, Call.operands] using hx))
    | value x =>
      cases x with
      | func fn => simp only [zau, opK1, ho]; exact zlZ fn _ o k (fun x hx => hD x (by simp only [Op.operands, Call.operands]; simp only [Array.toList_append, List.mem_append]; exact .inr hx))
      | _ => simp only [zau, opK1, ho]
    | invoke r n => simp only [zau, opK1, ho]
  | move x =>
    rw [ho] at h
    simp only [zau, opK1, ho, (h x (by simp [Op.operands])).ev]
  | assign x =>
    rw [ho] at h
    simp only [zau, opK1, ho, (h x (by simp [Op.operands])).ev]
  | pick c x y =>
    rw [ho] at h
    simp only [zau, opK1, ho, (h c (by simp [Op.operands])).ev, (h x (by simp [Op.operands])).ev, (h y (by simp [Op.operands])).ev]
  | alloc t => simp only [zau, opK1, ho]
  | box t x =>
    rw [ho] at h
    simp only [zau, opK1, ho, (h x (by simp [Op.operands])).ev]
  | load t x =>
    rw [ho] at h
    have hx := h x (by simp [Op.operands])
    simp only [zau, opK1, ho, hx.ev]
    split
    . rename_i id i sub hc
      rw [zfp hx hc (by simp [idC])]
    all_goals rfl
  | store t x v =>
    rw [ho] at h
    have hx := h x (by simp [Op.operands])
    simp only [zau, opK1, ho, hx.ev, (h v (by simp [Op.operands])).ev]
    split
    . rename_i id i sub u hc hu
      rw [zfp hx hc (by simp [idC])]
    . rfl
  | nilCheck x =>
    rw [ho] at h
    simp only [zau, opK1, ho, (h x (by simp [Op.operands])).ev]
  | binOp op t x y t' =>
    rw [ho] at h
    simp only [zau, opK1, ho, (h x (by simp [Op.operands])).ev, (h y (by simp [Op.operands])).ev]
  | unOp op t x =>
    rw [ho] at h
    simp only [zau, opK1, ho, (h x (by simp [Op.operands])).ev]
  | convert src dst x =>
    rw [ho] at h
    have hx := h x (by simp [Op.operands])
    simp only [zau, opK1, ho, hx.ev]
    split
    . rfl
    . rename_i c hs hd hc
      rw [zc2 (hx.c hc)]
    . rfl
  | sliceToArrayPointer t x =>
    rw [ho] at h
    have hx := h x (by simp [Op.operands])
    simp only [zau, opK1, ho, hx.ev]
    split
    . rename_i c ht hc
      cases c with
      | row id => simp only [zfp hx hc (id := id) (by simp [idC])]
      | sl id i n => simp only [zfp hx hc (id := id) (by simp [idC])]
      | _ => rfl
    . rfl
  | makeSlice t n m =>
    rw [ho] at h
    simp only [zau, opK1, ho, (h n (by simp [Op.operands])).ev, (h m (by simp [Op.operands])).ev]
  | slice t x lo hi mx =>
    cases mx with
    | some q => simp only [zau, opK1, ho]
    | none =>
      rw [ho] at h
      have hx := h x (by simp [Op.operands])
      have hlo := zkA (pd := pd) (s := s) (s2 := s2) (x := lo) (fun y hy => h y (by subst hy; simp [Op.operands]))
      have hhi := zkA (pd := pd) (s := s) (s2 := s2) (x := hi) (fun y hy => h y (by subst hy; simp [Op.operands]))
      simp only [zau, opK1, ho, hx.ev, hlo, hhi]
      split
      . rename_i c l u hc hl hu
        rw [zp1 (hx.c hc)]
      . rfl
  | fieldAddr t x f' =>
    rw [ho] at h
    have hx := h x (by simp [Op.operands])
    simp only [zau, opK1, ho, hx.ev]
    split
    . rename_i c ht hc
      cases c with
      | ptr id i n => simp only [zfp hx hc (id := id) (by simp [idC])]
      | _ => rfl
    . rfl
  | field t x f' =>
    rw [ho] at h
    simp only [zau, opK1, ho, (h x (by simp [Op.operands])).ev]
  | indexAddr t x i =>
    rw [ho] at h
    have hx := h x (by simp [Op.operands])
    simp only [zau, opK1, ho, hx.ev, (h i (by simp [Op.operands])).ev]
    split
    . rename_i c n hc hn
      simp only [ztD (hx.c hc), ztE (hx.c hc)]
    . rfl
  | index t x i =>
    rw [ho] at h
    simp only [zau, opK1, ho, (h x (by simp [Op.operands])).ev, (h i (by simp [Op.operands])).ev]
  | build t parts =>
    rw [ho] at h
    have hps : ∀ n place, zaR pd s2 n place parts.toList = zaR pd s n place parts.toList := fun n place => zfQ fun p hp => h p.2 (by
      simp only [Op.operands]
      simpa using ⟨p.1, by simpa using hp⟩)
    have hone : ∀ sz fs zl, oneV pd t s2 sz fs zl parts.toList = oneV pd t s sz fs zl parts.toList := fun sz fs zl => by
      unfold oneV
      split
      . rename_i x ft hpt
        have hx : x ∈ (Op.build t parts).operands.toList := by
          simp only [Op.operands]
          have : (0, x) ∈ parts.toList := by rw [hpt]; simp
          simpa using ⟨0, by simpa using this⟩
        rw [(h x hx).ev]
      . rfl
    simp only [zau, opK1, ho, hps, hone]
  | buildSlice t n parts =>
    rw [ho] at h
    have hps : ∀ n place, zaR pd s2 n place parts.toList = zaR pd s n place parts.toList := fun n place => zfQ fun p hp => h p.2 (by
      simp only [Op.operands]
      simpa using ⟨p.1, by simpa using hp⟩)
    simp only [zau, opK1, ho, hps]
  | extract x i =>
    rw [ho] at h
    simp only [zau, opK1, ho, (h x (by simp [Op.operands])).ev]
  | _ => simp only [zau, opK1, ho]
end
section
variable {R : Type} {pd : PD} {env : Nat -> Option Sg} {s s2 : St}
def ShO (row : Bool) : O -> O -> Prop
  | .lit a, .lit b => a.length = b.length
  | .vec e l, .vec f m => e = f /\ (row = true -> l.length = m.length)
  | _, _ => False
def Sh (x y : Ob) : Prop := x.row = y.row /\ x.n = y.n /\ x.ty = y.ty /\ ShO x.row x.o y.o
theorem ShO.refl (r : Bool) (o : O) : ShO r o o := by
  cases o with
  | lit a => exact Eq.refl _
  | vec e l => exact ⟨rfl, fun _ => rfl⟩
theorem Sh.refl (x : Ob) : Sh x x := ⟨rfl, rfl, rfl, ShO.refl _ _⟩
theorem ShO.trans {r : Bool} {a b c : O} (h : ShO r a b) (g : ShO r b c) : ShO r a c := by
  cases a with
  | lit x => cases b with
    | lit y => cases c with
      | lit z => exact Eq.trans h g
      | vec e l => exact g.elim
    | vec e l => exact h.elim
  | vec e x => cases b with
    | lit y => exact h.elim
    | vec f y => cases c with
      | lit z => exact g.elim
      | vec f' z => exact ⟨h.1.trans g.1, fun hr => (h.2 hr).trans (g.2 hr)⟩
theorem ShO.symm {r : Bool} {a b : O} (h : ShO r a b) : ShO r b a := by
  cases a with
  | lit x => cases b with
    | lit y => exact Eq.symm h
    | vec e l => exact h.elim
  | vec e x => cases b with
    | lit y => exact h.elim
    | vec f y => exact ⟨h.1.symm, fun hr => (h.2 hr).symm⟩
theorem Sh.trans {x y z : Ob} (h : Sh x y) (g : Sh y z) : Sh x z :=
  ⟨h.1.trans g.1, h.2.1.trans g.2.1, h.2.2.1.trans g.2.2.1, h.2.2.2.trans (by rw [h.1]; exact g.2.2.2)⟩
theorem Sh.symm {x y : Ob} (h : Sh x y) : Sh y x := ⟨h.1.symm, h.2.1.symm, h.2.2.1.symm, by rw [← h.1]; exact h.2.2.2.symm⟩
def zd4 (s s2 : St) (l : List Nat) : Prop := ∀ id ∈ l, s2.get id = s.get id \/ ∃ x y, s.get id = some x /\ s2.get id = some y /\ Sh x y
theorem zbo {id : Nat} {l : List Nat} (h : zd4 s s2 l) (hid : id ∈ l) :
    s2.get id = s.get id \/ (∃ r n t a b, a.length = b.length /\ s2.get id = some ⟨r, n, t, .lit a⟩ /\ s.get id = some ⟨r, n, t, .lit b⟩) \/
      ∃ r n t e a b, (r = true -> a.length = b.length) /\ s2.get id = some ⟨r, n, t, .vec e a⟩ /\ s.get id = some ⟨r, n, t, .vec e b⟩ := by
  rcases h id hid with h | ⟨x, y, hx, hy, hs⟩
  . exact .inl h
  . right
    obtain ⟨r1, n1, t1, o1⟩ := x
    obtain ⟨r2, n2, t2, o2⟩ := y
    obtain ⟨e1, e2, e3, e4⟩ := hs
    simp only at e1 e2 e3 e4
    subst e1; subst e2; subst e3
    cases o1 with
    | lit a => cases o2 with
      | lit b => exact .inl ⟨_, _, _, _, _, Eq.symm e4, hy, hx⟩
      | vec e l => exact e4.elim
    | vec e a => cases o2 with
      | lit b => exact e4.elim
      | vec f b =>
        obtain ⟨rfl, e5⟩ := e4
        exact .inr ⟨_, _, _, _, _, _, fun hr => (e5 hr).symm, hy, hx⟩
theorem zyM {t : TypeId} {c : C} {n : Int} (h : zd4 s s2 (idC c)) : pd.idx t s2 c n = pd.idx t s c n := by
  cases c with
  | ptr id i sub =>
    rcases zbo h (id := id) (by simp [idC]) with e | ⟨r, m, ty, a, b, hl, e2, e1⟩ | ⟨r, m, ty, e, a, b, hl, e2, e1⟩
    . simp only [PD.idx, e]
    . simp only [PD.idx, e2, e1]
      cases pd.ti t with
      | none => rfl
      | some ti =>
        obtain ⟨kk, z1, z2, z3⟩ := ti
        cases kk <;> first | rfl | simp only [O.isVec, O.sz, hl]
    . simp only [PD.idx, e2, e1]
      cases pd.ti t with
      | none => rfl
      | some ti =>
        obtain ⟨kk, z1, z2, z3⟩ := ti
        cases kk <;> first | rfl | simp only [O.isVec, O.sz]
  | row id =>
    rcases zbo h (id := id) (by simp [idC]) with e | ⟨r, m, ty, a, b, hl, e2, e1⟩ | ⟨r, m, ty, e, a, b, hl, e2, e1⟩
    . simp only [PD.idx, e]
    . simp only [PD.idx, e2, e1]
    . cases r with
      | true => simp only [PD.idx, e2, e1, hl rfl]
      | false => simp only [PD.idx, e2, e1]
  | sl id i m =>
    rcases zbo h (id := id) (by simp [idC]) with e | ⟨r, m, ty, a, b, hl, e2, e1⟩ | ⟨r, m, ty, e, a, b, hl, e2, e1⟩
    . simp only [PD.idx, e]
    . simp only [PD.idx, e2, e1]
    . simp only [PD.idx, e2, e1]
  | slc id i m cc =>
    rcases zbo h (id := id) (by simp [idC]) with e | ⟨r, m, ty, a, b, hl, e2, e1⟩ | ⟨r, m, ty, e, a, b, hl, e2, e1⟩
    . simp only [PD.idx, e]
    . simp only [PD.idx, e2, e1]
    . simp only [PD.idx, e2, e1]
  | asl id off f m =>
    rcases zbo h (id := id) (by simp [idC]) with e | ⟨r, m, ty, a, b, hl, e2, e1⟩ | ⟨r, m, ty, e, a, b, hl, e2, e1⟩
    . simp only [PD.idx, e]
    . simp only [PD.idx, e2, e1]
      cases pd.ti t with
      | none => rfl
      | some ti =>
        obtain ⟨kk, z1, z2, z3⟩ := ti
        cases kk <;> first | rfl | simp only [hl]
    . simp only [PD.idx, e2, e1]
      cases pd.ti t with
      | none => rfl
      | some ti =>
        obtain ⟨kk, z1, z2, z3⟩ := ti
        cases kk <;> rfl
  | _ => rfl
theorem zyN {t : TypeId} {c : C} (h : zd4 s s2 (idC c)) : pd.brn t s2 c = pd.brn t s c := by
  cases c with
  | ptr id i sub =>
    rcases zbo h (id := id) (by simp [idC]) with e | ⟨r, m, ty, a, b, hl, e2, e1⟩ | ⟨r, m, ty, e, a, b, hl, e2, e1⟩
    . simp only [PD.brn, e]
    . simp only [PD.brn, e2, e1]
      cases pd.ti t with
      | none => rfl
      | some ti =>
        obtain ⟨kk, z1, z2, z3⟩ := ti
        cases kk <;> first | rfl | simp only [O.isVec]
    . simp only [PD.brn, e2, e1]
      cases pd.ti t with
      | none => rfl
      | some ti =>
        obtain ⟨kk, z1, z2, z3⟩ := ti
        cases kk <;> first | rfl | simp only [O.isVec]
  | _ => rfl
theorem zox {t : TypeId} {id sub : Nat} {lo hi : Option Int} (h : zd4 s s2 [id]) : pd.partLit t s2 id sub lo hi = pd.partLit t s id sub lo hi := by
  rcases zbo h (id := id) (by simp) with e | ⟨r, m, ty, a, b, hl, e2, e1⟩ | ⟨r, m, ty, e, a, b, hl, e2, e1⟩
  . simp only [PD.partLit, e]
  . cases r <;> simp only [PD.partLit, e2, e1, hl]
  . simp only [PD.partLit, e2, e1]
theorem zwE {t : TypeId} {c : C} {l u : Option Int} (h : zd4 s s2 (idC c)) : pd.part t s2 c l u = pd.part t s c l u := by
  cases c with
  | row id =>
    rcases zbo h (id := id) (by simp [idC]) with e | ⟨r, m, ty, a, b, hl, e2, e1⟩ | ⟨r, m, ty, e, a, b, hl, e2, e1⟩
    . simp only [PD.part, e]
    . simp only [PD.part, e2, e1]
    . cases r with
      | true => simp only [PD.part, e2, e1, hl rfl]
      | false => simp only [PD.part, e2, e1]
  | sl id i m =>
    rcases zbo h (id := id) (by simp [idC]) with e | ⟨r, m, ty, a, b, hl, e2, e1⟩ | ⟨r, m, ty, e, a, b, hl, e2, e1⟩
    . simp only [PD.part, e]
    . simp only [PD.part, e2, e1]
    . simp only [PD.part, e2, e1]
  | slc id i m cc =>
    cases i with
    | succ i => rfl
    | zero =>
      rcases zbo h (id := id) (by simp [idC]) with e | ⟨r, m, ty, a, b, hl, e2, e1⟩ | ⟨r, m, ty, e, a, b, hl, e2, e1⟩
      . simp only [PD.part, e]
      . simp only [PD.part, e2, e1]
      . simp only [PD.part, e2, e1]
  | ptr id i n =>
    cases i with
    | succ i => rfl
    | zero =>
      have hp := zox (pd := pd) (t := t) (id := id) (sub := n) (lo := l) (hi := u) (fun j hj => h j (by simpa [idC] using hj))
      cases n with
      | succ n => exact hp
      | zero =>
        rcases zbo h (id := id) (by simp [idC]) with e | ⟨r, m, ty, a, b, hl, e2, e1⟩ | ⟨r, m, ty, e, a, b, hl, e2, e1⟩
        . simp only [PD.part, e, hp]
        . simp only [PD.part, e2, e1, hp]
          cases pd.ti t with
          | none => rfl
          | some ti =>
            obtain ⟨kk, z1, z2, z3⟩ := ti
            cases kk <;> first | rfl | simp only [O.isVec]
        . simp only [PD.part, e2, e1, hp]
          cases pd.ti t with
          | none => rfl
          | some ti =>
            obtain ⟨kk, z1, z2, z3⟩ := ti
            cases kk <;> first | rfl | simp only [O.isVec]
  | _ => rfl
theorem zwF {c : C} (h : zd4 s s2 (idC c)) : lenC s2 c = lenC s c := by
  cases c with
  | row id =>
    rcases zbo h (id := id) (by simp [idC]) with e | ⟨r, m, ty, a, b, hl, e2, e1⟩ | ⟨r, m, ty, e, a, b, hl, e2, e1⟩
    . simp only [lenC, e]
    . simp only [lenC, e2, e1]
    . cases r with
      | true => simp only [lenC, e2, e1, hl rfl]
      | false => simp only [lenC, e2, e1]
  | _ => rfl
def zfR (pd : PD) (s s2 : St) (x : Operand) : Prop := ∀ t, pd.ev t s2 x = pd.ev t s x /\ zd4 s s2 (pd.ev t s x).ids
theorem zp7 {x : Operand} (h1 : ∀ t, x = .tmp t -> s2.tm.getD t .dead = s.tm.getD t .dead) (h2 : ∀ t, x = .tmp t -> zd4 s s2 (s.tm.getD t .dead).ids) : zfR pd s s2 x := by
  intro t
  cases x with
  | tmp i => exact ⟨h1 i rfl, h2 i rfl⟩
  | const v =>
    refine ⟨rfl, fun id hid => ?_⟩
    have := zp3 hid
    rw [PD.ev, zgD] at this
    cases this
  | _ => exact ⟨rfl, fun id hid => by cases hid⟩
theorem zfR.ev {x : Operand} (h : zfR pd s s2 x) (t : TypeId) : pd.ev t s2 x = pd.ev t s x := (h t).1
theorem zfR.c {x : Operand} (h : zfR pd s s2 x) {t : TypeId} {c : C} (hc : (pd.ev t s x).c? = some c) : zd4 s s2 (idC c) := by
  have := (h t).2
  rw [zcS hc] at this
  exact this
theorem zp8 {x : Option Operand} (h : ∀ y, x = some y -> zfR pd s s2 y) : optI pd s2 x = optI pd s x := by
  cases x with
  | none => rfl
  | some y => simp only [optI, (h y rfl).ev]
theorem zyO (o : Oper) (k : Eff -> Option R) (had : isAd o = true) (h : ∀ x ∈ o.op.operands.toList, zfR pd s s2 x) : opK pd env o s2 k = opK pd env o s k := by
  cases ho : o.op with
  | call c =>
    obtain ⟨cal, args, ts⟩ := c
    rw [ho] at h
    cases cal with
    | builtin b =>
      cases b <;> simp [isAd, ho] at had
      simp only [zau, opK1, ho]
      have h' : ∀ x ∈ args.toList, zfR pd s s2 x := fun x hx => h x (by simpa [Op.operands, Call.operands] using hx)
      generalize args.toList = al at h'
      generalize ts.toList = tl
      unfold zbu
      match al, tl, h' with
      | [x], [t], h' =>
        have hx := h' x (by simp)
        simp only [hx.ev]
        cases hc : (pd.ev t s x).c? with
        | none => rfl
        | some c => simp only [zwF (hx.c hc)]
      | [], _, _ => rfl
      | [_], [], _ => rfl
      | [_], _ :: _ :: _, _ => rfl
      | _ :: _ :: _, _, _ => rfl
    | value x => simp [isAd, ho] at had
    | invoke r n => simp [isAd, ho] at had
  | move x =>
    rw [ho] at h
    simp only [zau, opK1, ho, (h x (by simp [Op.operands])).ev]
  | assign x =>
    rw [ho] at h
    simp only [zau, opK1, ho, (h x (by simp [Op.operands])).ev]
  | slice t x lo hi mx =>
    cases mx with
    | some q => simp only [zau, opK1, ho]
    | none =>
      rw [ho] at h
      have hx := h x (by simp [Op.operands])
      have hlo := zp8 (pd := pd) (s := s) (s2 := s2) (x := lo) (fun y hy => h y (by subst hy; simp [Op.operands]))
      have hhi := zp8 (pd := pd) (s := s) (s2 := s2) (x := hi) (fun y hy => h y (by subst hy; simp [Op.operands]))
      simp only [zau, opK1, ho, hx.ev, hlo, hhi]
      split
      . rename_i c l u hc hl hu
        rw [zwE (hx.c hc)]
      . rfl
  | fieldAddr t x f' =>
    rw [ho] at h
    have hx := h x (by simp [Op.operands])
    simp only [zau, opK1, ho, hx.ev]
    split
    . rename_i fs sz by' z c ht hc
      cases c with
      | ptr id i n =>
        rcases zbo (hx.c hc) (id := id) (by simp [idC]) with e | ⟨r, m, ty, a, b, hl, e2, e1⟩ | ⟨r, m, ty, e, a, b, hl, e2, e1⟩
        . simp only [e]
        . simp only [e2, e1, O.sz, hl]
        . simp only [e2, e1, O.sz]
      | _ => rfl
    . rfl
  | indexAddr t x i =>
    rw [ho] at h
    have hx := h x (by simp [Op.operands])
    simp only [zau, opK1, ho, hx.ev, (h i (by simp [Op.operands])).ev]
    split
    . rename_i c n hc hn
      simp only [zyM (hx.c hc), zyN (hx.c hc)]
    . rfl
  | _ => simp [isAd, ho] at had
theorem zoy {t : TypeId} {x : Ob} {i sub : Nat} {u : U} {o' : O} (h : zdC pd t x i sub u = some (true, o')) : ShO x.row x.o o' := by
  obtain ⟨r, n, ty, o⟩ := x
  unfold zdC at h
  simp only at h
  split at h
  . cases h
  . rename_i ti hti
    split at h
    . rename_i l
      obtain ⟨h1, h2⟩ := zaa h
      simp only [oi1, pi1, true_and] at h2
      subst h2
      simp only [Bool.and_eq_true, Nat.ble_eq] at h1
      have e2 := Nat.beq_true h1.2.2
      exact (zaH l sub u.cells (by omega)).symm
    . rename_i e l
      split at h
      . rename_i m hm
        split at h
        . rename_i f q
          split at h
          . rename_i q' hq
            cases hb : (Nat.beq m n && (Nat.beq i 0 && (Nat.blt 0 m && !r))) with
            | true =>
              rw [hb] at h
              simp only [cond_true, oi1, pi1] at h
              obtain ⟨_, rfl⟩ := h
              simp only [Bool.and_eq_true] at hb
              refine ⟨rfl, fun hr => ?_⟩
              have h9 := hb.2.2.2
              have hr' : r = true := hr
              rw [hr'] at h9
              cases h9
            | false =>
              rw [hb] at h
              simp only [cond_false, oi1, pi1, Bool.and_eq_true] at h
              obtain ⟨⟨h7, h8⟩, rfl⟩ := h
              have h9 := Nat.beq_true h8
              have h10 : i + m <= l.length := by simpa [leN] using h7
              exact ⟨rfl, fun _ => (zaH l i q' (by omega)).symm⟩
          . cases h
        . cases h
      . obtain ⟨h1, h2⟩ := zaa h
        split at h2
        . simp only [oi1, pi1, true_and] at h2
          subst h2
          exact ⟨rfl, fun _ => (zdh _ _ _).symm⟩
        . cases h2
end
section
variable {X : Ctx} {ρ : Nat -> RI} {s : St} {a : Act} {w : World}
def Eff.core (f : Eff) : Eff := ⟨f.dst, f.v, f.put, f.del, f.new, []⟩
def Eff.none (o : Oper) : Eff := ⟨o.dst, .tup [], [], [], [], []⟩
def zkH (ops : List Oper) (o : Oper) (s : St) (b : Bool) : Prop :=
  ∃ j want p d, o.guard = some (j, want) /\ ops[j]? = some p /\ p.dst = some d /\ (s.tm.getD d .dead = .u (.c (.bool (if b then want else !want))) \/ (b = false /\ s.tm.getD d .dead = .tup []))
inductive Acts (pd : PD) (env : Nat -> Option Sg) (ops : List Oper) (o : Oper) (s : St) (f : Eff) : Prop
  | run (f0 : Eff) : (o.guard = none \/ zkH ops o s true) -> opK pd env o s some = some f0 -> f.core = f0.core -> Acts pd env ops o s f
  | skip : zkH ops o s false -> f.core = Eff.none o -> Acts pd env ops o s f
theorem zc3 {l : List V} {d : Nat} {v : V} (h : l.getD d .dead = v) (hv : v ≠ .dead) : setV l d v = l := by
  induction l generalizing d with
  | nil => rfl
  | cons x l ih =>
    cases d with
    | zero => simp at h; simp [setV, h]
    | succ d => simp only [List.getD_cons_succ] at h; simp [setV, ih h]
theorem zl0 {pd : PD} {o : Oper} {s : St} {ti m : Nat} {n : Int} (h : zpp pd o s = some (ti, m, n)) : s.tm.getD ti .dead = .u (.c (.int n)) := by
  unfold zpp at h
  split at h
  . split at h
    . split at h
      . rename_i hv _ _ _
        simp only [oi1, pi1] at h
        obtain ⟨rfl, _, rfl⟩ := h
        assumption
      . cases h
    . cases h
  . split at h
    . simp only [oi1, pi1] at h
      obtain ⟨rfl, _, rfl⟩ := h
      assumption
    . cases h
  . cases h
theorem zl1 {ops : List Oper} {s : St} {ti tj : Nat} {n : Int} (h : zpq ops s ti = some (tj, n)) : s.tm.getD tj .dead = .u (.c (.int n)) := by
  unfold zpq at h
  split at h
  . split at h
    . simp only [oi1, pi1] at h
      obtain ⟨rfl, rfl⟩ := h
      assumption
    . cases h
  . cases h
theorem zny {a b : Int} (h : eqI a b = true) : a = b := of_decide_eq_true h
theorem zjp {pd : PD} {env : Nat -> Option Sg} {R : Type} {ops : List Oper} {o : Oper} {s : St} {k : St -> Eff -> Option R} {r : R} (h : opS pd env ops o s k = some r) : ∃ f, opK pd env o s some = some f /\ k s f = some r := by
  unfold opS at h
  split at h
  . rename_i ti m n hs
    have hv := zl0 hs
    split at h
    . rename_i n2 ha
      obtain ⟨h3, h4⟩ := zaa h
      have e2 := zny h3
      rw [e2] at hv
      rw [zc3 hv (by simp)] at h4
      exact zgi h4
    split at h
    . rename_i tj n2 ha
      obtain ⟨c, _, _, hj, h2⟩ := zc1 h
      have hv2 := zl1 ha
      obtain ⟨h3, h4⟩ := zaa h2
      have e2 := zny h3
      rw [hj] at hv
      rw [e2] at hv2
      rw [zc3 hv (by simp), zc3 hv2 (by simp)] at h4
      exact zgi h4
    . obtain ⟨c, _, _, hj, h2⟩ := zc1 h
      rw [hj] at hv
      rw [zc3 hv (by simp)] at h2
      exact zgi h2
  . exact zgi h
theorem ztI {pd : PD} {env : Nat -> Option Sg} {R : Type} {ops : List Oper} {o : Oper} {s : St} {k : St -> Eff -> Option R} {r : R} (h : opG pd env ops o s k = some r) : ∃ f, k s f = some r /\ Acts pd env ops o s f := by
  unfold opG at h
  split at h
  . rename_i hg
    obtain ⟨f, h1, h2⟩ := zjp h
    exact ⟨f, h2, .run f (.inl hg) h1 rfl⟩
  . rename_i j want hg
    split at h
    . rename_i d op' ty pos aft gd hj
      split at h
      . rename_i b hb
        have hv := zhW hb
        cases b with
        | true =>
          simp only [cond_true] at h
          rw [zc3 hv (by simp)] at h
          cases want with
          | true =>
            simp only [cond_true] at h
            obtain ⟨f, h1, h2⟩ := zjp h
            exact ⟨f, h2, .run f (.inr ⟨j, true, _, d, hg, hj, rfl, .inl (by simpa using hv)⟩) h1 rfl⟩
          | false =>
            simp only [cond_false] at h
            exact ⟨_, h, .skip ⟨j, false, _, d, hg, hj, rfl, .inl (by simpa using hv)⟩ rfl⟩
        | false =>
          simp only [cond_false] at h
          rw [zc3 hv (by simp)] at h
          cases want with
          | true =>
            simp only [cond_true] at h
            exact ⟨_, h, .skip ⟨j, true, _, d, hg, hj, rfl, .inl (by simpa using hv)⟩ rfl⟩
          | false =>
            simp only [cond_false] at h
            obtain ⟨f, h1, h2⟩ := zjp h
            exact ⟨f, h2, .run f (.inr ⟨j, false, _, d, hg, hj, rfl, .inl (by simpa using hv)⟩) h1 rfl⟩
      . split at h
        . rename_i hv
          exact ⟨_, h, .skip ⟨j, want, _, d, hg, hj, rfl, .inr ⟨rfl, hv⟩⟩ rfl⟩
        . cases h
    . cases h
theorem Sim.slot (h : Sim X ρ s a w) {d : Nat} {b : Bool} (hd : s.tm.getD d .dead = .u (.c (.bool b))) : a.tmps[d]? = some (.bool b) := by
  have hlt : d < s.tm.length := by
    rcases Nat.lt_or_ge d s.tm.length with h1 | h1
    . exact h1
    . rw [List.getD_eq_getElem?_getD, List.getElem?_eq_none h1] at hd; cases hd
  have hg : s.tm[d]? = some (.u (.c (.bool b))) := by
    rw [List.getD_eq_getElem?_getD, List.getElem?_eq_getElem hlt, Option.getD_some] at hd
    rw [List.getElem?_eq_getElem hlt, hd]
  have hv := h.tm d _ hg
  have hv2 := zap (X := X) (ρ := ρ) (c := .bool b) rfl hv
  have hlt2 : d < a.tmps.size := by rw [← h.sz]; exact hlt
  simp [hlt2] at hv2
  simp [hlt2, hv2]
theorem zkH.wanted (h : Sim X ρ s a w) {ops : Array Oper} {o : Oper} {b : Bool} (hg : zkH ops.toList o s b) : Region.wanted o (yielded ops a.tmps) = b := by
  obtain ⟨j, want, p, d, h1, h2, h3, h4⟩ := hg
  rw [Array.getElem?_toList] at h2
  rcases h4 with h4 | ⟨rfl, h4⟩
  . have h5 := h.slot h4
    simp only [Region.wanted, h1, yielded, h2, h3, Option.bind_some, h5]
    cases b <;> cases want <;> rfl
  . have hlt : d < s.tm.length := by
      rcases Nat.lt_or_ge d s.tm.length with h1 | h1
      . exact h1
      . rw [List.getD_eq_getElem?_getD, List.getElem?_eq_none h1] at h4; cases h4
    have hg : s.tm[d]? = some (.tup []) := by
      rw [List.getD_eq_getElem?_getD, List.getElem?_eq_getElem hlt, Option.getD_some] at h4
      rw [List.getElem?_eq_getElem hlt, h4]
    obtain ⟨vs, hv, hr⟩ := h.tm d _ hg
    have hlt2 : d < a.tmps.size := by rw [← h.sz]; exact hlt
    have h5 : a.tmps[d]? = some (.tuple vs) := by
      have : a.tmps[d]? = some a.tmps[d] := Array.getElem?_eq_getElem hlt2
      rw [this]
      simpa [hlt2] using hv
    simp only [Region.wanted, h1, yielded, h2, h3, Option.bind_some, h5]
    cases want <;> rfl
theorem znz {f g : Eff} (h : f.core = g.core) (s : St) : f.app s = g.app s := by
  obtain ⟨a1, a2, a3, a4, a5, a6⟩ := f
  obtain ⟨b1, b2, b3, b4, b5, b6⟩ := g
  simp only [Eff.core, Eff.mk.injEq, and_true] at h
  obtain ⟨rfl, rfl, rfl, rfl, rfl⟩ := h
  rfl
theorem ztJ {f g : Eff} (h : f.core = g.core) : f.new = g.new := by
  have := congrArg Eff.new h
  exact this
theorem Acts.wpOp (hp : PDok X.P X.pd) {env : Nat -> Option Sg} (henv : ∀ f g, env f = some g -> SgOK X.P X.pd.els f g) {ops : Array Oper} {i : Nat} {o : Oper} (hi : ops[i]? = some o) {f : Eff} (h : Sim X ρ s a w) (hf : Acts X.pd env ops.toList o s f) (hnew : anyN s.men f.new = false)
    {Q : Exit -> Act -> World -> Prop} {K : Act -> World -> Prop} (hK : ∀ ρ' a' w', Sim X ρ' (f.app s) a' w' -> K a' w') : wpOp X.P ops Q i K a w := by
  unfold Go.wpOp
  simp only [hi]
  cases hf with
  | run f0 hg hk hc =>
    have hw : Region.wanted o (yielded ops a.tmps) = true := by
      rcases hg with hg | hg
      . simp [Region.wanted, hg]
      . exact hg.wanted h
    rw [if_pos hw]
    left
    have := zyL hp henv hk ρ a w Q h (by rw [← ztJ hc]; exact hnew)
    exact Oper.wp_mono (fun a' w' ⟨ρ', h'⟩ => hK ρ' a' w' (by rw [znz hc]; exact h')) this
  | skip hg hc =>
    have hw := hg.wanted h
    rw [if_neg (by rw [hw]; simp)]
    refine hK ρ _ _ ?_
    rw [znz (g := Eff.none o) hc]
    cases hd : o.dst with
    | none => simpa [Eff.none, Eff.app, St.dels, St.puts, hd, Act.put] using h
    | some d => simpa [Eff.none, Eff.app, St.dels, St.puts, hd] using h.set d (v := .tup []) (x := undef) ⟨#[], rfl, trivial⟩
inductive Chain (pd : PD) (env : Nat -> Option Sg) (ops : List Oper) : List Oper -> St -> List Eff -> St -> Prop
  | nil {s : St} : Chain pd env ops [] s [] s
  | cons {o : Oper} {l : List Oper} {s s' : St} {f : Eff} {fs : List Eff} : Acts pd env ops o s f -> anyN s.men f.new = false -> f.rd = rdOf s o -> Chain pd env ops l (f.app s) fs s' -> Chain pd env ops (o :: l) s (f :: fs) s'
theorem Acts.core {pd : PD} {env : Nat -> Option Sg} {ops : List Oper} {o : Oper} {s : St} {f g : Eff} (h : Acts pd env ops o s f) (hc : f.core = g.core) : Acts pd env ops o s g := by
  cases h with
  | run f0 h1 h2 h3 => exact .run f0 h1 h2 (by rw [← hc]; exact h3)
  | skip h1 h2 => exact .skip h1 (by rw [← hc]; exact h2)
theorem zgY {pd : PD} {env : Nat -> Option Sg} {R : Type} {ops : List Oper} {k : St -> List Eff -> Option R} {r : R} {l : List Oper} {s : St} {acc : List Eff} (h : opsK pd env ops l s acc k = some r) :
    ∃ fs s', k s' (acc.reverse ++ fs) = some r /\ Chain pd env ops l s fs s' := by
  induction l generalizing s acc with
  | nil => exact ⟨[], s, by simpa [opsK] using h, .nil⟩
  | cons o l ih =>
    unfold opsK at h
    obtain ⟨f, h1, h2⟩ := ztI h
    obtain ⟨h3, h4⟩ := zez h1
    obtain ⟨fs, s', h5, h6⟩ := ih h4
    refine ⟨⟨f.dst, f.v, f.put, f.del, f.new, rdOf s o⟩ :: fs, s', by simpa using h5, .cons (h2.core rfl) h3 rfl h6⟩
theorem Chain.wpOps (hp : PDok X.P X.pd) {env : Nat -> Option Sg} (henv : ∀ f g, env f = some g -> SgOK X.P X.pd.els f g) {ops : Array Oper} {Q : Exit -> Act -> World -> Prop} {l : List Oper} {s' : St} {fs : List Eff} (hc : Chain X.pd env ops.toList l s fs s') :
    ∀ (i : Nat) (ρ : Nat -> RI) (a : Act) (w : World), ops.toList.drop i = l -> Sim X ρ s a w -> (∀ ρ' a' w', Sim X ρ' s' a' w' -> Q .normal a' w') -> wpOps X.P ops Q (List.range' i l.length) a w := by
  induction hc with
  | nil => intro i ρ a w _ h hQ; exact hQ ρ a w h
  | @cons o l s s' f fs h1 h2 _ _ ih =>
    intro i ρ a w hd h hQ
    rw [List.length_cons, List.range'_succ, wpOps_cons]
    have hi : ops[i]? = some o := by
      rw [← Array.getElem?_toList]
      have := congrArg (·[0]?) hd
      simpa using this
    refine h1.wpOp hp henv hi h h2 fun ρ' a' w' h' => ih (i + 1) ρ' a' w' ?_ h' hQ
    have := congrArg (List.drop 1) hd
    simpa [List.drop_drop] using this
theorem Chain.wpPre (hp : PDok X.P X.pd) {env : Nat -> Option Sg} (henv : ∀ f g, env f = some g -> SgOK X.P X.pd.els f g) {ops : Array Oper} {Q : Exit -> Act -> World -> Prop} {l : List Oper} {s' : St} {fs : List Eff} (hc : Chain X.pd env ops.toList l s fs s') :
    ∀ (i : Nat) (ρ : Nat -> RI) (a : Act) (w : World) (rest : List Nat), (ops.toList.drop i).take l.length = l -> Sim X ρ s a w -> (∀ ρ' a' w', Sim X ρ' s' a' w' -> Go.wpOps X.P ops Q rest a' w') -> Go.wpOps X.P ops Q (List.range' i l.length ++ rest) a w := by
  induction hc with
  | nil => intro i ρ a w rest _ h hQ; exact hQ ρ a w h
  | @cons o l s s' f fs h1 h2 _ _ ih =>
    intro i ρ a w rest hd h hQ
    rw [List.length_cons, List.range'_succ, List.cons_append, wpOps_cons]
    have hi : ops[i]? = some o := by
      rw [← Array.getElem?_toList]
      have := congrArg (·[0]?) hd
      simpa using this
    refine h1.wpOp hp henv hi h h2 fun ρ' a' w' h' => ih (i + 1) ρ' a' w' rest ?_ h' hQ
    have := congrArg (List.drop 1) hd
    rw [List.length_cons, List.drop_take, List.drop_drop] at this
    simpa using this
end
section
def apps (s : St) (l : List Eff) : St := l.foldl (fun s f => f.app s) s
def zeM (f : Eff) (t : Nat) (v : V) : V := if f.dst = some t then f.v else v
def getA (f : Eff) (id : Nat) (x : Option Ob) : Option Ob := zdZ f.put id (if id ∈ f.del then none else x)
theorem zp9 (l : List V) (d : Nat) (v : V) (t : Nat) (ht : t < l.length) : (setV l d v).getD t .dead = if d = t then v else l.getD t .dead := by
  rw [List.getD_eq_getElem?_getD, zgc, List.getD_eq_getElem?_getD]
  by_cases h : t = d
  . subst h; simp [ht]
  . have h' : d ≠ t := fun e => h e.symm
    simp [h, h']
theorem zjq (f : Eff) (s : St) : (f.app s).tm.length = s.tm.length := by
  unfold Eff.app
  cases f.dst with
  | none => simp only [zbW, zcq]
  | some d => simp only [zdi, zbW, zcq]
theorem znA (f : Eff) (s : St) (t : Nat) (ht : t < s.tm.length) : (f.app s).tm.getD t .dead = zeM f t (s.tm.getD t .dead) := by
  unfold Eff.app zeM
  cases hd : f.dst with
  | none => simp only [zbW, zcq]; simp
  | some d =>
    simp only
    rw [zp9 _ _ _ _ (by rw [zbW, zcq]; exact ht), zbW, zcq]
    simp
theorem zl2 (f : Eff) (s : St) (id : Nat) : (f.app s).get id = getA f id (s.get id) := by
  have : (f.app s).get id = ((s.dels f.del).puts f.put).get id := by
    unfold Eff.app
    cases f.dst <;> rfl
  rw [this, zaM, za7]; rfl
theorem zc4 (s : St) (f : Eff) (l : List Eff) : apps s (f :: l) = apps (f.app s) l := rfl
theorem zl3 (s : St) (l m : List Eff) : apps s (l ++ m) = apps (apps s l) m := by simp [apps, List.foldl_append]
theorem zdo (l : List Eff) (s : St) : (apps s l).tm.length = s.tm.length := by
  induction l generalizing s with
  | nil => rfl
  | cons f l ih => rw [zc4, ih, zjq]
theorem zeN (l : List Eff) (s : St) (t : Nat) (ht : t < s.tm.length) : (apps s l).tm.getD t .dead = l.foldl (fun v f => zeM f t v) (s.tm.getD t .dead) := by
  induction l generalizing s with
  | nil => rfl
  | cons f l ih => rw [zc4, ih _ (by rw [zjq]; exact ht), List.foldl_cons, znA _ _ _ ht]
theorem zeO (l : List Eff) (s : St) (id : Nat) : (apps s l).get id = l.foldl (fun x f => getA f id x) (s.get id) := by
  induction l generalizing s with
  | nil => rfl
  | cons f l ih => rw [zc4, ih, List.foldl_cons, zl2]
def sel (D : Nat -> Bool) : Nat -> List Eff -> List Eff
  | _, [] => []
  | i, f :: l => if D i then f :: sel D (i + 1) l else sel D (i + 1) l
theorem zeP {β : Type} (act : Eff -> β -> β) (D E : Nat -> Bool) : ∀ (l : List Eff) (i : Nat) (x : β), (∀ j f, l[j]? = some f -> D (i + j) ≠ E (i + j) -> ∀ y, act f y = y) ->
    (sel D i l).foldl (fun x f => act f x) x = (sel E i l).foldl (fun x f => act f x) x
  | [], _, _, _ => rfl
  | f :: l, i, x, h => by
    have ih := fun x => zeP act D E l (i + 1) x fun j g hj hne y => h (j + 1) g (by simpa using hj) (by simpa [Nat.add_assoc, Nat.add_comm 1] using hne) y
    have h0 := h 0 f rfl
    simp only [Nat.add_zero] at h0
    unfold sel
    cases hD : D i <;> cases hE : E i <;> simp only [Bool.false_eq_true, if_false, if_true, List.foldl_cons]
    . exact ih x
    . rw [h0 (by simp [hD, hE])]; exact ih x
    . rw [h0 (by simp [hD, hE])]; exact ih x
    . exact ih _
theorem zgj : ∀ (l : List Eff) (i n : Nat), sel (fun j => decide (j < i + n)) i l = l.take n
  | [], i, n => by simp [sel]
  | f :: l, i, 0 => by
    have ih := zgj l (i + 1) 0
    have h2 : ∀ (l : List Eff) (k : Nat), i <= k -> sel (fun j => decide (j < i + 0)) k l = [] := by
      intro l
      induction l with
      | nil => intro k _; rfl
      | cons g l ih => intro k hk; simp only [sel]; rw [if_neg (by simp; omega)]; exact ih (k + 1) (by omega)
    rw [h2 _ _ (Nat.le_refl _)]; rfl
  | f :: l, i, n + 1 => by
    have ih := zgj l (i + 1) n
    simp only [sel, List.take_succ_cons]
    rw [if_pos (by simp), show (fun j => decide (j < i + (n + 1))) = (fun j => decide (j < i + 1 + n)) from by funext j; congr 1; simp; omega]
    rw [ih]
theorem zjr {β : Type} (act : Eff -> β -> β) (D : Nat -> Bool) (c : β) : ∀ (l : List Eff) (i k : Nat) (x : β) (f : Eff), l[k]? = some f -> D (i + k) = true -> (∀ y, act f y = c) -> (∀ j g, k < j -> l[j]? = some g -> D (i + j) = true -> ∀ y, act g y = y) ->
    (sel D i l).foldl (fun x f => act f x) x = c
  | [], _, _, _, _, h, _, _, _ => by simp at h
  | g :: l, i, 0, x, f, h, hD, hc, hr => by
    simp only [List.getElem?_cons_zero, oi1] at h
    subst h
    unfold sel
    rw [if_pos (by simpa using hD), List.foldl_cons, hc]
    have : ∀ (l : List Eff) (i : Nat), (∀ j g, l[j]? = some g -> D (i + j) = true -> ∀ y, act g y = y) -> ∀ x, (sel D i l).foldl (fun x f => act f x) x = x := by
      intro l
      induction l with
      | nil => intro _ _ _; rfl
      | cons f l ih =>
        intro i h x
        have h0 := h 0 f rfl
        unfold sel
        split
        . rw [List.foldl_cons, h0 (by simpa using ‹D i = true›)]
          exact ih _ (fun j g hj hD => h (j + 1) g (by simpa using hj) (by simpa [Nat.add_assoc, Nat.add_comm 1] using hD)) _
        . exact ih _ (fun j g hj hD => h (j + 1) g (by simpa using hj) (by simpa [Nat.add_assoc, Nat.add_comm 1] using hD)) _
    exact this l (i + 1) (fun j g hj hD => hr (j + 1) g (by omega) (by simpa using hj) (by simpa [Nat.add_assoc, Nat.add_comm 1] using hD)) c
  | g :: l, i, k + 1, x, f, h, hD, hc, hr => by
    unfold sel
    have := fun x => zjr act D c l (i + 1) k x f (by simpa using h) (by simpa [Nat.add_assoc, Nat.add_comm 1] using hD) hc (fun j g hj hg hD => hr (j + 1) g (by omega) (by simpa using hg) (by simpa [Nat.add_assoc, Nat.add_comm 1] using hD))
    split
    . rw [List.foldl_cons]; exact this _
    . exact this _
theorem ztK {l : List V} {d : Nat} {v : V} {id : Nat} (h : zb3 id l = false) (hv : v.men id = false) : zb3 id (setV l d v) = false := by
  induction l generalizing d with
  | nil => rfl
  | cons x l ih =>
    simp only [zb3] at h
    cases hx : x.men id with
    | true => simp [hx] at h
    | false =>
      simp only [hx, cond_false] at h
      cases d with
      | zero => simp [setV, zb3, hv, h]
      | succ d => simp [setV, zb3, hx, ih h]
theorem zwG {f : Eff} {s : St} {id : Nat} (h : s.men id = false) (hf : f.men id = false) : (f.app s).men id = false := by
  unfold Eff.men at hf
  cases hv : f.v.men id with
  | true => simp [hv] at hf
  | false =>
    simp only [hv, cond_false] at hf
    have h1 : ((s.dels f.del).puts f.put).men id = false := znu (zdQ h) hf
    unfold Eff.app
    cases f.dst with
    | none => exact h1
    | some d =>
      simp only
      unfold St.men at h1 ⊢
      cases h2 : zb3 id ((s.dels f.del).puts f.put).tm with
      | true => simp [h2] at h1
      | false =>
        simp only [h2, cond_false] at h1
        simp only [ztK h2 hv, cond_false]
        exact h1
theorem ztL {l : List Eff} {s : St} {id : Nat} (h : s.men id = false) (hl : ∀ f ∈ l, f.men id = false) : (apps s l).men id = false := by
  induction l generalizing s with
  | nil => exact h
  | cons f l ih => rw [zc4]; exact ih (zwG h (hl f (by simp))) fun g hg => hl g (by simp [hg])
theorem zjs {D : Nat -> Bool} {f : Eff} : ∀ {l : List Eff} {i : Nat}, f ∈ sel D i l -> ∃ j, l[j]? = some f /\ D (i + j) = true
  | [], _, h => by cases h
  | g :: l, i, h => by
    unfold sel at h
    split at h
    . rcases List.mem_cons.1 h with rfl | h
      . exact ⟨0, rfl, by simpa using ‹D i = true›⟩
      . obtain ⟨j, h1, h2⟩ := zjs h
        exact ⟨j + 1, by simpa using h1, by simpa [Nat.add_assoc, Nat.add_comm 1] using h2⟩
    . obtain ⟨j, h1, h2⟩ := zjs h
      exact ⟨j + 1, by simpa using h1, by simpa [Nat.add_assoc, Nat.add_comm 1] using h2⟩
theorem zcA {p : Nat -> Bool} {l : List Nat} : anyN p l = false ↔ ∀ n ∈ l, p n = false := by
  induction l with
  | nil => simp [anyN]
  | cons m l ih =>
    simp only [anyN, List.forall_mem_cons]
    cases h : p m with
    | true => simp
    | false => simp [ih]
theorem zfq {f : Eff} {id : Nat} (h : id ∉ f.writes) (x : Option Ob) : getA f id x = x := by
  unfold Eff.writes at h
  simp only [List.mem_append, not_or] at h
  unfold getA
  rw [if_neg h.2.1]
  have : ∀ (l : List (Nat × Ob)) (x : Option Ob), id ∉ keys l -> zdZ l id x = x := by
    intro l
    induction l with
    | nil => intro x _; rfl
    | cons p l ih =>
      obtain ⟨j, y⟩ := p
      intro x h
      simp only [keys, List.mem_cons, not_or] at h
      simp only [zdZ, List.foldl_cons]
      rw [if_neg (fun e => h.1 e.symm)]
      exact ih x h.2
  exact this _ _ h.1
theorem zgZ {f : Eff} {id : Nat} (h : id ∈ keys f.put \/ id ∈ f.del) (x y : Option Ob) : getA f id x = getA f id y := by
  unfold getA
  rcases h with h | h
  . have : ∀ (l : List (Nat × Ob)) (x y : Option Ob), id ∈ keys l -> zdZ l id x = zdZ l id y := by
      intro l
      induction l with
      | nil => intro _ _ h; cases h
      | cons p l ih =>
        obtain ⟨j, z⟩ := p
        intro x y h
        simp only [zdZ, List.foldl_cons]
        by_cases hj : j = id
        . simp [hj]
        . simp only [keys, List.mem_cons] at h
          rcases h with h | h
          . exact absurd h.symm hj
          . simp only [if_neg hj]; exact ih _ _ h
    exact this _ _ _ h
  . simp [h]
theorem zl4 {f : Eff} {id : Nat} (h1 : id ∉ keys f.put) (h2 : id ∉ f.del) (x : Option Ob) : getA f id x = x := by
  have := zfq (f := ⟨f.dst, f.v, f.put, f.del, [], f.rd⟩) (id := id) (by simp [Eff.writes, h1, h2]) x
  exact this
theorem zed {wk : Nat -> Bool} {ops : List Oper} {i : Nat} {o : Oper} {f : Eff} : ∀ {ps : List Oper} {gs : List Eff} {bs : List Nat}, zhQ wk ops i o f ps gs bs = true -> ∀ (m : Nat) (p : Oper) (g : Eff) (b : Nat), ps[m]? = some p -> gs[m]? = some g -> bs[m]? = some b ->
    (b.testBit i = true /\ anyN f.men g.new = false) \/ (b.testBit i = false /\ zpo wk ops o p f g = false)
  | [], _, _, _, m, p, g, b, h, _, _ => by simp at h
  | _ :: _, [], _, _, m, p, g, b, _, h, _ => by simp at h
  | _ :: _, _ :: _, [], _, m, p, g, b, _, _, h => by simp at h
  | p0 :: ps, g0 :: gs, b0 :: bs, h, m, p, g, b, h1, h2, h3 => by
    unfold zhQ at h
    cases hb : Nat.testBit b0 i with
    | true =>
      simp only [hb, cond_true] at h
      obtain ⟨hm, h⟩ := zcx h
      cases m with
      | zero => simp at h1 h2 h3; subst h1; subst h2; subst h3; exact .inl ⟨hb, hm⟩
      | succ m => exact zed h m p g b (by simpa using h1) (by simpa using h2) (by simpa using h3)
    | false =>
      simp only [hb, cond_false] at h
      obtain ⟨hm, h⟩ := zcx h
      cases m with
      | zero => simp at h1 h2 h3; subst h1; subst h2; subst h3; exact .inr ⟨hb, hm⟩
      | succ m => exact zed h m p g b (by simpa using h1) (by simpa using h2) (by simpa using h3)
theorem zih {wk : Nat -> Bool} {ops : List Oper} : ∀ {ps : List Oper} {gs : List Eff} {bs : List Nat} {i : Nat}, pairs wk ops i ps gs bs = true -> ∀ (k m : Nat) (o : Oper) (f : Eff) (p : Oper) (g : Eff) (b : Nat), k < m -> ps[k]? = some o -> gs[k]? = some f -> ps[m]? = some p -> gs[m]? = some g -> bs[m]? = some b ->
    (b.testBit (i + k) = true /\ anyN f.men g.new = false) \/ (b.testBit (i + k) = false /\ zpo wk ops o p f g = false)
  | [], _, _, _, _, k, m, o, f, p, g, b, _, h, _, _, _, _ => by simp at h
  | _ :: _, [], _, _, _, k, m, o, f, p, g, b, _, _, h, _, _, _ => by simp at h
  | _ :: _, _ :: _, [], _, _, k, m, o, f, p, g, b, _, _, _, _, _, h => by simp at h
  | o0 :: ps, f0 :: gs, b0 :: bs, i, h, k, m, o, f, p, g, b, hkm, h1, h2, h3, h4, h5 => by
    unfold pairs at h
    cases hp : zhQ wk ops i o0 f0 ps gs bs with
    | false => simp [hp] at h
    | true =>
      simp only [hp, cond_true] at h
      cases m with
      | zero => omega
      | succ m =>
        cases k with
        | zero =>
          simp at h1 h2
          subst h1; subst h2
          exact zed hp m p g b (by simpa using h3) (by simpa using h4) (by simpa using h5)
        | succ k =>
          have := zih h k m o f p g b (by omega) (by simpa using h1) (by simpa using h2) (by simpa using h3) (by simpa using h4) (by simpa using h5)
          rw [show i + (k + 1) = i + 1 + k from by omega]
          exact this
theorem zl5 {s : St} {fs : List Eff} (h : zjZ s fs = true) : ∀ f ∈ fs, anyN s.men f.new = false := by
  induction fs with
  | nil => intro f hf; cases hf
  | cons g fs ih =>
    unfold zjZ at h
    cases hg : anyN s.men g.new with
    | true => simp [hg] at h
    | false =>
      simp only [hg, cond_false] at h
      intro f hf
      rcases List.mem_cons.1 hf with rfl | hf
      . exact hg
      . exact ih h f hf
theorem zhL {i : Nat} {l : List Edge} (h : zcV i l = true) : ∀ e ∈ l, Region.binds .any e = true -> e.on < i := by
  induction l with
  | nil => intro e he; cases he
  | cons g l ih =>
    unfold zcV at h
    intro e he hb
    rcases List.mem_cons.1 he with rfl | he
    . simp only [hb, cond_true] at h
      cases hl : Nat.blt e.on i with
      | false => simp [hl] at h
      | true => simpa [Nat.blt_eq] using hl
    . refine ih ?_ e he hb
      cases hg : Region.binds .any g with
      | false => simpa [hg] using h
      | true =>
        simp only [hg, cond_true] at h
        cases hl : Nat.blt g.on i with
        | false => simp [hl] at h
        | true => simpa [hl] using h
theorem zfS : ∀ {l : List Oper} {i : Nat}, zgv i l = true -> ∀ k o, l[k]? = some o -> ∀ e ∈ o.after.toList, Region.binds .any e = true -> e.on < i + k
  | [], _, _, k, o, h => by simp at h
  | p :: l, i, h, k, o, ho => by
    unfold zgv at h
    cases he : zcV i p.after.toList with
    | false => simp [he] at h
    | true =>
      simp only [he, cond_true] at h
      cases k with
      | zero => simp at ho; subst ho; exact zhL he
      | succ k =>
        have := zfS h k o (by simpa using ho)
        rw [show i + (k + 1) = i + 1 + k from by omega]
        exact this
theorem zoz {done : List Nat} {l : List Edge} {i : Nat} (h : Nat.testBit (zi2 done l) i = true) : ∃ e ∈ l, Region.binds .any e = true /\ (e.on = i \/ Nat.testBit (done.getD e.on 0) i = true) := by
  induction l with
  | nil => simp [zi2] at h
  | cons g l ih =>
    unfold zi2 at h
    cases hg : Region.binds .any g with
    | false =>
      simp only [hg, cond_false] at h
      obtain ⟨e, h1, h2⟩ := ih h
      exact ⟨e, List.mem_cons_of_mem _ h1, h2⟩
    | true =>
      simp only [hg, cond_true] at h
      have h' : Nat.testBit ((2 ^ g.on ||| done.getD g.on 0) ||| zi2 done l) i = true := h
      simp only [Nat.testBit_or, Bool.or_eq_true, Nat.testBit_two_pow, decide_eq_true_eq] at h'
      rcases h' with (h1 | h1) | h1
      . exact ⟨g, List.mem_cons_self, hg, .inl h1⟩
      . exact ⟨g, List.mem_cons_self, hg, .inr h1⟩
      . obtain ⟨e, h1, h2⟩ := ih h1
        exact ⟨e, List.mem_cons_of_mem _ h1, h2⟩
theorem zg0 : ∀ (l : List Oper) (done : List Nat), ∃ r, befs done l = done ++ r /\ r.length = l.length /\ ∀ k o, l[k]? = some o -> ∀ i, ((done ++ r).getD (done.length + k) 0).testBit i = true -> ∃ e ∈ o.after.toList, Region.binds .any e = true /\ (e.on = i \/ (e.on < done.length + k /\ ((done ++ r).getD e.on 0).testBit i = true))
  | [], done => ⟨[], by simp [befs], rfl, fun k o h => by simp at h⟩
  | o :: l, done => by
    obtain ⟨r, h1, h2, h3⟩ := zg0 l (done ++ [zi2 done o.after.toList])
    refine ⟨zi2 done o.after.toList :: r, by simp [befs, h1], by simp [h2], fun k p hk i hi => ?_⟩
    cases k with
    | zero =>
      simp at hk
      subst hk
      rw [Nat.add_zero, List.getD_eq_getElem?_getD, List.getElem?_append_right (Nat.le_refl _)] at hi
      simp only [Nat.sub_self, List.getElem?_cons_zero, Option.getD_some] at hi
      obtain ⟨e, e1, e2, e3⟩ := zoz hi
      refine ⟨e, e1, e2, e3.imp id fun e3 => ?_⟩
      have hlt : e.on < done.length := by
        rcases Nat.lt_or_ge e.on done.length with h | h
        . exact h
        . rw [List.getD_eq_getElem?_getD, List.getElem?_eq_none h] at e3; simp at e3
      refine ⟨by omega, ?_⟩
      rw [List.getD_eq_getElem?_getD, List.getElem?_append_left hlt, ← List.getD_eq_getElem?_getD]
      exact e3
    | succ k =>
      have := h3 k p (by simpa using hk) i (by
        simp only [List.append_assoc, List.singleton_append, List.length_append, List.length_singleton]
        rw [show done.length + 1 + k = done.length + (k + 1) from by omega]; exact hi)
      simp only [List.append_assoc, List.singleton_append, List.length_append, List.length_singleton] at this
      rw [show done.length + 1 + k = done.length + (k + 1) from by omega] at this
      exact this
end
section
variable {X : Ctx} {ρ : Nat -> RI} {s : St} {a : Act} {w : World}
theorem Chain.get {pd : PD} {env : Nat -> Option Sg} {ops : List Oper} {l : List Oper} {s s' : St} {fs : List Eff} (h : Chain pd env ops l s fs s') :
    fs.length = l.length /\ s' = apps s fs /\ ∀ (i : Nat) (o : Oper) (f : Eff), l[i]? = some o -> fs[i]? = some f -> Acts pd env ops o (apps s (fs.take i)) f /\ f.rd = rdOf (apps s (fs.take i)) o := by
  induction h with
  | nil => exact ⟨rfl, rfl, fun i o f h => by simp at h⟩
  | @cons o l s s' f fs h1 h2 h3 h4 ih =>
    obtain ⟨e1, e2, e3⟩ := ih
    refine ⟨by simp [e1], by rw [zc4]; exact e2, fun i p g hp hg => ?_⟩
    cases i with
    | zero => simp at hp hg; subst hp; subst hg; exact ⟨h1, h3⟩
    | succ i => exact e3 i p g (by simpa using hp) (by simpa using hg)
theorem zb9 {l : List Operand} {t : Nat} (h : .tmp t ∈ l) : t ∈ zcC l := by
  induction l with
  | nil => cases h
  | cons x l ih =>
    rcases List.mem_cons.1 h with rfl | h2
    . simp [zcC]
    . have := ih h2
      cases x <;> simp [zcC, this]
theorem zg1 {s : St} {l : List Nat} {t id : Nat} (ht : t ∈ l) (hid : id ∈ s.deep (s.tm.getD t .dead).ids) : id ∈ zi4 s l := by
  induction l with
  | nil => cases ht
  | cons x l ih =>
    rcases List.mem_cons.1 ht with rfl | h
    . exact List.mem_append_left _ hid
    . exact List.mem_append_right _ (ih h)
theorem zeQ {ops : List Oper} {o : Oper} {t : Nat} (h : t ∈ zcC o.op.operands.toList) : t ∈ Oper.slots ops o := by
  unfold Oper.slots
  split
  . exact h
  . split
    . exact List.mem_cons_of_mem _ h
    . exact h
theorem zii {ops : List Oper} {o p : Oper} {j d : Nat} {want : Bool} (h1 : o.guard = some (j, want)) (h2 : ops[j]? = some p) (h3 : p.dst = some d) : d ∈ Oper.slots ops o := by
  obtain ⟨dst, op, ty, pos, aft, gd⟩ := p
  simp only at h3
  subst h3
  unfold Oper.slots
  simp [h1, h2]
theorem zkI (s : St) (o : Oper) : (∃ x, o.op = .move x) \/ rdOf s o = zi4 s (zcC o.op.operands.toList) := by
  unfold rdOf
  cases ho : o.op <;> first | exact .inl ⟨_, rfl⟩ | exact .inr rfl
theorem znB {pd : PD} {env : Nat -> Option Sg} {R : Type} {o : Oper} {x : Operand} (hx : o.op = .move x) {s s2 : St} {k : Eff -> Option R} (h : ∀ t, x = .tmp t -> s2.tm.getD t .dead = s.tm.getD t .dead) : opK pd env o s2 k = opK pd env o s k := by
  have hev : ∀ t, pd.ev t s2 x = pd.ev t s x := fun t => by
    cases x with
    | tmp i => exact h i rfl
    | _ => rfl
  simp only [zau, opK1, hx, hev]
theorem Acts.same {pd : PD} {env : Nat -> Option Sg} {ops : List Oper} {o : Oper} {s1 s2 : St} {f : Eff} (h : Acts pd env ops o s1 f) (hs : ∀ t ∈ Oper.slots ops o, s2.tm.getD t .dead = s1.tm.getD t .dead)
    (hg : ∀ id ∈ rdOf s1 o, s2.get id = s1.get id) : Acts pd env ops o s2 f := by
  have guard : ∀ b, zkH ops o s1 b -> zkH ops o s2 b := fun b ⟨j, want, p, d, h1, h2, h3, h4⟩ => ⟨j, want, p, d, h1, h2, h3, by rw [hs d (zii h1 h2 h3)]; exact h4⟩
  cases h with
  | run f0 h1 h2 h3 =>
    refine .run f0 (h1.imp id (guard true)) ?_ h3
    rcases zkI s1 o with ⟨x, hx⟩ | hrd
    . rw [znB hx (s := s1) fun t ht => hs t (zeQ (zb9 (by rw [hx, ht]; simp [Op.operands])))]
      exact h2
    . rw [hrd] at hg
      rw [ztH (s := s1) o some fun x hx => zp4 (fun t ht => hs t (zeQ (zb9 (ht ▸ hx)))) (fun t ht id hid => hg id (zg1 (zb9 (ht ▸ hx)) hid))]
      exact h2
  | skip h1 h2 => exact .skip (guard false h1) h2
theorem Acts.sameAd {pd : PD} {env : Nat -> Option Sg} {ops : List Oper} {o : Oper} {s1 s2 : St} {f : Eff} (had : isAd o = true) (h : Acts pd env ops o s1 f) (hs : ∀ t ∈ Oper.slots ops o, s2.tm.getD t .dead = s1.tm.getD t .dead)
    (hg : zd4 s1 s2 (rdOf s1 o)) : Acts pd env ops o s2 f := by
  have guard : ∀ b, zkH ops o s1 b -> zkH ops o s2 b := fun b ⟨j, want, p, d, h1, h2, h3, h4⟩ => ⟨j, want, p, d, h1, h2, h3, by rw [hs d (zii h1 h2 h3)]; exact h4⟩
  cases h with
  | run f0 h1 h2 h3 =>
    refine .run f0 (h1.imp id (guard true)) ?_ h3
    rcases zkI s1 o with ⟨x, hx⟩ | hrd
    . rw [znB hx (s := s1) fun t ht => hs t (zeQ (zb9 (by rw [hx, ht]; simp [Op.operands])))]
      exact h2
    . rw [hrd] at hg
      rw [zyO (s := s1) o some had fun x hx => zp7 (fun t ht => hs t (zeQ (zb9 (ht ▸ hx)))) (fun t ht id hid => hg id (zg1 (zb9 (ht ▸ hx)) (zcN hid)))]
      exact h2
  | skip h1 h2 => exact .skip (guard false h1) h2
structure Free (wk : Nat -> Bool) (ops : List Oper) (o p : Oper) (f g : Eff) : Prop where
  dst : ∀ d, f.dst = some d -> g.dst ≠ some d
  s1 : ∀ d, f.dst = some d -> d ∉ Oper.slots ops p
  s2 : ∀ d, g.dst = some d -> d ∉ Oper.slots ops o
  w1 : ∀ id ∈ f.writes, id ∉ g.writes /\ (id ∈ g.rd -> isAd p = true /\ wk id = true)
  w2 : ∀ id ∈ g.writes, id ∉ f.writes /\ (id ∈ f.rd -> isAd o = true /\ wk id = true)
  n1 : anyN g.men f.new = false
  n2 : anyN f.men g.new = false
theorem Free.symm {wk : Nat -> Bool} {ops : List Oper} {o p : Oper} {f g : Eff} (h : Free wk ops o p f g) : Free wk ops p o g f :=
  ⟨fun d h1 h2 => h.dst d h2 h1, h.s2, h.s1, h.w2, h.w1, h.n2, h.n1⟩
theorem zg2 {wk : Nat -> Bool} {ad : Bool} {f g : Eff} {gs : List Nat} (h : zjY wk ad f g gs = false) : (∀ d, f.dst = some d -> d ∉ gs) /\ (∀ id ∈ f.writes, id ∉ g.writes /\ (id ∈ g.rd -> ad = true /\ wk id = true)) /\ anyN g.men f.new = false := by
  unfold zjY at h
  cases h1 : zwd f.dst gs with
  | true => simp [h1] at h
  | false =>
    simp only [h1, cond_false] at h
    cases h2 : anyN (fun i => cond (memN i g.writes) true (cond (memN i g.rd) (cond ad (!wk i) true) false)) f.writes with
    | true => rw [h2] at h; cases h
    | false =>
      rw [h2, cond_false] at h
      refine ⟨fun d hd hm => ?_, fun id hid => ?_, h⟩
      . rw [hd, zwd, zdP.2 hm] at h1; cases h1
      . have := zcA.1 h2 id hid
        cases h3 : memN id g.writes with
        | true => simp [h3] at this
        | false =>
          simp only [h3, cond_false] at this
          refine ⟨fun hm => (by rw [zdP.2 hm] at h3; cases h3), fun hm => ?_⟩
          rw [zdP.2 hm, cond_true] at this
          cases ad with
          | false => simp at this
          | true => exact ⟨rfl, by simpa using this⟩
theorem zoA {wk : Nat -> Bool} {ops : List Oper} {o p : Oper} {f g : Eff} (h : zpo wk ops o p f g = false) : Free wk ops o p f g := by
  unfold zpo at h
  cases h1 : zlv f.dst g.dst with
  | true => simp [h1] at h
  | false =>
    simp only [h1, cond_false] at h
    cases h2 : zjY wk (isAd p) f g (Oper.slots ops p) with
    | true => simp [h2] at h
    | false =>
      simp only [h2, cond_false] at h
      obtain ⟨a1, a2, a3⟩ := zg2 h2
      obtain ⟨b1, b2, b3⟩ := zg2 h
      refine ⟨fun d hd hg => ?_, a1, b1, a2, b2, a3, b3⟩
      rw [hd, hg, zlv] at h1
      simp at h1
theorem zoB {ops : List Oper} {D : Nat -> Bool} (hcl : ∀ (j : Nat) (o : Oper), ops[j]? = some o -> D j = true -> ∀ e ∈ o.after.toList, Region.binds .any e = true -> D e.on = true) :
    ∀ (j : Nat) (o : Oper), ops[j]? = some o -> (∀ e ∈ o.after.toList, Region.binds .any e = true -> D e.on = true) -> ∀ i, ((befs [] ops).getD j 0).testBit i = true -> D i = true := by
  obtain ⟨r, h1, h2, h3⟩ := zg0 ops []
  simp only [List.nil_append, List.length_nil, Nat.zero_add] at h1 h3
  intro j
  induction j using Nat.strongRecOn with
  | _ j ih =>
    intro o ho hr i hi
    rw [h1] at hi
    obtain ⟨e, he, hb, h⟩ := h3 j o ho i hi
    rcases h with h | ⟨hlt, h⟩
    . rw [← h]; exact hr e he hb
    . have hD := hr e he hb
      have hop : ∃ p, ops[e.on]? = some p := by
        have hjl : j < ops.length := (List.getElem?_eq_some_iff.1 ho).1
        exact ⟨_, List.getElem?_eq_getElem (by omega)⟩
      obtain ⟨p, hp⟩ := hop
      exact ih e.on hlt p hp (hcl e.on p hp hD) i (by rw [h1]; exact h)
section
variable {env : Nat -> Option Sg} {ops : Array Oper} {s' : St} {fs : List Eff}
def don (l : Array Bool) (i : Nat) : Bool := l.getD i false
theorem zqa {l : Array Bool} {i j : Nat} (hi : i < l.size) : don (l.setIfInBounds i true) j = (decide (j = i) || don l j) := by
  unfold don
  by_cases h : j = i
  . subst h; simp [hi]
  . have : i ≠ j := fun e => h e.symm
    simp [h, Array.getElem?_setIfInBounds_ne this]
structure Setup (X : Ctx) (env : Nat -> Option Sg) (ops : Array Oper) (s : St) (fs : List Eff) (s' : St) : Prop where
  len : fs.length = ops.size
  fin : s' = apps s fs
  acts : ∀ (i : Nat) (o : Oper) (f : Eff), ops[i]? = some o -> fs[i]? = some f -> Acts X.pd env ops.toList o (apps s (fs.take i)) f /\ f.rd = rdOf (apps s (fs.take i)) o
  back : ∀ (i : Nat) (o : Oper), ops[i]? = some o -> ∀ e ∈ o.after, Region.binds .any e = true -> e.on < i
  news : ∀ f ∈ fs, anyN s.men f.new = false
  pair : ∀ (k m : Nat) (o : Oper) (f : Eff) (p : Oper) (g : Eff), k < m -> ops[k]? = some o -> fs[k]? = some f -> ops[m]? = some p -> fs[m]? = some g ->
    (((befs [] ops.toList).getD m 0).testBit k = true /\ anyN f.men g.new = false) \/ (((befs [] ops.toList).getD m 0).testBit k = false /\ Free (zi1 ops.toList s fs) ops.toList o p f g)
theorem ztM (hc : Chain X.pd env ops.toList ops.toList s fs s') (ho : zi3 ops.toList s fs = true) : Setup X env ops s fs s' := by
  obtain ⟨h1, h2, h3⟩ := hc.get
  unfold zi3 at ho
  cases ha : zgv 0 ops.toList with
  | false => simp [ha] at ho
  | true =>
    cases hn : zjZ s fs with
    | false => simp [ha, hn] at ho
    | true =>
      simp only [ha, hn, cond_true] at ho
      obtain ⟨r, b1, b2, _⟩ := zg0 ops.toList []
      simp only [List.nil_append] at b1
      refine ⟨by simpa using h1, h2, fun i o f hi hf => h3 i o f (by simpa using hi) hf, fun i o hi e he hb => ?_, zl5 hn, fun k m o f p g hkm hk hf hm hg => ?_⟩
      . have := zfS ha i o (by simpa using hi) e (by simpa using he) hb
        omega
      . have hml : m < ops.size := (Array.getElem?_eq_some_iff.1 hm).1
        have hb : (befs [] ops.toList)[m]? = some ((befs [] ops.toList).getD m 0) := by
          rw [b1, List.getD_eq_getElem?_getD, List.getElem?_eq_getElem (by rw [b2]; simpa using hml)]; rfl
        have := zih ho k m o f p g _ hkm (by simpa using hk) hf (by simpa using hm) hg hb
        rw [Nat.zero_add] at this
        exact this.imp id fun h => ⟨h.1, zoA h.2⟩
theorem zg3 {id : Nat} : ∀ {ops : List Oper} {fs : List Eff}, zgu id ops fs = true -> ∀ (j : Nat) (o : Oper) (f : Eff), ops[j]? = some o -> fs[j]? = some f -> id ∉ f.del /\ id ∉ f.new /\ (id ∈ keys f.put -> zd7 o = true)
  | [], _, _, j, o, f, h, _ => by simp at h
  | _ :: _, [], _, j, o, f, _, h => by simp at h
  | o0 :: os, f0 :: fs, h, j, o, f, h1, h2 => by
    unfold zgu at h
    cases h3 : memN id (f0.del ++ f0.new) with
    | true => simp [h3] at h
    | false =>
      simp only [h3, cond_false] at h
      have h4 : id ∉ f0.del ++ f0.new := fun hm => by rw [zdP.2 hm] at h3; cases h3
      simp only [List.mem_append, not_or] at h4
      have h5 : (id ∈ keys f0.put -> zd7 o0 = true) /\ zgu id os fs = true := by
        cases h6 : memN id (keys f0.put) with
        | true =>
          simp only [h6, cond_true] at h
          obtain ⟨h7, h8⟩ := Bool.and_eq_true_iff.1 (show (zd7 o0 && zgu id os fs) = true by cases hb : zd7 o0 <;> simp [hb] at h ⊢; exact h)
          exact ⟨fun _ => h7, h8⟩
        | false =>
          simp only [h6, cond_false] at h
          exact ⟨fun hm => (by rw [zdP.2 hm] at h6; cases h6), h⟩
      cases j with
      | zero => simp at h1 h2; subst h1; subst h2; exact ⟨h4.1, h4.2, h5.1⟩
      | succ j => exact zg3 h5.2 j o f (by simpa using h1) (by simpa using h2)
theorem zqb {pd : PD} {env : Nat -> Option Sg} {o : Oper} {s : St} {f : Eff} {id : Nat} (hst : zd7 o = true) (h : opK pd env o s some = some f) (hid : id ∈ keys f.put) :
    ∃ y o', s.get id = some y /\ f.put = [(id, ⟨y.row, y.n, y.ty, o'⟩)] /\ ShO y.row y.o o' := by
  cases ho : o.op with
  | store t a x =>
    simp only [zau, opK1, ho] at h
    split at h
    . rename_i id' i sub u hc hu
      split at h
      . rename_i y hy
        split at h
        . rename_i g o' hw
          obtain ⟨hsol, hw⟩ := zaa hw
          obtain ⟨hg, h2⟩ := zaa h
          subst hg
          simp only [oi1] at h2
          subst h2
          simp only [keys, List.mem_cons, List.not_mem_nil, or_false] at hid
          subst hid
          exact ⟨y, o', hy, rfl, zoy hw⟩
        . cases h
      . cases h
    . cases h
  | _ => simp [zd7, ho] at hst
theorem Setup.kept {env : Nat -> Option Sg} {ops : Array Oper} {s' : St} {fs : List Eff} (hS : Setup X env ops s fs s') {id : Nat} (hk : zi1 ops.toList s fs id = true) :
    ∃ x0, s.get id = some x0 /\ ∀ D : Nat -> Bool, ∃ x, (apps s (sel D 0 fs)).get id = some x /\ Sh x0 x := by
  unfold zi1 at hk
  split at hk
  case h_2 => cases hk
  rename_i x0 hx0
  have key : ∀ (f : Eff), ((∀ z, getA f id z = z) \/ ∃ y, (∀ z, getA f id z = some y) /\ Sh x0 y) -> ∀ z x, z = some x -> Sh x0 x -> ∃ y, getA f id z = some y /\ Sh x0 y := by
    intro f hf z x hz hx
    rcases hf with h | ⟨y, h1, h2⟩
    . exact ⟨x, by rw [h, hz], hx⟩
    . exact ⟨y, h1 z, h2⟩
  have both : ∀ j, (∃ x, (apps s (fs.take j)).get id = some x /\ Sh x0 x) /\ ∀ f, fs[j]? = some f -> ((∀ z, getA f id z = z) \/ ∃ y, (∀ z, getA f id z = some y) /\ Sh x0 y) := by
    have one : ∀ j, (∃ x, (apps s (fs.take j)).get id = some x /\ Sh x0 x) -> ∀ f, fs[j]? = some f -> ((∀ z, getA f id z = z) \/ ∃ y, (∀ z, getA f id z = some y) /\ Sh x0 y) := by
      intro j ⟨x, hx, hsx⟩ f hf
      have hjl : j < ops.size := by rw [← hS.len]; exact (List.getElem?_eq_some_iff.1 hf).1
      obtain ⟨o, ho⟩ : ∃ o, ops[j]? = some o := ⟨_, Array.getElem?_eq_getElem hjl⟩
      obtain ⟨h1, h2, h3⟩ := zg3 hk j o f (by simpa using ho) hf
      by_cases hput : id ∈ keys f.put
      . right
        cases (hS.acts j o f ho hf).1 with
        | run f0 _ hk0 hc =>
          have hp : f.put = f0.put := show f.core.put = f0.core.put from congrArg Eff.put hc
          obtain ⟨y, o', hy, hp2, hsh⟩ := zqb (h3 hput) hk0 (hp ▸ hput)
          rw [hx] at hy
          cases hy
          have hsy : Sh x0 ⟨x.row, x.n, x.ty, o'⟩ := hsx.trans ⟨rfl, rfl, rfl, hsh⟩
          refine ⟨_, fun z => ?_, hsy⟩
          rw [zgZ (.inl hput) z none]
          unfold getA
          rw [if_neg h1, hp, hp2]
          simp [zdZ]
        | skip _ hc =>
          have hp : f.put = [] := show f.core.put = (Eff.none o).put from congrArg Eff.put hc
          rw [hp] at hput
          cases hput
      . exact .inl fun z => zl4 hput h1 z
    intro j
    induction j with
    | zero =>
      have h0 : ∃ x, (apps s (fs.take 0)).get id = some x /\ Sh x0 x := ⟨x0, by rw [List.take_zero]; exact hx0, Sh.refl _⟩
      exact ⟨h0, one 0 h0⟩
    | succ j ih =>
      have h0 : ∃ x, (apps s (fs.take (j + 1))).get id = some x /\ Sh x0 x := by
        obtain ⟨⟨x, hx, hs⟩, h⟩ := ih
        cases hf : fs[j]? with
        | none =>
          have : fs.length <= j := by simpa using hf
          rw [List.take_of_length_le (by omega)]
          rw [List.take_of_length_le (by omega)] at hx
          exact ⟨x, hx, hs⟩
        | some f =>
          rw [List.take_add_one, hf, zl3, Option.toList_some, zc4]
          show ∃ x, (f.app (apps s (fs.take j))).get id = some x /\ Sh x0 x
          rw [zl2]
          exact key f (h f hf) _ x hx hs
      exact ⟨h0, one (j + 1) h0⟩
  refine ⟨x0, hx0, fun D => ?_⟩
  have fold : ∀ (l : List Eff), (∀ f ∈ l, ((∀ z, getA f id z = z) \/ ∃ y, (∀ z, getA f id z = some y) /\ Sh x0 y)) -> ∀ z x, z = some x -> Sh x0 x -> ∃ y, l.foldl (fun x f => getA f id x) z = some y /\ Sh x0 y := by
    intro l
    induction l with
    | nil => intro _ z x hz hx; exact ⟨x, hz, hx⟩
    | cons f l ih =>
      intro h z x hz hx
      obtain ⟨y, hy, hsy⟩ := key f (h f (by simp)) z x hz hx
      rw [List.foldl_cons]
      exact ih (fun g hg => h g (by simp [hg])) _ y hy hsy
  rw [zeO]
  refine fold _ (fun f hf => ?_) _ x0 hx0 (Sh.refl _)
  obtain ⟨j, hj, _⟩ := zjs hf
  exact (both j).2 f hj
variable (hp : PDok X.P X.pd) (henv : ∀ f g, env f = some g -> SgOK X.P X.pd.els f g) (hS : Setup X env ops s fs s') {l : Array Bool} (hsz : l.size = ops.size)
  (hcl : ∀ (j : Nat) (o : Oper), ops.toList[j]? = some o -> don l j = true -> ∀ e ∈ o.after.toList, Region.binds .any e = true -> don l e.on = true)
include hS hsz hcl
omit hsz in
theorem zl6 {i : Nat} {o : Oper} {f : Eff} (hi : ops[i]? = some o) (hf : fs[i]? = some f) (hnd : don l i = false) (hr : ∀ e ∈ o.after.toList, Region.binds .any e = true -> don l e.on = true)
    {j : Nat} {p : Oper} {g : Eff} (hj : ops[j]? = some p) (hg : fs[j]? = some g) (h : (j < i /\ don l j = false) \/ (i < j /\ don l j = true)) : Free (zi1 ops.toList s fs) ops.toList p o g f := by
  have hcl' := zoB hcl
  rcases h with ⟨h1, h2⟩ | ⟨h1, h2⟩
  . rcases hS.pair j i p g o f h1 hj hg hi hf with ⟨h3, _⟩ | ⟨_, h3⟩
    . have := hcl' i o (by simpa using hi) hr j h3
      rw [h2] at this; cases this
    . exact h3
  . rcases hS.pair i j o f p g h1 hi hf hj hg with ⟨h3, _⟩ | ⟨_, h3⟩
    . have := hcl' j p (by simpa using hj) (hcl j p (by simpa using hj) h2) i h3
      rw [hnd] at this; cases this
    . exact h3.symm
omit hsz in
theorem ztN {i : Nat} {o : Oper} {f : Eff} (hi : ops[i]? = some o) (hf : fs[i]? = some f) (hnd : don l i = false) (hr : ∀ e ∈ o.after.toList, Region.binds .any e = true -> don l e.on = true) :
    Acts X.pd env ops.toList o (apps s (sel (don l) 0 fs)) f /\ anyN (apps s (sel (don l) 0 fs)).men f.new = false := by
  obtain ⟨h1, h2⟩ := hS.acts i o f hi hf
  have htake : fs.take i = sel (fun j => decide (j < i)) 0 fs := by
    rw [← zgj fs 0 i]; simp
  have get : ∀ j g, fs[j]? = some g -> ∃ p, ops[j]? = some p := fun j g hg => by
    have : j < fs.length := (List.getElem?_eq_some_iff.1 hg).1
    exact ⟨_, Array.getElem?_eq_getElem (by rw [← hS.len]; exact this)⟩
  have differ : ∀ j g, fs[j]? = some g -> don l (0 + j) ≠ decide (0 + j < i) -> Free (zi1 ops.toList s fs) ops.toList (ops[j]?.getD o) o g f := by
    intro j g hg hne
    rw [Nat.zero_add] at hne
    obtain ⟨p, hp⟩ := get j g hg
    rw [hp, Option.getD_some]
    have hji : j ≠ i := fun e => by subst e; simp [hnd] at hne
    refine zl6 hS hcl hi hf hnd hr hp hg ?_
    rcases Nat.lt_or_ge j i with hlt | hge
    . left; refine ⟨hlt, ?_⟩
      cases hd : don l j with
      | false => rfl
      | true => simp [hd, hlt] at hne
    . right; refine ⟨by omega, ?_⟩
      cases hd : don l j with
      | true => rfl
      | false => simp [hd, hge] at hne
  have hslot : ∀ t ∈ Oper.slots ops.toList o, (apps s (sel (don l) 0 fs)).tm.getD t .dead = (apps s (fs.take i)).tm.getD t .dead := by
    intro t ht
    rw [htake]
    by_cases hlt : t < s.tm.length
    . rw [zeN _ _ _ hlt, zeN _ _ _ hlt]
      refine zeP (fun f v => zeM f t v) _ _ fs 0 _ fun j g hg hne y => ?_
      unfold zeM
      rw [if_neg (fun hd => (differ j g hg hne).s1 t hd ht)]
    . rw [List.getD_eq_getElem?_getD, List.getD_eq_getElem?_getD, List.getElem?_eq_none (by rw [zdo]; omega), List.getElem?_eq_none (by rw [zdo]; omega)]
  have hgets : ∀ id, id ∈ f.rd -> ¬ (isAd o = true /\ zi1 ops.toList s fs id = true) -> (apps s (sel (don l) 0 fs)).get id = (apps s (fs.take i)).get id := by
    intro id hid hno
    rw [htake, zeO, zeO]
    refine zeP (fun f x => getA f id x) _ _ fs 0 _ fun j g hg hne y => ?_
    exact zfq (fun hw => hno (((differ j g hg hne).w1 id hw).2 hid)) y
  refine ⟨?_, ?_⟩
  . cases had : isAd o with
    | false => exact h1.same hslot fun id hid => hgets id (by rw [h2]; exact hid) (fun h => by rw [had] at h; cases h.1)
    | true =>
      refine h1.sameAd had hslot fun id hid => ?_
      by_cases hk : zi1 ops.toList s fs id = true
      . right
        obtain ⟨x0, _, hx⟩ := hS.kept hk
        obtain ⟨x, hx1, hx2⟩ := hx (fun j => decide (j < i))
        obtain ⟨y, hy1, hy2⟩ := hx (don l)
        exact ⟨x, y, by rw [htake]; exact hx1, hy1, hx2.symm.trans hy2⟩
      . left
        exact hgets id (by rw [h2]; exact hid) (fun h => hk h.2)
  . rw [zcA]
    intro id hid
    refine ztL (zcA.1 (hS.news f (List.mem_of_getElem? hf)) id hid) fun g hg => ?_
    obtain ⟨j, hj, hd⟩ := zjs hg
    rw [Nat.zero_add] at hd
    obtain ⟨p, hp⟩ := get j g hj
    have hji : j ≠ i := fun e => by subst e; rw [hnd] at hd; cases hd
    rcases Nat.lt_or_ge j i with hlt | hge
    . rcases hS.pair j i p g o f hlt hp hj hi hf with ⟨_, h3⟩ | ⟨_, h3⟩
      . exact zcA.1 h3 id hid
      . exact zcA.1 h3.n2 id hid
    . exact zcA.1 (zl6 hS hcl hi hf hnd hr hp hj (.inr ⟨by omega, hd⟩)).n2 id hid
theorem Sim.step {i : Nat} {o : Oper} {f : Eff} (hi : ops[i]? = some o) (hf : fs[i]? = some f) (hnd : don l i = false) (hr : ∀ e ∈ o.after.toList, Region.binds .any e = true -> don l e.on = true)
    (h : Sim X ρ (f.app (apps s (sel (don l) 0 fs))) a w) : Sim X ρ (apps s (sel (don (l.setIfInBounds i true)) 0 fs)) a w := by
  have hil : i < l.size := by rw [hsz]; exact (Array.getElem?_eq_some_iff.1 hi).1
  have hset : ∀ j, don (l.setIfInBounds i true) j = (decide (j = i) || don l j) := fun j => zqa hil
  have get : ∀ j g, fs[j]? = some g -> ∃ p, ops[j]? = some p := fun j g hg => by
    have : j < fs.length := (List.getElem?_eq_some_iff.1 hg).1
    exact ⟨_, Array.getElem?_eq_getElem (by rw [← hS.len]; exact this)⟩
  have later : ∀ j g, i < j -> fs[j]? = some g -> don (l.setIfInBounds i true) (0 + j) = true -> ∃ p, Free (zi1 ops.toList s fs) ops.toList p o g f := by
    intro j g hij hg hd
    rw [Nat.zero_add, hset] at hd
    obtain ⟨p, hp⟩ := get j g hg
    have hji : j ≠ i := by omega
    exact ⟨p, zl6 hS hcl hi hf hnd hr hp hg (.inr ⟨hij, by simpa [hji] using hd⟩)⟩
  have differ : ∀ j g, fs[j]? = some g -> don (l.setIfInBounds i true) (0 + j) ≠ don l (0 + j) -> g = f := by
    intro j g hg hne
    rw [Nat.zero_add, hset] at hne
    by_cases hji : j = i
    . subst hji; rw [hf] at hg; cases hg; rfl
    . simp [hji] at hne
  refine h.same ?_ fun id => ?_
  . apply List.ext_getElem?
    intro t
    by_cases hlt : t < s.tm.length
    . have e1 : ∀ l : List V, l.length = s.tm.length -> l[t]? = some (l.getD t .dead) := fun l hl => by
        rw [List.getD_eq_getElem?_getD, List.getElem?_eq_getElem (by omega)]; rfl
      rw [e1 _ (zdo _ _), e1 _ (by rw [zjq, zdo]), znA _ _ _ (by rw [zdo]; exact hlt), zeN _ _ _ hlt, zeN _ _ _ hlt]
      congr 1
      by_cases hd : f.dst = some t
      . rw [show zeM f t _ = f.v from by unfold zeM; rw [if_pos hd]]
        refine zjr (fun f v => zeM f t v) _ f.v fs 0 i _ f hf (by rw [Nat.zero_add, hset]; simp) (fun y => by simp only [zeM]; rw [if_pos hd]) (fun j g hij hg hdj y => ?_)
        obtain ⟨p, hfr⟩ := later j g hij hg hdj
        simp only [zeM]
        rw [if_neg (fun hgd => hfr.dst t hgd hd)]
      . rw [show ∀ v, zeM f t v = v from fun v => by unfold zeM; rw [if_neg hd]]
        refine zeP (fun f v => zeM f t v) _ _ fs 0 _ fun j g hg hne y => ?_
        rw [differ j g hg hne]
        simp only [zeM]; rw [if_neg hd]
    . rw [List.getElem?_eq_none (by rw [zdo]; omega), List.getElem?_eq_none (by rw [zjq, zdo]; omega)]
  . rw [zl2, zeO, zeO]
    by_cases ht : id ∈ keys f.put \/ id ∈ f.del
    . have hw : id ∈ f.writes := by
        unfold Eff.writes
        rcases ht with h | h
        . exact List.mem_append_left _ h
        . exact List.mem_append_right _ (List.mem_append_left _ h)
      refine zjr (fun f x => getA f id x) _ _ fs 0 i _ f hf (by rw [Nat.zero_add, hset]; simp) (fun y => zgZ ht _ _) (fun j g hij hg hdj y => ?_)
      obtain ⟨p, hfr⟩ := later j g hij hg hdj
      exact zfq (fun hgw => (hfr.w1 id hgw).1 hw) y
    . simp only [not_or] at ht
      rw [zl4 ht.1 ht.2]
      refine zeP (fun f x => getA f id x) _ _ fs 0 _ fun j g hg hne y => ?_
      rw [differ j g hg hne]
      exact zl4 ht.1 ht.2 y
end
theorem zoC (hp : PDok X.P X.pd) {env : Nat -> Option Sg} (henv : ∀ f g, env f = some g -> SgOK X.P X.pd.els f g) {ops : Array Oper} {s' : St} {fs : List Eff} (hS : Setup X env ops s fs s') {Q : Exit -> Act -> World -> Prop} (hQ : ∀ ρ' a' w', Sim X ρ' s' a' w' -> Q .normal a' w') :
    ∀ (fuel : Nat) (l : Array Bool) (ρ : Nat -> RI) (a : Act) (w : World), l.size = ops.size -> (∀ (j : Nat) (o : Oper), ops.toList[j]? = some o -> don l j = true -> ∀ e ∈ o.after.toList, Region.binds .any e = true -> don l e.on = true) -> l.toList.count false <= fuel ->
      Sim X ρ (apps s (sel (don l) 0 fs)) a w -> wpAny X.P .any ops Q fuel l a w := by
  have all : ∀ (l : Array Bool), l.size = ops.size -> (∀ i, i < ops.size -> don l i = true) -> apps s (sel (don l) 0 fs) = s' := by
    intro l hl hd
    rw [hS.fin]
    have : sel (don l) 0 fs = fs.take fs.length := by
      rw [← zgj fs 0 fs.length]
      have : ∀ (l' : List Eff) (i : Nat), i + l'.length = fs.length -> sel (don l) i l' = sel (fun j => decide (j < 0 + fs.length)) i l' := by
        intro l'
        induction l' with
        | nil => intro i _; rfl
        | cons f l' ih =>
          intro i hi
          simp only [List.length_cons] at hi
          unfold sel
          rw [hd i (by rw [← hS.len]; omega), ih (i + 1) (by omega), if_pos rfl, if_pos (by simp; omega)]
      exact this fs 0 (by omega)
    rw [this, List.take_length]
  have some_ready : ∀ (l : Array Bool), l.size = ops.size -> Region.ready .any ops l = [] -> ∀ i, i < ops.size -> don l i = true := by
    intro l hl hr i
    induction i using Nat.strongRecOn with
    | _ i ih =>
      intro hi
      cases hd : don l i with
      | true => rfl
      | false =>
        exfalso
        have : i ∈ Region.ready .any ops l := by
          rw [mem_ready]
          refine ⟨?_, ops[i], Array.getElem?_eq_getElem hi, fun e he hb => ?_⟩
          . unfold don at hd
            have : i < l.size := by omega
            simp [this] at hd ⊢; exact hd
          . have := hS.back i ops[i] (Array.getElem?_eq_getElem hi) e he hb
            exact ih e.on this (by omega)
        rw [hr] at this; cases this
  intro fuel
  induction fuel with
  | zero =>
    intro l ρ a w hl hcl hcnt h
    have hd : ∀ i, i < ops.size -> don l i = true := by
      intro i hi
      have hil : i < l.size := by omega
      have h0 : l.toList.count false = 0 := by omega
      have := List.count_eq_zero.1 h0
      unfold don
      cases hv : l[i] with
      | true => simp [hil, hv]
      | false => exact absurd (by rw [← hv]; exact Array.getElem_mem_toList hil) this
    refine ⟨?_, hQ ρ a w (by rw [← all l hl hd]; exact h)⟩
    apply List.eq_nil_iff_forall_not_mem.2
    intro i hi
    rw [mem_ready] at hi
    obtain ⟨h1, o, ho, _⟩ := hi
    have hil : i < ops.size := (Array.getElem?_eq_some_iff.1 ho).1
    have := hd i hil
    unfold don at this
    have hil2 : i < l.size := by omega
    simp [hil2] at this h1
    rw [this] at h1; cases h1
  | succ fuel ih =>
    intro l ρ a w hl hcl hcnt h
    refine ⟨fun hr => hQ ρ a w (by rw [← all l hl (some_ready l hl hr)]; exact h), fun i hi => ?_⟩
    rw [mem_ready] at hi
    obtain ⟨h1, o, ho, hr⟩ := hi
    have hil : i < ops.size := (Array.getElem?_eq_some_iff.1 ho).1
    have hil2 : i < l.size := by omega
    have hnd : don l i = false := by unfold don; simp [hil2] at h1 ⊢; exact h1
    have hr' : ∀ e ∈ o.after.toList, Region.binds .any e = true -> don l e.on = true := fun e he hb => hr e (by simpa using he) hb
    have hfl : i < fs.length := by rw [hS.len]; exact hil
    have hf : fs[i]? = some fs[i] := List.getElem?_eq_getElem hfl
    obtain ⟨hact, hnew⟩ := ztN hS hcl ho hf hnd hr'
    refine hact.wpOp hp henv ho h hnew fun ρ' a' w' h' => ?_
    refine ih _ ρ' a' w' (by simpa using hl) (fun j p hj hd e he hb => ?_) ?_ (Sim.step hS hl hcl ho hf hnd hr' h')
    . rw [zqa hil2] at hd ⊢
      by_cases hji : j = i
      . subst hji
        rw [show p = o from by rw [Array.getElem?_toList, ho] at hj; cases hj; rfl] at he
        rw [hr' e he hb]; simp
      . rw [hcl j p hj (by simpa [hji] using hd) e he hb]; simp
    . have hli : l.toList[i]? = some false := by
        rw [Array.getElem?_toList, Array.getElem?_eq_getElem hil2]
        unfold don at hnd
        simp [hil2] at hnd
        rw [hnd]
      have : (l.setIfInBounds i true).toList.count false + 1 <= l.toList.count false := by
        rw [Array.toList_setIfInBounds, List.count_set (by simpa using hil2)]
        have h2 : l.toList[i]'(by simpa using hil2) = false := by
          rw [List.getElem?_eq_getElem (by simpa using hil2)] at hli
          simpa using hli
        have h3 : 0 < l.toList.count false := List.count_pos_iff.2 (by rw [← h2]; exact List.getElem_mem _)
        rw [h2]
        simp only [beq_self_eq_true, if_true, Bool.true_eq_false, beq_iff_eq, if_false]
        omega
      omega
theorem zwH (hp : PDok X.P X.pd) {env : Nat -> Option Sg} (henv : ∀ f g, env f = some g -> SgOK X.P X.pd.els f g) {ops : Array Oper} {s' : St} {fs : List Eff} (hc : Chain X.pd env ops.toList ops.toList s fs s') (ho : zi3 ops.toList s fs = true)
    {Q : Exit -> Act -> World -> Prop} (hQ : ∀ ρ' a' w', Sim X ρ' s' a' w' -> Q .normal a' w') (h : Sim X ρ s a w) (id : Nat) : (Code.region id ops true).wp X.P Q a w := by
  refine wp_region_any hp.mix ?_
  have h0 : ∀ j, don (Array.replicate ops.size false) j = false := fun j => by
    unfold don
    by_cases hj : j < ops.size <;> simp [hj]
  have hs0 : ∀ (l : List Eff) (i : Nat), sel (don (Array.replicate ops.size false)) i l = [] := by
    intro l
    induction l with
    | nil => intro i; rfl
    | cons f l ih => intro i; unfold sel; rw [h0, if_neg (by simp)]; exact ih _
  refine zoC hp henv (ztM hc ho) hQ ops.size _ ρ a _ (by simp) (fun j o _ hd => by rw [h0] at hd; cases hd) (by simp) ?_
  rw [hs0]
  exact h.world (fun _ _ _ _ => rfl) ⟨h.fr.os, h.fr.tape, h.fr.output, h.fr.size, h.fr.block⟩
end
end Go.Proofs.Ytgimohchocjgcaa.V
