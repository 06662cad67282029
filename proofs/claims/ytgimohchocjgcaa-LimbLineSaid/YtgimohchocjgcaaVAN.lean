/- Functions: whatever the evaluator says of a function holds of its calls. -/
import Derived.Test.YtgimohchocjgcaaVAM
set_option linter.unusedVariables false
set_option linter.unusedSimpArgs false
namespace Go.Proofs.Ytgimohchocjgcaa.V

variable {X : Ctx} {ρ : Nat → RI} {s : St} {a : Act} {w : World} {R : Type} {env : Nat → Option Sg} {ret : St → Option R} {r : R}

/-! ### The beginning -/

theorem HoldsL_RCs {ok : Nat → Prop} (hok : ∀ b, ok b → X.ok b) {l : List C} {vs : List Value} (h : HoldsL X.w0 ok l vs) : RCs X ρ l vs := by
  induction l generalizing vs with
  | nil => cases vs with
    | nil => trivial
    | cons _ _ => exact h.elim
  | cons c l ih => cases vs with
    | nil => exact h.elim
    | cons v vs => exact ⟨RC_of_Holds (h.1.mono fun b hb => ⟨hok b hb, rfl⟩), ih h.2⟩

theorem HoldsU_RU {ok : Nat → Prop} (hok : ∀ b, ok b → X.ok b) {u : U} {v : Value} (h : HoldsU X.w0 ok u v) : RU X ρ u v := by
  cases u with
  | c x => exact RC_of_Holds (h.mono fun b hb => ⟨hok b hb, rfl⟩)
  | agg l => obtain ⟨vs, h1, h2⟩ := h; exact ⟨vs, h1, HoldsL_RCs hok h2⟩
  | vec e l => obtain ⟨vs, h1, h2⟩ := h; exact ⟨vs, h1, HoldsL_RCs hok h2⟩
  | box l => exact h

theorem HoldsUs_get {w : World} {ok : Nat → Prop} {us : List U} {vs : List Value} (h : HoldsUs w ok us vs) : us.length = vs.length ∧ ∀ (j : Nat) (u : U), us[j]? = some u → ∃ v, vs[j]? = some v ∧ HoldsU w ok u v := by
  induction us generalizing vs with
  | nil => cases vs with
    | nil => exact ⟨rfl, fun j u h => by simp at h⟩
    | cons _ _ => exact h.elim
  | cons u us ih => cases vs with
    | nil => exact h.elim
    | cons v vs =>
      obtain ⟨h1, h2⟩ := ih h.2
      refine ⟨by simp [h1], fun j x hx => ?_⟩
      cases j with
      | zero => simp at hx; subst hx; exact ⟨v, by simp, h.1⟩
      | succ j => simpa using h2 j x (by simpa using hx)

theorem sim_start {P : Program} {pd : PD} {w : World} {ok : Nat → Prop} (hok : ∀ b, ok b → b < w.heap.size) {us : List U} {vs : List Value} (h : HoldsUs w ok us vs) (n : Nat) :
    Sim ⟨P, pd, w, fun _ => False, fun _ => (0, 0, 0, 0)⟩ (fun _ => ⟨0, undef, 0, 0⟩) ⟨us.map .u ++ List.replicate (n - us.length) .dead, []⟩ { tmps := vs.toArray ++ Array.replicate (n - vs.toArray.size) undef, defers := [] } w := by
  obtain ⟨hl, hg⟩ := HoldsUs_get h
  refine ⟨fun t v hv => ?_, by simp [hl], rfl, fun id x hx => (by cases hx), fun i j x y hx => (by cases hx), fun id x hx => (by cases hx), ⟨rfl, rfl, rfl, Nat.le_refl _, fun _ _ _ => rfl⟩⟩
  simp only [List.getElem?_append, List.length_map] at hv
  split at hv
  · rename_i hlt
    rw [List.getElem?_map] at hv
    obtain ⟨u, hu, rfl⟩ := Option.map_eq_some_iff.1 hv
    obtain ⟨z, hz, hh⟩ := hg t u hu
    have e1 : (vs.toArray ++ Array.replicate (n - vs.toArray.size) undef).getD t undef = z := by
      have hlt' : t < vs.length := by omega
      rw [List.getElem?_eq_getElem hlt'] at hz
      cases hz
      simp [Array.getElem_append, hlt', Nat.lt_add_right _ hlt']
    rw [e1]
    exact HoldsU_RU (X := ⟨P, pd, w, fun _ => False, fun _ => (0, 0, 0, 0)⟩) (fun b hb => ⟨hok b hb, fun h => h⟩) hh
  · obtain ⟨_, rfl⟩ := List.getElem?_eq_some_iff.1 hv
    simp [RV]

/-! ### The end -/

theorem rsUsK_ok (h : Sim X ρ s a w) : ∀ (us : List U) (vs : List Value) (k : List U → Option R), rsUsK X.pd s us k = some r → RUs X ρ us vs → (idUs us).Nodup →
    ∃ ds cs gs, k ds = some r ∧ Split ds vs cs ∧ OwnL X.pd.els w (fun b => X.w0.heap.size ≤ b ∨ X.may b) (cellsOf ds) cs gs ∧ Blks ρ s (idUs us) gs
  | [], vs, k, hk, hv, _ => by
    cases vs with
    | nil => exact ⟨[], [], [], hk, .nil, .nil, fun g hg => (by cases hg)⟩
    | cons _ _ => exact hv.elim
  | u :: us, vs, k, hk, hv, hnd => by
    cases vs with
    | nil => exact hv.elim
    | cons v vs =>
      unfold rsUsK at hk
      simp only [idUs, List.nodup_append] at hnd
      obtain ⟨n1, n2, n3⟩ := hnd
      have join : ∀ {g1 gs : List Nat}, Blks ρ s u.ids g1 → Blks ρ s (idUs us) gs → Blks ρ s (idUs (u :: us)) (g1 ++ gs) := by
        intro g1 gs b1 b2 g hg
        rcases List.mem_append.1 hg with hg | hg
        · obtain ⟨i, hi, hr⟩ := b1 g hg; exact ⟨i, List.mem_append_left _ hi, hr⟩
        · obtain ⟨i, hi, hr⟩ := b2 g hg; exact ⟨i, List.mem_append_right _ hi, hr⟩
      cases u with
      | c x =>
        have hk' : (match rsC X.pd s x with
          | some (g, y) => must g (rsUsK X.pd s us fun r => k (.c y :: r))
          | none => none) = some r := hk
        split at hk'
        · rename_i g y hy
          obtain ⟨hg, hk'⟩ := must_true hk'
          subst hg
          obtain ⟨ds, cs, gs, k1, k2, k3, k4⟩ := rsUsK_ok h us vs _ hk' hv.2 n2
          obtain ⟨g1, o1, b1⟩ := rsC_ok h hy hv.1
          exact ⟨.c y :: ds, v :: cs, g1 ++ gs, k1, .c k2, OwnL_append o1 k3 (Blks.apart h b1 k4 fun i hi hj => n3 i hi i hj rfl), join b1 k4⟩
        · cases hk'
      | agg l =>
        obtain ⟨xs, rfl, hx⟩ := hv.1
        obtain ⟨d, g1, k0, o1, b1, hlen⟩ := rsCsK_ok h l xs.toList (fun r => rsUsK X.pd s us fun q => k (.agg r :: q)) hk hx n1
        obtain ⟨ds, cs, gs, k1, k2, k3, k4⟩ := rsUsK_ok h us vs _ k0 hv.2 n2
        exact ⟨.agg d :: ds, xs.toList ++ cs, g1 ++ gs, k1, .agg (by rw [hlen, RCs_length hx]) k2, OwnL_append o1 k3 (Blks.apart h b1 k4 fun i hi hj => n3 i hi i hj rfl), join b1 k4⟩
      | vec e l =>
        obtain ⟨xs, rfl, hx⟩ := hv.1
        obtain ⟨ds, cs, gs, k1, k2, k3, k4⟩ := rsUsK_ok h us vs (fun q => k (.vec e l :: q)) hk hv.2 n2
        refine ⟨.vec e l :: ds, xs.toList ++ cs, gs, k1, .vec (RCs_length hx) k2, ?_, join (g1 := []) (fun g hg => (by cases hg)) k4⟩
        have : ∀ (l : List C) (vs : List Value), Vals l vs → OwnL X.pd.els w (fun b => X.w0.heap.size ≤ b ∨ X.may b) (l ++ cellsOf ds) (vs ++ cs) gs := by
          intro l
          induction l with
          | nil => intro vs h; cases vs with
            | nil => exact k3
            | cons _ _ => exact h.elim
          | cons c l ih => intro vs h; cases vs with
            | nil => exact h.elim
            | cons v vs => exact .sc h.1 (ih vs h.2)
        exact this _ _ (Vals_flat hx)
      | box l => exact hv.1.elim

def resM (a : Act) : ResultVar → Sem Value
  | .tmp t => pure (a.tmps.getD t undef)
  | .cell b t => do loadVar t (← asAddr (a.tmps.getD b undef))

theorem endV_ok (hp : PDok X.P X.pd) (h : Sim X ρ s a w) : ∀ (l : List ResultVar) (us : List U), endV X.pd s l = some us →
    ∃ vs : List Value, RUs X ρ us vs ∧ (l.mapM (resM a)).run X.P w = .ok vs w
  | [], us, he => by
    simp only [endV, Option.some.injEq] at he
    subst he
    exact ⟨[], trivial, by simp⟩
  | x :: l, us, he => by
    unfold endV at he
    split at he
    · rename_i u hu
      split at he
      · rename_i us' hus
        simp only [Option.some.injEq] at he
        subst he
        obtain ⟨vs, h1, h2⟩ := endV_ok hp h l us' hus
        cases x with
        | tmp t =>
          simp only at hu
          split at hu
          · rename_i u' hs
            simp only [Option.some.injEq] at hu
            subst hu
            have hv := h.eval t
            rw [hs] at hv
            refine ⟨a.eval (.tmp t) :: vs, ⟨hv, h1⟩, ?_⟩
            rw [List.mapM_cons]
            simp only [resM, Sem.run_bind, Sem.run_pure, Result.andThen_ok, h2]
            rfl
          · cases hu
        | cell b t =>
          simp only at hu
          split at hu
          · rename_i id i sub hs
            split at hu
            · rename_i y hy
              split at hu
              · rename_i g u' hr
                obtain ⟨hg, hu'⟩ := cond_some hu
                subst hg
                cases hu'
                have hv := h.eval b
                rw [hs] at hv
                obtain ⟨hi, hsub, hv⟩ := hv
                have hv' : a.tmps.getD b undef = .pointer (some ⟨(ρ id).blk, i * (ρ id).sz + sub, none⟩) := hv
                cases hti : X.pd.ti t with
                | none =>
                  exfalso
                  unfold readOb at hr
                  split at hr
                  · simp [hti] at hr
                  · unfold readVec at hr; simp [hti] at hr
                | some ti =>
                  have hro := h.ob id y hy
                  obtain ⟨r1, r2⟩ := readOb_ok hp hti hr hro hi hsub
                  have hTI := hp.ti t ti hti
                  have fin : ∀ cs : List Value, cs.length = ti.size → (∀ j v, cs[j]? = some v → w.cell? ⟨(ρ id).blk, i * (ρ id).sz + sub + j, none⟩ = some v) → RU X ρ u (valOf ti.k.agg cs) →
                      ∃ vs' : List Value, RUs X ρ (u :: us') vs' ∧ ((ResultVar.cell b t :: l).mapM (resM a)).run X.P w = .ok vs' w := by
                    intro cs c1 c2 c3
                    have hrun := run_load hTI w (ρ id).blk (i * (ρ id).sz + sub) cs c1 c2
                    refine ⟨valOf ti.k.agg cs :: vs, ⟨c3, h1⟩, ?_⟩
                    rw [List.mapM_cons]
                    simp only [resM, hv', asAddr, Sem.run_bind, Sem.run_pure, Result.andThen_ok, hrun, h2]
                  rcases Nat.eq_zero_or_pos ti.size with hz | hz
                  · exact fin [] (by simp [hz]) (by simp) (r2 [] (by rw [hz, List.take_zero]; trivial))
                  · obtain ⟨cs, c1, c2, c3⟩ := hro.cell r1 hz
                    exact fin cs c2 c3 (r2 cs c1)
              · cases hu
            · cases hu
          · cases hu
      · cases he
    · cases he

/-- Results, as their caller takes them. -/
def resOf : List U → V
  | [u] => .u u
  | l => .tup l

theorem finish_ok (hp : PDok X.P X.pd) (h : Sim X ρ s a w) (fn : Func) (prj : List U → Option R) (he : finish X.pd fn prj s = some r) :
    ∃ rs v, prj rs = some r ∧ (results fn a.tmps).run X.P w = .ok v w ∧ OwnV X.pd.els w (fun b => X.w0.heap.size ≤ b ∨ X.may b) (resOf rs) v := by
  unfold finish at he
  split at he
  · rename_i us hus
    obtain ⟨hnd, he⟩ := cond_some he
    obtain ⟨vs, h1, h2⟩ := endV_ok hp h _ us hus
    obtain ⟨ds, cs, gs, k1, k2, k3, _⟩ := rsUsK_ok h us vs prj he h1 (noDup_spec hnd)
    have hrun : (results fn a.tmps).run X.P w = .ok (if h : vs.toArray.size = 1 then vs.toArray[0] else .tuple vs.toArray) w := by
      have e1 : results fn a.tmps = (do
          let vs ← fn.results.mapM (resM a)
          pure (if h : vs.size = 1 then vs[0] else .tuple vs)) := by
        unfold results
        congr 1
      rw [e1, Sem.run_bind, Array.mapM_eq_mapM_toList, Sem.run_map, h2]
      rfl
    refine ⟨ds, _, k1, hrun, ?_⟩
    have hlen : ∀ {ds : List U} {vs cs : List Value}, Split ds vs cs → ds.length = vs.length := by
      intro ds vs cs h
      induction h with
      | nil => rfl
      | c _ ih => simp [ih]
      | agg _ _ ih => simp [ih]
      | vec _ _ ih => simp [ih]
    have hl := hlen k2
    match ds, vs, k2, k3, hl with
    | [], [], k2, k3, _ => exact ⟨#[], gs, rfl, cs, k2, k3⟩
    | [u], [v], k2, k3, _ => exact ⟨gs, cs, k2, k3⟩
    | u :: u' :: ds, v :: v' :: vs, k2, k3, _ => exact ⟨(v :: v' :: vs).toArray, gs, by rw [dif_neg (by simp)], cs, by simpa using k2, k3⟩
  · cases he

theorem OwnL.mono {els : List (Nat × El)} {B B' : Nat → Prop} {cs : List C} {vs : List Value} {gs : List Nat} (h : OwnL els w B cs vs gs) (hb : ∀ b, B b → B' b) : OwnL els w B' cs vs gs := by
  induction h with
  | nil => exact .nil
  | sc h _ ih => exact .sc h ih
  | nilr _ ih => exact .nilr ih
  | row h1 h2 h3 h4 h5 h6 h7 h8 _ ih => exact .row h1 h2 (hb _ h3) h4 h5 h6 h7 h8 ih
  | view h1 h2 h3 h4 h5 h6 h7 _ ih => exact .view h1 (hb _ h2) h3 h4 h5 h6 h7 ih

theorem OwnV.mono {els : List (Nat × El)} {B B' : Nat → Prop} {v : V} {x : Value} (h : OwnV els w B v x) (hb : ∀ b, B b → B' b) : OwnV els w B' v x := by
  cases v with
  | u y => obtain ⟨gs, cs, h1, h2⟩ := h; exact ⟨gs, cs, h1, h2.mono hb⟩
  | tup l => obtain ⟨vs, gs, h0, cs, h1, h2⟩ := h; exact ⟨vs, gs, h0, cs, h1, h2.mono hb⟩
  | dead => trivial

/-- A function, as the evaluator takes it, does what is said of it. -/
theorem fn_ok {P : Program} {pd : PD} (hp : PDok P pd) (henv : ∀ f g, env f = some g → SgOK P pd.els f g) {f : FuncId} {fn : Func} (hf : P.funcs[f]? = some fn) (hname : fn.name ≠ "runtime.NumGoroutine") (g : Sg) (hmode : g.mode = 0) (prj : List U → Option g.R)
    (hprj : ∀ rs r, prj rs = some r → g.res r = resOf rs) (N : Nat) (tab : List (Nat × Head)) (d : Nat) (hrun : ∀ us r, g.run us = some r → runFn pd env fn prj (mkLp pd env (finish pd fn prj) N tab d) us = some r) : SgOK P pd.els f g := by
  refine ⟨fun _ => ?_, fun h => absurd hmode h⟩
  intro us r hr w vs ok hok hh
  have hr' := hrun us r hr
  unfold runFn at hr'
  split at hr'
  · rename_i c hc
    intro o a K Q hK
    have hcall : (callFunc f vs.toArray).run P w = .ok (.enter f vs.toArray) w := by
      simp [callFunc, run_program, hf, hname, hc]
    rw [hcall, Oper.upon_enter]
    have hcalls : Calls P f vs.toArray w fun
        | .returned v, w' => OwnV pd.els w' (fun b => w.heap.size ≤ b) (g.res r) v ∧ Kept w w'
        | _, _ => False := by
      refine calls_of_wp hf hc ?_
      have hs := sim_start (P := P) (pd := pd) hok hh fn.ntmps
      have fin : ∀ (s : St) (ρ : Nat → RI) (a : Act) (w' : World), finish pd fn prj s = some r → Sim ⟨P, pd, w, fun _ => False, fun _ => (0, 0, 0, 0)⟩ ρ s a w' → a.defers = [] ∧ ∃ v, (results fn a.tmps).run P w' = .ok v w' ∧ (OwnV pd.els w' (fun b => w.heap.size ≤ b) (g.res r) v ∧ Kept w w') := by
        intro s ρ a w' he hs
        obtain ⟨rs, v, h1, h2, h3⟩ := finish_ok (X := ⟨P, pd, w, fun _ => False, fun _ => (0, 0, 0, 0)⟩) hp hs fn prj he
        refine ⟨hs.df, v, h2, ?_, ⟨hs.fr.os, hs.fr.tape, hs.fr.output, hs.fr.size, fun k hk => hs.fr.block k hk fun h => h⟩⟩
        rw [hprj rs r h1]; exact h3.mono fun b hb => hb.resolve_right fun h => h
      refine (ex2_ok (X := ⟨P, pd, w, fun _ => False, fun _ => (0, 0, 0, 0)⟩) hp henv (mkLp_ok hp henv N tab d) c).1 _ _ _ _ _ _ hr' hs ?_ ?_
      · intro e s' ρ' a' w' he hs'
        cases e with
        | normal => exact fin s' ρ' a' w' he hs'
        | exit id => cases he
        | goto l => cases he
        | fall => exact fun hf => hf.elim
      · exact fun s' ρ' a' w' he hs' => fin s' ρ' a' w' he hs'
    refine hcalls.mono fun e w' he => ?_
    cases e with
    | returned v => exact hK v w' he
    | panicked ch => exact he.elim
    | outgrown => exact he.elim
  · cases hr'

/-- The same, of a call that stands alone. -/
theorem fn_calls {P : Program} {pd : PD} (hp : PDok P pd) (henv : ∀ f g, env f = some g → SgOK P pd.els f g) {f : FuncId} {fn : Func} (hf : P.funcs[f]? = some fn) (hname : fn.name ≠ "runtime.NumGoroutine") (g : Sg) (hmode : g.mode = 0) (prj : List U → Option g.R)
    (hprj : ∀ rs r, prj rs = some r → g.res r = resOf rs) (N : Nat) (tab : List (Nat × Head)) (d : Nat) (hrun : ∀ us r, g.run us = some r → runFn pd env fn prj (mkLp pd env (finish pd fn prj) N tab d) us = some r)
    (us : List U) (r : g.R) (hr : g.run us = some r) (w : World) (vs : List Value) (ok : Nat → Prop) (hok : ∀ b, ok b → b < w.heap.size) (hh : HoldsUs w ok us vs) :
    Calls P f vs.toArray w fun
        | .returned v, w' => OwnV pd.els w' (fun b => w.heap.size ≤ b) (g.res r) v ∧ Kept w w'
        | _, _ => False := by
  have hr' := hrun us r hr
  unfold runFn at hr'
  split at hr'
  · rename_i c hc
    refine calls_of_wp hf hc ?_
    have hs := sim_start (P := P) (pd := pd) hok hh fn.ntmps
    have fin : ∀ (s : St) (ρ : Nat → RI) (a : Act) (w' : World), finish pd fn prj s = some r → Sim ⟨P, pd, w, fun _ => False, fun _ => (0, 0, 0, 0)⟩ ρ s a w' → a.defers = [] ∧ ∃ v, (results fn a.tmps).run P w' = .ok v w' ∧ (OwnV pd.els w' (fun b => w.heap.size ≤ b) (g.res r) v ∧ Kept w w') := by
      intro s ρ a w' he hs
      obtain ⟨rs, v, h1, h2, h3⟩ := finish_ok (X := ⟨P, pd, w, fun _ => False, fun _ => (0, 0, 0, 0)⟩) hp hs fn prj he
      refine ⟨hs.df, v, h2, ?_, ⟨hs.fr.os, hs.fr.tape, hs.fr.output, hs.fr.size, fun k hk => hs.fr.block k hk fun h => h⟩⟩
      rw [hprj rs r h1]; exact h3.mono fun b hb => hb.resolve_right fun h => h
    refine (ex2_ok (X := ⟨P, pd, w, fun _ => False, fun _ => (0, 0, 0, 0)⟩) hp henv (mkLp_ok hp henv N tab d) c).1 _ _ _ _ _ _ hr' hs ?_ ?_
    · intro e s' ρ' a' w' he hs'
      cases e with
      | normal => exact fin s' ρ' a' w' he hs'
      | exit id => cases he
      | goto l => cases he
      | fall => exact fun hf => hf.elim
    · exact fun s' ρ' a' w' he hs' => fin s' ρ' a' w' he hs'

  · cases hr'

/-! ### Functions that something is handed over to -/

theorem sim_begin {X : Ctx} {ρ : Nat → RI} (vv : List V) (vs : List Value) (hl : vv.length = vs.length) (hg : ∀ (j : Nat) (v : V), vv[j]? = some v → ∃ z, vs[j]? = some z ∧ RV X ρ v z) (n : Nat) :
    Sim X ρ ⟨vv ++ List.replicate (n - vv.length) .dead, []⟩ { tmps := vs.toArray ++ Array.replicate (n - vs.toArray.size) undef, defers := [] } X.w0 := by
  refine ⟨fun t v hv => ?_, by simp [hl], rfl, fun id x hx => (by cases hx), fun i j x y hx => (by cases hx), fun id x hx => (by cases hx), ⟨rfl, rfl, rfl, Nat.le_refl _, fun _ _ _ => rfl⟩⟩
  simp only [List.getElem?_append] at hv
  split at hv
  · rename_i hlt
    obtain ⟨z, hz, hh⟩ := hg t v hv
    have e1 : (vs.toArray ++ Array.replicate (n - vs.toArray.size) undef).getD t undef = z := by
      have hlt' : t < vs.length := by omega
      rw [List.getElem?_eq_getElem hlt'] at hz
      cases hz
      simp [Array.getElem_append, hlt', Nat.lt_add_right _ hlt']
    rw [e1]
    exact hh
  · obtain ⟨_, rfl⟩ := List.getElem?_eq_some_iff.1 hv
    simp [RV]

theorem Holds_men {w : World} {ok : Nat → Prop} {c : C} {v : Value} (h : Holds w ok c v) (id : Nat) : c.men id = false := by
  cases h with
  | sc h => cases c <;> first | rfl | (simp [C.val] at h)
  | ro => rfl
  | emp => rfl

theorem HoldsL_men {w : World} {ok : Nat → Prop} {l : List C} {vs : List Value} (h : HoldsL w ok l vs) (id : Nat) : anyC (C.men id) l = false := by
  induction l generalizing vs with
  | nil => rfl
  | cons c l ih => cases vs with
    | nil => exact h.elim
    | cons v vs => simp [anyC, Holds_men h.1 id, ih h.2]

theorem HoldsUs_men {w : World} {ok : Nat → Prop} {us : List U} {vs : List Value} (h : HoldsUs w ok us vs) (id : Nat) : menVs id (us.map .u) = false := by
  induction us generalizing vs with
  | nil => rfl
  | cons u us ih => cases vs with
    | nil => exact h.elim
    | cons v vs =>
      have h1 : u.men id = false := by
        cases u with
        | c x => exact Holds_men h.1 id
        | agg l => obtain ⟨_, _, h⟩ := h.1; exact HoldsL_men h id
        | vec e l => rfl
        | box l => exact h.1.elim
      simp [menVs, V.men, h1, ih h.2]

theorem menVs_append {l m : List V} {id : Nat} (h1 : menVs id l = false) (h2 : menVs id m = false) : menVs id (l ++ m) = false := by
  induction l with
  | nil => exact h2
  | cons v l ih =>
    simp only [menVs, List.cons_append] at h1 ⊢
    cases hv : v.men id with
    | true => simp [hv] at h1
    | false => simp only [hv, cond_false] at h1 ⊢; exact ih h1

theorem menVs_dead (n id : Nat) : menVs id (List.replicate n .dead) = false := by
  induction n with
  | zero => rfl
  | succ n ih => simp [List.replicate_succ, menVs, V.men, ih]

theorem Sim.put0 (h : Sim X ρ s a w) (t : Nat) (v : V) (hv : RV X ρ v (a.tmps.getD t undef)) : Sim X ρ ⟨setV s.tm t v, s.ob⟩ a w := by
  refine ⟨fun i u hu => ?_, by simp [setV_length, h.sz], h.df, h.ob, h.inj, h.own, h.fr⟩
  simp only [setV_get] at hu
  split at hu
  · rename_i hc
    obtain ⟨rfl, hlt⟩ := hc
    cases hu
    exact hv
  · exact h.tm i u hu

theorem handIn_ok {pd : PD} {mode : Nat} {u : U} {c : C} {k : Nat} {o : O} {obs : List (Nat × Ob)} (h : handIn pd mode u = some (c, k, o, obs)) :
    (∃ m, abCs pd 1 u.cells = some (o.cells, obs, m)) ∧ o.cells.length = u.cells.length ∧ (∀ e l, o = .vec e l → (k ≠ 0 → l.length = k) ∧ u = .vec e l) ∧
      ((mode = 1 ∧ ∃ e l, u = .vec e l ∧ o = .vec e l ∧ c = .sl 0 0 l.length) ∨ (mode = 2 ∧ ∃ e l, u = .vec e l ∧ o = .vec e l ∧ c = .ptr 0 0 0) ∨ (mode = 3 ∧ ∃ l ds, u = .agg l ∧ o = .lit ds ∧ c = .ptr 0 0 0)) := by
  unfold handIn at h
  split at h
  · rename_i e l
    have hpl : abCs pd 1 (flat e l) = some (flat e l, [], 1) := abCs_plain (flat_plain e l)
    cases h1 : Nat.beq mode 1 with
    | true =>
      rw [h1] at h
      cases h
      exact ⟨⟨1, hpl⟩, rfl, fun e l h => (by cases h; exact ⟨fun h => absurd rfl h, rfl⟩), .inl ⟨Nat.beq_true h1, e, l, rfl, rfl, rfl⟩⟩
    | false =>
      rw [h1] at h
      cases h2 : Nat.beq mode 2 with
      | true =>
        rw [h2] at h
        cases h
        exact ⟨⟨1, hpl⟩, rfl, fun e l h => (by cases h; exact ⟨fun _ => rfl, rfl⟩), .inr (.inl ⟨Nat.beq_true h2, e, l, rfl, rfl, rfl⟩)⟩
      | false => rw [h2] at h; cases h
  · rename_i l
    obtain ⟨h1, h⟩ := cond_some h
    split at h
    · rename_i ds obs' m hab
      cases h
      have hlen : ds.length = l.length := abCs_len hab
      exact ⟨⟨m, hab⟩, hlen, fun e l h => (by cases h), .inr (.inr ⟨Nat.beq_true h1, l, ds, rfl, rfl, rfl⟩)⟩
    · cases h
  · cases h
where
  abCs_len {pd : PD} {n m : Nat} {l ds : List C} {obs : List (Nat × Ob)} (h : abCs pd n l = some (ds, obs, m)) : ds.length = l.length := by
    induction l generalizing n m ds obs with
    | nil => simp only [abCs, Option.some.injEq, Prod.mk.injEq] at h; rw [← h.1]
    | cons c l ih =>
      simp only [abCs] at h
      split at h
      · split at h
        · rename_i hr
          simp only [Option.some.injEq, Prod.mk.injEq] at h
          obtain ⟨rfl, _, _⟩ := h
          simp [ih hr]
        · cases h
      · cases h

theorem sim_startIO {P : Program} {pd : PD} {w : World} {ok : Nat → Prop} {us : List U} {vs : List Value} {mode : Nat} {u0 : U} {v0 : Value} {b : Nat} {xs : Array Value} {ty : TypeId} {gs : List Nat}
    (hok : ∀ c, ok c → c < w.heap.size ∧ c ≠ b ∧ c ∉ gs) (hus : HoldsUs w ok us vs) (hm : w.heap[b]? = some (.cells xs ty (0, 0))) (hh : Handed pd.els w mode u0 v0 b xs gs) {n : Nat} {s : St} (hs : startIO pd mode u0 us n = some s) :
    ∃ ρ, Sim ⟨P, pd, w, fun k => k = b ∨ k ∈ gs, fun _ => (b, xs.size, ty, u0.cells.length)⟩ ρ s { tmps := (v0 :: vs).toArray ++ Array.replicate (n - (v0 :: vs).toArray.size) undef, defers := [] } w := by
  unfold startIO at hs
  split at hs
  case h_2 => cases hs
  rename_i c k o obs hin
  cases hs
  obtain ⟨⟨m, hab⟩, hlen, hvec, hmode⟩ := handIn_ok hin
  obtain ⟨hpos, hfit, hown, hcase⟩ := hh
  obtain ⟨hl, hget⟩ := HoldsUs_get hus
  generalize hXd : (⟨P, pd, w, fun k => k = b ∨ k ∈ gs, fun _ => (b, xs.size, ty, u0.cells.length)⟩ : Ctx) = X
  have hXw : X.w0 = w := by rw [← hXd]
  have hXpd : X.pd = pd := by rw [← hXd]
  have hXmay : ∀ k, X.may k ↔ (k = b ∨ k ∈ gs) := fun k => by rw [← hXd]
  have hXok : ∀ c, ok c → X.ok c := fun c hc => by
    obtain ⟨h1, h2, h3⟩ := hok c hc
    exact ⟨by rw [hXw]; exact h1, fun hmy => ((hXmay c).1 hmy).elim h2 h3⟩
  have hXpin : ∀ k, X.pin k = (b, xs.size, ty, u0.cells.length) := fun k => by rw [← hXd]
  have hblt : b < w.heap.size := (Array.getElem?_eq_some_iff.1 hm).1
  -- the beginning, with nothing in slot 0
  have h0 : Sim X (fun _ => ⟨0, undef, 0, 0⟩) ⟨(.dead :: us.map .u) ++ List.replicate (n - (us.length + 1)) .dead, []⟩ { tmps := (v0 :: vs).toArray ++ Array.replicate (n - (v0 :: vs).toArray.size) undef, defers := [] } w := by
    have := sim_begin (X := X) (ρ := fun _ => ⟨0, undef, 0, 0⟩) (.dead :: us.map .u) (v0 :: vs) (by simp [hl]) (fun j v hv => by
      cases j with
      | zero => simp at hv; subst hv; exact ⟨v0, rfl, trivial⟩
      | succ j =>
        simp only [List.getElem?_cons_succ, List.getElem?_map] at hv
        obtain ⟨u, hu, rfl⟩ := Option.map_eq_some_iff.1 hv
        obtain ⟨z, hz, hh⟩ := hget j u hu
        refine ⟨z, by simpa using hz, ?_⟩
        exact HoldsU_RU (X := X) hXok (by rw [hXw]; exact hh)) n
    rw [hXw] at this
    simpa using this
  have hmen0 : ∀ id, St.men ⟨(.dead :: us.map .u) ++ List.replicate (n - (us.length + 1)) .dead, []⟩ id = false := fun id => by
    unfold St.men
    have : menVs id ((.dead :: us.map .u) ++ List.replicate (n - (us.length + 1)) .dead) = false := menVs_append (by simp [menVs, V.men, HoldsUs_men hus id]) (menVs_dead _ _)
    simp only [this, cond_false, menObs]
  -- something in the object's place
  have hol : o.len ≠ 0 ∧ o.sz ≠ 0 := by
    have := pos_ptr (x := ⟨false, k, PIN, o⟩) (by simp only; omega)
    simp only at this
    omega
  obtain ⟨o0, hc0, hsz0, hlen0, hcl0, hvec0, hmn0⟩ : ∃ o0 : O, (∀ ρ, RCs X ρ o0.cells (xs.toList.take o0.cells.length)) ∧ o0.sz = o.sz ∧ o0.len = o.len ∧ o0.cells.length = u0.cells.length ∧ (k ≠ 0 → ∀ e l, o0 = .vec e l → l.length = k) ∧ ∀ i, o0.men i = false := by
    cases o with
    | lit l0 =>
      refine ⟨.lit (List.replicate l0.length .dead), fun ρ => dead_RCs _ ?_, by simp [O.sz], rfl, ?_, fun _ e l h => (by cases h), fun i => dead_men _ _⟩
      · simp only [O.cells, List.length_replicate, List.length_take, Array.length_toList]
        simp only [O.cells] at hlen
        omega
      · simp only [O.cells, List.length_replicate] at hlen ⊢; exact hlen
    | vec e l =>
      refine ⟨.vec e l, fun ρ => ?_, rfl, rfl, hlen, fun h0 e' l' h => by cases h; exact (hvec e l rfl).1 h0, fun i => rfl⟩
      obtain ⟨_, rfl⟩ := hvec e l rfl
      have hV : Vals (flat e l) (xs.toList.take (flat e l).length) := by
        refine OwnL_Vals (cs := []) (vs' := []) (by simpa [U.cells] using hown) ?_
        simp only [U.cells] at hfit
        simp only [List.length_take, Array.length_toList]; omega
      exact RCs_Vals hV
  have hRO0 : RO X (upd (fun _ => ⟨0, undef, 0, 0⟩) 0 ⟨b, undef, o.sz, o.len⟩) w 0 ⟨false, k, PIN, o0⟩ := by
    refine ⟨by rw [upd_same]; exact hsz0.symm, by rw [upd_same]; exact hlen0.symm, fun _ => hvec0, (fun h => by cases h), .inr ⟨xs, ty, 0, by rw [upd_same]; exact hm, hc0 _, by rw [hcl0]; exact hfit, fun _ => ⟨by rw [hcl0]; exact hfit, fun _ => ?_⟩, (fun h => by cases h)⟩⟩
    rw [upd_same, hXpin, hcl0]
  have h1 := h0.add 0 ⟨false, k, PIN, o0⟩ ⟨b, undef, o.sz, o.len⟩ (hmen0 0) hRO0 (fun _ => ⟨fun j y hy => (by cases hy), .inr ((hXmay b).2 (.inl rfl))⟩)
  obtain ⟨ρ', g1, g2, g3, g4, g5, g6⟩ := ab_ok (X := X) (B := fun g => g ∈ gs) (fun g hg => .inr ((hXmay g).2 (.inr hg))) (xs.toList.take u0.cells.length) gs 1 _ obs m _ _ (by rw [hXpd]; exact hab) (by rw [hXpd]; exact hown.mono' fun b hb => hb) h1 (fun j y hy hb hin => by
      rcases get_put hy with ⟨rfl, rfl⟩ | ⟨hne, hy'⟩
      · rw [upd_same] at hin
        exact (abV_ok.own_ge hown _ hin).2 rfl
      · cases hy') (fun i h1 h2 => men_put (hmen0 i) (by omega) (hmn0 i))
  have hid : ρ' 0 = ⟨b, undef, o.sz, o.len⟩ := by rw [g4 0 (.inl (by omega)), upd_same]
  obtain ⟨_, hkeys⟩ := abCs_keys hab
  have hget0 : (St.puts ⟨(.dead :: us.map .u) ++ List.replicate (n - (us.length + 1)) .dead, putOb 0 ⟨false, k, PIN, o0⟩ []⟩ obs).get 0 = some ⟨false, k, PIN, o0⟩ := by
    rw [puts_get, putsA_out fun p hp => by have := (hkeys p hp).1; omega]
    exact look_put_same _ _ _
  have hROF : RO X ρ' w 0 ⟨false, k, PIN, o⟩ := by
    refine ⟨by rw [hid], by rw [hid], fun _ h0 e l he => (hvec e l he).1 h0, (fun h => by cases h), .inr ⟨xs, ty, 0, by rw [hid]; exact hm, ?_, by simp only [hlen]; exact hfit, fun _ => ⟨by simp only [hlen]; exact hfit, fun _ => ?_⟩, (fun h => by cases h)⟩⟩
    · simp only [hlen]; exact g2
    · rw [hid, hXpin]; simp only [hlen]
  have h2 := g1.store 0 _ ⟨false, k, PIN, o⟩ hget0 (.inl rfl) (.inl rfl) hROF (fun _ _ => rfl) ⟨rfl, rfl, rfl, rfl⟩
  have h3 : Sim X ρ' ⟨(.dead :: us.map .u) ++ List.replicate (n - (us.length + 1)) .dead, putOb 0 ⟨false, k, PIN, o⟩ (St.puts ⟨(.dead :: us.map .u) ++ List.replicate (n - (us.length + 1)) .dead, []⟩ obs).ob⟩ { tmps := (v0 :: vs).toArray ++ Array.replicate (n - (v0 :: vs).toArray.size) undef, defers := [] } w := by
    refine h2.same ?_ fun j => ?_
    · rw [g6]
    · unfold St.get
      simp only
      by_cases hj : j = 0
      · subst hj; rw [look_put_same, look_put_same]
      · rw [look_put_ne _ _ hj, look_put_ne _ _ hj]
        have e1 := puts_get ⟨(.dead :: us.map .u) ++ List.replicate (n - (us.length + 1)) .dead, []⟩ obs j
        have e2 := puts_get ⟨(.dead :: us.map .u) ++ List.replicate (n - (us.length + 1)) .dead, putOb 0 ⟨false, k, PIN, o0⟩ []⟩ obs j
        unfold St.get at e1 e2
        simp only at e1 e2
        rw [e1, e2, look_put_ne _ _ hj]
  refine ⟨ρ', h3.put0 0 _ ?_⟩
  have hv0 : ((v0 :: vs).toArray ++ Array.replicate (n - (v0 :: vs).toArray.size) undef).getD 0 undef = v0 := by
    rw [Array.getD_eq_getD_getElem?, Array.getElem?_append_left (by simp)]
    simp
  simp only [hv0]
  rcases hmode with ⟨m1, e, l, rfl, rfl, rfl⟩ | ⟨m2, e, l, rfl, rfl, rfl⟩ | ⟨m3, l, ds, rfl, rfl, rfl⟩
  · rcases hcase with ⟨_, e', l', cap, he, hv, hc1, hc2⟩ | ⟨h2, _⟩ | ⟨h2, _⟩
    · cases he
      exact ⟨by rw [hid]; simp [O.len], cap, hc1, hc2, .inl (by rw [hid]; simpa using hv)⟩
    · omega
    · omega
  · rcases hcase with ⟨h2, _⟩ | ⟨_, e', l', he, hv⟩ | ⟨h2, _⟩
    · omega
    · refine ⟨by rw [hid]; exact Nat.pos_of_ne_zero hol.1, by rw [hid]; exact Nat.pos_of_ne_zero hol.2, by rw [hid]; simpa using hv⟩
    · omega
  · rcases hcase with ⟨h2, _⟩ | ⟨h2, _⟩ | ⟨_, l', he, hv⟩
    · omega
    · omega
    · refine ⟨by rw [hid]; exact Nat.pos_of_ne_zero hol.1, by rw [hid]; exact Nat.pos_of_ne_zero hol.2, by rw [hid]; simpa using hv⟩

theorem finishIO_ok (hp : PDok X.P X.pd) (h : Sim X ρ s a w) (fn : Func) (prj : List U → Option R) {b size n : Nat} {ty : TypeId} (hpin : ∀ k, X.pin k = (b, size, ty, n)) (he : finishIO X.pd fn prj s = some r) :
    ∃ rs v xs' vals gs, prj rs = some r ∧ (results fn a.tmps).run X.P w = .ok v w ∧ v = retVal vals ∧ w.heap[b]? = some (.cells xs' ty (0, 0)) ∧ xs'.size = size ∧
      OwnUs X.pd.els w (fun c => (X.w0.heap.size ≤ c ∨ X.may c) ∧ c ≠ b) rs (.agg (xs'.toList.take n).toArray :: vals) gs := by
  unfold finishIO at he
  split at he
  case h_2 => cases he
  rename_i id hfp
  split at he
  case h_2 => cases he
  rename_i nn pty o hg
  obtain ⟨hpt, he⟩ := cond_some he
  split at he
  case h_2 => cases he
  rename_i us hus
  obtain ⟨hnd, he⟩ := cond_some he
  simp only [Bool.and_eq_true, Bool.not_eq_true'] at hnd
  obtain ⟨hnd, hnm⟩ := hnd
  have hnm := memN_false.1 hnm
  obtain ⟨vs, h1, h2⟩ := endV_ok hp h _ us hus
  have hro := h.ob _ _ hg
  have hB : hasB ρ id ⟨false, nn, pty, o⟩ := .inl rfl
  rcases hro.mem with ⟨m0, _, _⟩ | ⟨xs', ty', cap, m1, m2, m3, m4, m5⟩
  · cases m0
  · have hpk := (m4 rfl).2 (by simpa using hpt)
    rw [hpin] at hpk
    simp only [Prod.mk.injEq] at hpk
    obtain ⟨rfl, rfl, rfl, hn⟩ := hpk
    have hRU : RU X ρ o.u (.agg (xs'.toList.take n).toArray) := by
      rw [hn]
      cases o with
      | lit l => exact ⟨_, rfl, m2⟩
      | vec e l => exact ⟨_, rfl, m2⟩
    obtain ⟨ds, cs, gs, k1, k2, k3, k4⟩ := rsUsK_ok h (o.u :: us) (.agg (xs'.toList.take n).toArray :: vs) prj he ⟨hRU, h1⟩ (noDup_spec hnd)
    refine ⟨ds, retVal vs, xs', vs, gs, k1, ?_, rfl, m1, rfl, cs, k2, ?_⟩
    · have e1 : results fn a.tmps = (do
          let vs ← fn.results.mapM (resM a)
          pure (if h : vs.size = 1 then vs[0] else .tuple vs)) := by
        unfold results
        congr 1
      rw [e1, Sem.run_bind, Array.mapM_eq_mapM_toList, Sem.run_map, h2]
      simp only [Result.andThen_ok, Sem.run_pure]
      match vs with
      | [] => rfl
      | [v] => rfl
      | v :: v2 :: l => rfl
    · refine k3.mono' fun c hc => ?_
      refine ⟨abV_ok.own_ge k3 c hc, fun e => ?_⟩
      obtain ⟨i, hi, x, hx, hbx, e1⟩ := k4 c hc
      exact h.inj i id x _ hx hg (fun e => hnm (e ▸ hi)) hbx hB (by rw [e1, e])

/-- A function that something is handed over to, as the evaluator takes it, does what is said of it. -/
theorem fnIO_ok {P : Program} {pd : PD} (hp : PDok P pd) (henv : ∀ f g, env f = some g → SgOK P pd.els f g) {f : FuncId} {fn : Func} (hf : P.funcs[f]? = some fn) (hname : fn.name ≠ "runtime.NumGoroutine") (g : Sg) (hmode : g.mode ≠ 0) (prj : List U → Option g.R)
    (hprj : ∀ rs r, prj rs = some r → g.res r = .tup rs) (N : Nat) (tab : List (Nat × Head)) (d : Nat) (hrun : ∀ us r, g.run us = some r → runFnIO pd env fn g.mode prj (mkLp pd env (finishIO pd fn prj) N tab d) us = some r) : SgOK P pd.els f g := by
  refine ⟨fun h => absurd h hmode, fun _ => ?_⟩
  intro u us r hr w v0 vs ok b xs ty gs hok hus hm hh
  have hr' := hrun _ r hr
  unfold runFnIO at hr'
  simp only at hr'
  split at hr'
  case h_2 => cases hr'
  rename_i c hc
  split at hr'
  case h_2 => cases hr'
  rename_i s hs
  intro o a K Q hK
  have hcall : (callFunc f (v0 :: vs).toArray).run P w = .ok (.enter f (v0 :: vs).toArray) w := by
    simp [callFunc, run_program, hf, hname, hc]
  rw [hcall, Oper.upon_enter]
  have hcalls : Calls P f (v0 :: vs).toArray w fun
      | .returned v, w' => ∃ (xs' : Array Value) (vals : List Value) (l : List U) (gs' : List Nat), g.res r = .tup l ∧ v = retVal vals ∧
          w'.heap[b]? = some (.cells xs' ty (0, 0)) ∧ xs'.size = xs.size ∧ OwnUs pd.els w' (fun c => w.heap.size ≤ c ∨ c ∈ gs) l (.agg (xs'.toList.take u.cells.length).toArray :: vals) gs' ∧ KeptX (b :: gs) w w'
      | _, _ => False := by
    refine calls_of_wp hf hc ?_
    obtain ⟨ρ, hsim⟩ := sim_startIO (P := P) (pd := pd) hok hus hm hh hs
    have fin : ∀ (s : St) (ρ : Nat → RI) (a : Act) (w' : World), finishIO pd fn prj s = some r → Sim ⟨P, pd, w, fun k => k = b ∨ k ∈ gs, fun _ => (b, xs.size, ty, u.cells.length)⟩ ρ s a w' → a.defers = [] ∧ ∃ v, (results fn a.tmps).run P w' = .ok v w' ∧
        ∃ (xs' : Array Value) (vals : List Value) (l : List U) (gs' : List Nat), g.res r = .tup l ∧ v = retVal vals ∧
          w'.heap[b]? = some (.cells xs' ty (0, 0)) ∧ xs'.size = xs.size ∧ OwnUs pd.els w' (fun c => w.heap.size ≤ c ∨ c ∈ gs) l (.agg (xs'.toList.take u.cells.length).toArray :: vals) gs' ∧ KeptX (b :: gs) w w' := by
      intro s ρ a w' he hs
      obtain ⟨rs, v, xs', vals, gs', h1, h2, h3, h4, h5, cs, h6, h7⟩ := finishIO_ok (X := ⟨P, pd, w, fun k => k = b ∨ k ∈ gs, fun _ => (b, xs.size, ty, u.cells.length)⟩) hp hs fn prj (fun _ => rfl) he
      refine ⟨hs.df, v, h2, xs', vals, rs, gs', hprj rs r h1, h3, h4, h5, ⟨cs, h6, h7.mono' fun c hc => ?_⟩, ⟨hs.fr.os, hs.fr.tape, hs.fr.output, hs.fr.size, fun k hk hn => hs.fr.block k hk fun h => hn (List.mem_cons.2 h)⟩⟩
      obtain ⟨h8, h9⟩ := abV_ok.own_ge h7 c hc
      rcases h8 with h8 | h8 | h8
      · exact .inl h8
      · exact absurd h8 h9
      · exact .inr h8
    refine (ex2_ok (X := ⟨P, pd, w, fun k => k = b ∨ k ∈ gs, fun _ => (b, xs.size, ty, u.cells.length)⟩) hp henv (mkLp_ok hp henv N tab d) c).1 _ _ _ _ _ _ hr' hsim ?_ ?_
    · intro e s' ρ' a' w' he hs'
      cases e with
      | normal => exact fin s' ρ' a' w' he hs'
      | exit id => cases he
      | goto l => cases he
      | fall => exact fun hf => hf.elim
    · exact fun s' ρ' a' w' he hs' => fin s' ρ' a' w' he hs'
  refine hcalls.mono fun e w' he => ?_
  cases e with
  | returned v => exact hK v w' he
  | panicked ch => exact he.elim
  | outgrown => exact he.elim

end Go.Proofs.Ytgimohchocjgcaa.V
