/- Calls: what a callee is asked for, and what its caller knows. -/
import Derived.Test.YtgimohchocjgcaaVW
set_option linter.unusedVariables false
set_option linter.unusedSimpArgs false
namespace Go.Proofs.Ytgimohchocjgcaa.V

variable {X : Ctx} {ρ : Nat → RI} {s : St} {a : Act} {w : World}

def HoldsL (w : World) (ok : Nat → Prop) : List C → List Value → Prop
  | [], [] => True
  | c :: l, v :: vs => Holds w ok c v ∧ HoldsL w ok l vs
  | _, _ => False

/-- An argument. -/
def HoldsU (w : World) (ok : Nat → Prop) : U → Value → Prop
  | .c x, v => Holds w ok x v
  | .agg l, v => ∃ vs, v = .agg vs ∧ HoldsL w ok l vs.toList
  | .vec e l, v => ∃ vs, v = .agg vs ∧ HoldsL w ok (flat e l) vs.toList
  | .box _, _ => False

def HoldsUs (w : World) (ok : Nat → Prop) : List U → List Value → Prop
  | [], [] => True
  | c :: l, v :: vs => HoldsU w ok c v ∧ HoldsUs w ok l vs
  | _, _ => False

/-- Values, and the cells that they have together. -/
inductive Split : List U → List Value → List Value → Prop
  | nil : Split [] [] []
  | c {x : C} {v : Value} {us : List U} {vs cs : List Value} : Split us vs cs → Split (.c x :: us) (v :: vs) (v :: cs)
  | agg {l : List C} {xs : Array Value} {us : List U} {vs cs : List Value} : l.length = xs.toList.length → Split us vs cs → Split (.agg l :: us) (.agg xs :: vs) (xs.toList ++ cs)
  | vec {e : El} {l : List e.T} {xs : Array Value} {us : List U} {vs cs : List Value} : (flat e l).length = xs.toList.length → Split us vs cs → Split (.vec e l :: us) (.agg xs :: vs) (xs.toList ++ cs)

def cellsOf : List U → List C
  | [] => []
  | u :: us => u.cells ++ cellsOf us

/-- Results, in new memory. -/
def OwnUs (els : List (Nat × El)) (w : World) (B : Nat → Prop) (us : List U) (vs : List Value) (gs : List Nat) : Prop := ∃ cs, Split us vs cs ∧ OwnL els w B (cellsOf us) cs gs

def OwnV (els : List (Nat × El)) (w : World) (B : Nat → Prop) : V → Value → Prop
  | .u x, v => ∃ gs, OwnUs els w B [x] [v] gs
  | .tup l, v => ∃ vs gs, v = .tuple vs ∧ OwnUs els w B l vs.toList gs
  | .dead, _ => True

/-- What was there is as it was. -/
structure Kept (w w' : World) : Prop where
  os : w'.os = w.os
  tape : w'.tape = w.tape
  output : w'.output = w.output
  size : w.heap.size ≤ w'.heap.size
  block : ∀ k, k < w.heap.size → w'.heap[k]? = w.heap[k]?

/-- A call, in whatever place it stands. -/
def CallsTo (P : Program) (f : FuncId) (vs : Array Value) (w : World) (R : Value → World → Prop) : Prop :=
  ∀ (o : Oper) (a : Act) (K : Act → World → Prop) (Q : Exit → Act → World → Prop), (∀ v w', R v w' → K (a.put o.dst v) w') → o.upon P a K Q ((callFunc f vs).run P w)

/-- A callee that nothing is handed over to. -/
def SgPlain (P : Program) (els : List (Nat × El)) (f : FuncId) (g : Sg) : Prop :=
  ∀ us r, g.run us = some r → ∀ w vs ok, (∀ b, ok b → b < w.heap.size) → HoldsUs w ok us vs →
    CallsTo P f vs.toArray w fun v w' => OwnV els w' (fun b => w.heap.size ≤ b) (g.res r) v ∧ Kept w w'

/-- What is handed over, in its block. -/
def Handed (els : List (Nat × El)) (w : World) (mode : Nat) (u : U) (v : Value) (b : Nat) (xs : Array Value) (gs : List Nat) : Prop :=
  0 < u.cells.length ∧ u.cells.length ≤ xs.size ∧ OwnL els w (fun g => g < w.heap.size ∧ g ≠ b) u.cells (xs.toList.take u.cells.length) gs ∧
  ((mode = 1 ∧ ∃ e l cap, u = .vec e l ∧ v = .slice (some ⟨b, 0, none⟩) l.length cap ∧ l.length ≤ cap ∧ cap ≤ maxLen) ∨
    (mode = 2 ∧ ∃ e l, u = .vec e l ∧ v = .pointer (some ⟨b, 0, none⟩)) ∨ (mode = 3 ∧ ∃ l, u = .agg l ∧ v = .pointer (some ⟨b, 0, none⟩)))

def retVal : List Value → Value
  | [x] => x
  | l => .tuple l.toArray

/-- What was there is as it was, but for some blocks. -/
structure KeptX (l : List Nat) (w w' : World) : Prop where
  os : w'.os = w.os
  tape : w'.tape = w.tape
  output : w'.output = w.output
  size : w.heap.size ≤ w'.heap.size
  block : ∀ k, k < w.heap.size → k ∉ l → w'.heap[k]? = w.heap[k]?

/-- A callee that something is handed over to. -/
def SgIO (P : Program) (els : List (Nat × El)) (f : FuncId) (g : Sg) : Prop :=
  ∀ u us r, g.run (u :: us) = some r → ∀ w v0 vs ok b xs ty gs, (∀ c, ok c → c < w.heap.size ∧ c ≠ b ∧ c ∉ gs) → HoldsUs w ok us vs →
    w.heap[b]? = some (.cells xs ty (0, 0)) → Handed els w g.mode u v0 b xs gs →
    CallsTo P f (v0 :: vs).toArray w fun v w' => ∃ (xs' : Array Value) (vals : List Value) (l : List U) (gs' : List Nat), g.res r = .tup l ∧ v = retVal vals ∧
      w'.heap[b]? = some (.cells xs' ty (0, 0)) ∧ xs'.size = xs.size ∧ OwnUs els w' (fun c => w.heap.size ≤ c ∨ c ∈ gs) l (.agg (xs'.toList.take u.cells.length).toArray :: vals) gs' ∧ KeptX (b :: gs) w w'

/-- A callee does what its signature says. -/
def SgOK (P : Program) (els : List (Nat × El)) (f : FuncId) (g : Sg) : Prop :=
  (g.mode = 0 → SgPlain P els f g) ∧ (g.mode ≠ 0 → SgIO P els f g)

theorem hasB_pos {id : Nat} {x : Ob} (h : RO X ρ w id x) (hp : 0 < x.o.cells.length) : hasB ρ id x := by
  cases hrow : x.row with
  | false => exact .inl hrow
  | true =>
    right
    intro hnil
    rcases h.mem with ⟨_, _, h3⟩ | ⟨vs, ty, cap, _, _, _, _, h5⟩
    · rw [h3] at hp; simp at hp
    · rw [(h5 hrow).2.1] at hnil; cases hnil

/-- Blocks that are not those of a state's objects, nor what is only read. -/
def Apart (X : Ctx) (ρ : Nat → RI) (s : St) (H : Nat → Prop) : Prop := (∀ j x, s.get j = some x → hasB ρ j x → ¬ H (ρ j).blk) ∧ ∀ b, X.ok b → ¬ H b

theorem Apart.nothing : Apart X ρ s fun _ => False := ⟨fun _ _ _ _ h => h, fun _ _ h => h⟩

/-! ### The caller's side -/

theorem HoldsL_of {ok : Nat → Prop} {l : List C} {vs : List Value} (hl : l.length = vs.length) (h : ∀ (j : Nat) (c : C) (v : Value), l[j]? = some c → vs[j]? = some v → Holds w ok c v) : HoldsL w ok l vs := by
  induction l generalizing vs with
  | nil => cases vs with
    | nil => trivial
    | cons v vs => simp at hl
  | cons c l ih => cases vs with
    | nil => simp at hl
    | cons v vs => exact ⟨h 0 c v (by simp) (by simp), ih (by simpa using hl) fun j c v h1 h2 => h (j + 1) c v (by simpa using h1) (by simpa using h2)⟩

variable {H : Nat → Prop}

theorem Holds_now (h : Sim X ρ s a w) (hA : Apart X ρ s H) {c : C} {v : Value} (hh : Holds X.w0 X.ok c v) : Holds w (fun b => b < w.heap.size ∧ ¬ H b) c v :=
  hh.mono fun b hb => ⟨⟨Nat.lt_of_lt_of_le hb.1 h.fr.size, hA.2 b hb⟩, h.fr.block b hb.1 hb.2⟩

theorem toC_all (e : El) (x : e.T) : (e.toC x).all (fun c => c.val.isSome) = true := by
  cases e <;> simp [El.toC, Fr.c, C.val]

theorem toC_val (e : El) (x : e.T) : ∀ c ∈ e.toC x, ∃ v, c.val = some v := fun c hc => Option.isSome_iff_exists.1 (List.all_eq_true.1 (toC_all e x) c hc)

theorem flat_val (e : El) (l : List e.T) : ∀ c ∈ flat e l, ∃ v, c.val = some v := by
  induction l with
  | nil => intro c hc; cases hc
  | cons x l ih =>
    intro c hc
    rcases List.mem_append.1 hc with h | h
    · exact toC_val e x c h
    · exact ih c h

theorem scal_Holds {w' : World} {ok ok' : Nat → Prop} {c : C} {v u : Value} (hc : c.val = some u) (h : Holds w ok c v) : Holds w' ok' c v := by
  cases h with
  | sc h => exact .sc h
  | ro => cases hc
  | emp => cases hc

theorem reC_ok (h : Sim X ρ s a w) (hA : Apart X ρ s H) {c d : C} {v : Value} (hd : reC s c = some d) (hv : RC X ρ c v) : Holds w (fun b => b < w.heap.size ∧ ¬ H b) d v := by
  have hlist : ∀ (e : El) (l : List e.T), s.list c = some ⟨e, l⟩ → (∀ r, c ≠ .str r) → (∀ b off n cap, v = .slice (some ⟨b, off, none⟩) n cap → l ≠ [] → (l.length ≤ cap ∧ cap ≤ maxLen) ∧ ¬ H b) → Holds w (fun b => b < w.heap.size ∧ ¬ H b) (.ro e l) v := by
    intro e l hl hns hcap
    rcases list_ok h hl hv with ⟨r, hr⟩ | ⟨rfl, ad, cap, rfl⟩ | ⟨b, off, cap, vs, rfl, hcs, hcell⟩
    · exact absurd hr (hns r)
    · exact .emp
    · cases l with
      | nil => exact .emp
      | cons x l =>
        obtain ⟨⟨hc1, hc2⟩, hc3⟩ := hcap b off _ cap rfl (by simp)
        have hlen := RCs_length hcs
        have hpos : 0 < (flat e (x :: l)).length := by rw [flat_length]; exact Nat.mul_pos (by simp) (size_pos e)
        have hget : ∀ (j : Nat) (c : C), (flat e (x :: l))[j]? = some c → ∃ u, vs[j]? = some u ∧ w.cell? ⟨b, off + j, none⟩ = some u ∧ Holds w (fun b => b < w.heap.size ∧ ¬ H b) c u := by
          intro j c hj
          obtain ⟨u, hu, hcu⟩ := RCs_get hcs j c hj
          obtain ⟨v', hv'⟩ := flat_val e (x :: l) c (List.mem_of_getElem? hj)
          exact ⟨u, hu, hcell j u hu, by rw [val_of_RC hv' hcu]; exact .sc hv'⟩
        refine .ro (fun j => (w.cell? ⟨b, off + j, none⟩).getD undef) hc1 hc2 ?_ ?_ ?_
        · obtain ⟨c0, hc0⟩ : ∃ c0, (flat e (x :: l))[0]? = some c0 := ⟨_, List.getElem?_eq_getElem hpos⟩
          obtain ⟨u, _, hu, _⟩ := hget 0 c0 hc0
          unfold World.cell? at hu
          simp only at hu
          cases hb : w.heap[b]? with
          | none => simp [hb] at hu
          | some o => exact ⟨(Array.getElem?_eq_some_iff.1 hb).1, hc3⟩
        · intro j c hj
          obtain ⟨u, _, hu, _⟩ := hget j c hj
          simp only [hu, Option.getD_some]
        · intro j c hj
          obtain ⟨u, _, hu, hh⟩ := hget j c hj
          simp only [hu, Option.getD_some]; exact hh
  cases c with
  | row id =>
    simp only [reC] at hd
    split at hd
    · rename_i n ty e l hg
      simp only [Option.some.injEq] at hd
      subst hd
      refine hlist e l (by simp [St.list, hg]) (fun r hr => by cases hr) (fun b off n cap hvv hne => ?_)
      rcases row_val (h.ob _ _ hg) with ⟨_, h2⟩ | ⟨cap', h2, h3, h4⟩
      · exact absurd h2 hne
      · rw [hv.1, h2] at hvv
        cases hvv
        exact ⟨⟨h3, h4⟩, hA.1 _ _ hg (.inr (by rw [h2]; simp))⟩
    · cases hd
  | sl id i n =>
    simp only [reC] at hd
    split at hd
    · rename_i rw n' ty e l hg
      simp only [Option.some.injEq] at hd
      subst hd
      refine hlist e _ (by simp [St.list, hg]) (fun r hr => by cases hr) (fun b off n0 cap hvv hne => ?_)
      obtain ⟨h1, cap', h2, h3, h4⟩ := hv
      rcases h4 with h4 | ⟨hn0, ad, h4⟩
      · rw [h4] at hvv
        cases hvv
        refine ⟨⟨Nat.le_trans (by simp; omega) h2, h3⟩, hA.1 _ _ hg (hasB_pos (h.ob _ _ hg) ?_)⟩
        simp only [O.cells, flat_length]
        refine Nat.mul_pos ?_ (size_pos e)
        cases l with
        | nil => exact absurd (by simp) hne
        | cons _ _ => simp
      · exact absurd (by rw [hn0]; simp) hne
    · cases hd
  | ro e l => simp only [reC, Option.some.injEq] at hd; subst hd; exact Holds_now h hA hv
  | u64 _ | u32 _ | u8 _ | int _ | bool _ | str _ => simp only [reC, Option.some.injEq] at hd; subst hd; exact scal_Holds rfl hv
  | rop _ _ _ _ | ptr _ _ _ | nilp | dead => simp [reC] at hd

theorem reCs_ok (h : Sim X ρ s a w) (hA : Apart X ρ s H) {l d : List C} {vs : List Value} (hd : reCs s l = some d) (hv : RCs X ρ l vs) : HoldsL w (fun b => b < w.heap.size ∧ ¬ H b) d vs := by
  induction l generalizing d vs with
  | nil => cases vs with
    | nil => simp [reCs] at hd; subst hd; trivial
    | cons v vs => exact hv.elim
  | cons c l ih => cases vs with
    | nil => exact hv.elim
    | cons v vs =>
      simp only [reCs] at hd
      cases hc : reC s c with
      | none => simp [hc] at hd
      | some c' =>
        cases hl : reCs s l with
        | none => simp [hc, hl] at hd
        | some l' =>
          simp only [hc, hl, Option.some.injEq] at hd
          subst hd
          exact ⟨reC_ok h hA hc hv.1, ih hl hv.2⟩

theorem HoldsL_flat {w : World} {ok : Nat → Prop} (e : El) (l : List e.T) {vs : List Value} (hv : RCs X ρ (flat e l) vs) : HoldsL w ok (flat e l) vs :=
  HoldsL_of (RCs_length hv) fun j c v hc hvv => by
    obtain ⟨u, hu, hcu⟩ := RCs_get hv j c hc
    obtain ⟨v', hv'⟩ := flat_val e l c (List.mem_of_getElem? hc)
    rw [hvv] at hu
    cases hu
    rw [val_of_RC hv' hcu]
    exact .sc hv'

theorem reU_ok (h : Sim X ρ s a w) (hA : Apart X ρ s H) {u d : U} {v : Value} (hd : reU s u = some d) (hv : RU X ρ u v) : HoldsU w (fun b => b < w.heap.size ∧ ¬ H b) d v := by
  cases u with
  | c x =>
    simp only [reU] at hd
    cases hc : reC s x with
    | none => simp [hc] at hd
    | some y => simp only [hc, Option.some.injEq] at hd; subst hd; exact reC_ok h hA hc hv
  | agg l =>
    simp only [reU] at hd
    cases hc : reCs s l with
    | none => simp [hc] at hd
    | some y =>
      simp only [hc, Option.some.injEq] at hd
      subst hd
      obtain ⟨vs, hvs, hr⟩ := hv
      exact ⟨vs, hvs, reCs_ok h hA hc hr⟩
  | vec e l =>
    simp only [reU, Option.some.injEq] at hd
    subst hd
    obtain ⟨vs, hvs, hr⟩ := hv
    exact ⟨vs, hvs, HoldsL_flat e l hr⟩
  | box l => simp [reU] at hd

theorem reArgs_ok (h : Sim X ρ s a w) (hA : Apart X ρ s H) {args : List Operand} {ts : List TypeId} {us : List U} (hd : reArgs X.pd s args ts = some us) : HoldsUs w (fun b => b < w.heap.size ∧ ¬ H b) us (args.map a.eval) := by
  induction args generalizing ts us with
  | nil => simp [reArgs] at hd; subst hd; trivial
  | cons x l ih =>
    simp only [reArgs] at hd
    have hev := ev_ok h (ts.headD 0) x
    cases hx : X.pd.ev (ts.headD 0) s x with
    | tup _ => rw [hx] at hd; cases hd
    | dead => rw [hx] at hd; cases hd
    | u u =>
      rw [hx] at hev
      rw [hx] at hd
      simp only at hd
      cases hu : reU s u with
      | none => simp [hu] at hd
      | some y =>
        cases hr : reArgs X.pd s l ts.tail with
        | none => simp [hu, hr] at hd
        | some r =>
          simp only [hu, hr, Option.some.injEq] at hd
          subst hd
          exact ⟨reU_ok h hA hu hev, ih hr⟩

/-! ### What came back is taken in -/

theorem RUs_of_cells {us : List U} {vs cs : List Value} (h : Split us vs cs) (hc : RCs X ρ (cellsOf us) cs) : RUs X ρ us vs := by
  induction h with
  | nil => trivial
  | c _ ih => exact ⟨hc.1, ih hc.2⟩
  | @agg l xs us vs cs hl _ ih =>
    have h1 := RCs_take hc l.length
    have h2 := RCs_drop hc l.length
    simp only [cellsOf, U.cells, List.take_left', List.drop_left', hl] at h1 h2
    refine ⟨⟨xs, rfl, ?_⟩, ih ?_⟩
    · simpa [← hl] using h1
    · simpa [← hl] using h2
  | @vec e l xs us vs cs hl _ ih =>
    have h1 := RCs_take hc (flat e l).length
    have h2 := RCs_drop hc (flat e l).length
    simp only [cellsOf, U.cells] at h1 h2
    refine ⟨⟨xs, rfl, ?_⟩, ih ?_⟩
    · rw [List.take_left, hl, List.take_left] at h1; exact h1
    · rw [List.drop_left, hl, List.drop_left] at h2; exact h2

theorem abCs_append {pd : PD} {n m k : Nat} {a b r1 r2 : List C} {o1 o2 : List (Nat × Ob)} (h1 : abCs pd n a = some (r1, o1, m)) (h2 : abCs pd m b = some (r2, o2, k)) : abCs pd n (a ++ b) = some (r1 ++ r2, o1 ++ o2, k) := by
  induction a generalizing n r1 o1 with
  | nil => simp [abCs] at h1; obtain ⟨rfl, rfl, rfl⟩ := h1; simpa using h2
  | cons c a ih =>
    simp only [abCs] at h1
    cases hc : abC pd n c with
    | none => simp [hc] at h1
    | some p =>
      obtain ⟨d, o, n1⟩ := p
      simp only [hc] at h1
      cases hr : abCs pd n1 a with
      | none => simp [hr] at h1
      | some q =>
        obtain ⟨r, p2, k2⟩ := q
        simp only [hr, Option.some.injEq, Prod.mk.injEq] at h1
        obtain ⟨rfl, rfl, rfl⟩ := h1
        simp [abCs, hc, ih hr]

def C.plain : C → Bool
  | .u64 _ | .u32 _ | .u8 _ | .int _ | .bool _ => true
  | _ => false

theorem abC_plain {pd : PD} {n : Nat} {c : C} (h : c.plain = true) : abC pd n c = some (c, [], n) := by
  cases c <;> simp [C.plain] at h <;> rfl

theorem toC_plain (e : El) (x : e.T) : (e.toC x).all C.plain = true := by
  cases e <;> simp [El.toC, Fr.c, C.plain]

theorem abCs_plain {pd : PD} {n : Nat} {l : List C} (h : l.all C.plain = true) : abCs pd n l = some (l, [], n) := by
  induction l with
  | nil => rfl
  | cons c l ih =>
    simp only [List.all_cons, Bool.and_eq_true] at h
    simp [abCs, abC_plain h.1, ih h.2]

theorem flat_plain (e : El) (l : List e.T) : (flat e l).all C.plain = true := by
  induction l with
  | nil => rfl
  | cons x l ih => simp [flat, toC_plain, ih]

theorem abCs_len {pd : PD} {n m : Nat} {l r : List C} {o : List (Nat × Ob)} (h : abCs pd n l = some (r, o, m)) : r.length = l.length := by
  induction l generalizing n r o with
  | nil => simp [abCs] at h; simp [h.1]
  | cons c l ih =>
    simp only [abCs] at h
    cases hc : abC pd n c with
    | none => simp [hc] at h
    | some p =>
      obtain ⟨d, o1, n1⟩ := p
      simp only [hc] at h
      cases hr : abCs pd n1 l with
      | none => simp [hr] at h
      | some q =>
        obtain ⟨r', p2, k⟩ := q
        simp only [hr, Option.some.injEq, Prod.mk.injEq] at h
        obtain ⟨rfl, _, rfl⟩ := h
        simp [ih hr]

theorem abUs_cells {pd : PD} {n m : Nat} {us rs : List U} {obs : List (Nat × Ob)} (h : abUs pd n us = some (rs, obs, m)) :
    abCs pd n (cellsOf us) = some (cellsOf rs, obs, m) ∧ ∀ vs cs, Split us vs cs → Split rs vs cs := by
  induction us generalizing n rs obs with
  | nil => simp [abUs] at h; obtain ⟨rfl, rfl, rfl⟩ := h; exact ⟨rfl, fun _ _ h => h⟩
  | cons u us ih =>
    simp only [abUs] at h
    cases hc : abU pd n u with
    | none => simp [hc] at h
    | some p =>
      obtain ⟨d, o, n1⟩ := p
      simp only [hc] at h
      cases hr : abUs pd n1 us with
      | none => simp [hr] at h
      | some q =>
        obtain ⟨r, p2, k⟩ := q
        simp only [hr, Option.some.injEq, Prod.mk.injEq] at h
        obtain ⟨rfl, rfl, rfl⟩ := h
        obtain ⟨ih1, ih2⟩ := ih hr
        cases u with
        | c x =>
          simp only [abU] at hc
          cases hx : abC pd n x with
          | none => simp [hx] at hc
          | some p =>
            obtain ⟨y, o', n'⟩ := p
            simp only [hx, Option.some.injEq, Prod.mk.injEq] at hc
            obtain ⟨rfl, rfl, rfl⟩ := hc
            refine ⟨by simp [cellsOf, U.cells, abCs, hx, ih1], fun vs cs hs => ?_⟩
            cases hs with
            | c hs => exact .c (ih2 _ _ hs)
        | agg l =>
          simp only [abU] at hc
          cases hx : abCs pd n l with
          | none => simp [hx] at hc
          | some p =>
            obtain ⟨y, o', n'⟩ := p
            simp only [hx, Option.some.injEq, Prod.mk.injEq] at hc
            obtain ⟨rfl, rfl, rfl⟩ := hc
            refine ⟨abCs_append hx ih1, fun vs cs hs => ?_⟩
            cases hs with
            | agg hl hs => exact .agg (by rw [abCs_len hx, hl]) (ih2 _ _ hs)
        | vec e l =>
          simp only [abU, Option.some.injEq, Prod.mk.injEq] at hc
          obtain ⟨rfl, rfl, rfl⟩ := hc
          refine ⟨abCs_append (abCs_plain (flat_plain e l)) ih1, fun vs cs hs => ?_⟩
          cases hs with
          | vec hl hs => exact .vec hl (ih2 _ _ hs)
        | box l => simp [abU] at hc

theorem abV_ok {B : Nat → Prop} {n m : Nat} (hB : ∀ g, B g → X.w0.heap.size ≤ g ∨ X.may g) {v : V} {val : Value} {r : V} {obs : List (Nat × Ob)} (hab : abV X.pd n v = some (r, obs, m)) (hown : OwnV X.pd.els w B v val)
    (hs : Sim X ρ s a w) (hd : ∀ id x, s.get id = some x → hasB ρ id x → ¬ B (ρ id).blk) (hm : ∀ id, n ≤ id → id < m → s.men id = false) :
    ∃ ρ', Sim X ρ' (s.puts obs) a w ∧ RV X ρ' r val ∧ (s.puts obs).tm = s.tm := by
  have key : ∀ (us rs : List U) (vs : List Value) (gs : List Nat), abUs X.pd n us = some (rs, obs, m) → OwnUs X.pd.els w B us vs gs → ∃ ρ', Sim X ρ' (s.puts obs) a w ∧ RUs X ρ' rs vs ∧ (s.puts obs).tm = s.tm := by
    intro us rs vs gs hab ⟨cs, hsp, ho⟩
    obtain ⟨h1, h2⟩ := abUs_cells hab
    obtain ⟨ρ', g1, g2, _, _, _, g6⟩ := ab_ok hB cs gs n _ obs m s ρ h1 ho hs (fun id x hx hb hin => by
      exact hd id x hx hb (own_ge ho _ hin)) hm
    exact ⟨ρ', g1, RUs_of_cells (h2 _ _ hsp) g2, g6⟩
  cases v with
  | u x =>
    simp only [abV] at hab
    cases hx : abU X.pd n x with
    | none => simp [hx] at hab
    | some p =>
      obtain ⟨y, o, k⟩ := p
      simp only [hx, Option.some.injEq, Prod.mk.injEq] at hab
      obtain ⟨rfl, rfl, rfl⟩ := hab
      obtain ⟨gs, ho⟩ := hown
      obtain ⟨ρ', h1, h2, h3⟩ := key [x] [y] [val] gs (by simp [abUs, hx]) ho
      exact ⟨ρ', h1, h2.1, h3⟩
  | tup l =>
    simp only [abV] at hab
    cases hx : abUs X.pd n l with
    | none => simp [hx] at hab
    | some p =>
      obtain ⟨y, o, k⟩ := p
      simp only [hx, Option.some.injEq, Prod.mk.injEq] at hab
      obtain ⟨rfl, rfl, rfl⟩ := hab
      obtain ⟨vs, gs, hval, ho⟩ := hown
      obtain ⟨ρ', h1, h2, h3⟩ := key l y vs.toList gs hx ho
      exact ⟨ρ', h1, ⟨vs, hval, h2⟩, h3⟩
  | dead =>
    simp only [abV, Option.some.injEq, Prod.mk.injEq] at hab
    obtain ⟨rfl, rfl, rfl⟩ := hab
    exact ⟨ρ, hs, trivial, rfl⟩
where
  own_ge {els : List (Nat × El)} {cs : List C} {vs : List Value} {gs : List Nat} (h : OwnL els w B cs vs gs) : ∀ g ∈ gs, B g := by
    induction h with
    | nil => intro g hg; cases hg
    | sc _ _ ih => exact ih
    | nilr _ ih => exact ih
    | row _ _ hb _ _ _ _ _ _ ih => intro g hg; rcases List.mem_cons.1 hg with e | hg <;> first | (rw [e]; exact hb) | exact ih g hg
    | view _ hb _ _ _ _ _ _ ih => intro g hg; rcases List.mem_cons.1 hg with e | hg <;> first | (rw [e]; exact hb) | exact ih g hg

theorem Kept.frm {w' : World} (h : Frm X w) (hk : Kept w w') : Frm X w' :=
  ⟨by rw [hk.os]; exact h.os, by rw [hk.tape]; exact h.tape, by rw [hk.output]; exact h.output, Nat.le_trans h.size hk.size, fun k h1 h2 => by rw [hk.block k (Nat.lt_of_lt_of_le h1 h.size)]; exact h.block k h1 h2⟩

theorem range_mem {p : Nat → Bool} {n k : Nat} (h : anyN p (List.range' n k) = false) {i : Nat} (h1 : n ≤ i) (h2 : i < n + k) : p i = false := by
  induction k generalizing n with
  | zero => omega
  | succ k ih =>
    simp only [List.range'_succ, anyN] at h
    cases hp : p n with
    | true => simp [hp] at h
    | false =>
      simp only [hp, cond_false] at h
      by_cases e : i = n
      · rw [e]; exact hp
      · exact ih h (by omega) (by omega)

theorem does_call {o : Oper} (f : FuncId) (args : Array Operand) (ts : Array TypeId) (ho : o.op = .call ⟨.value (.func f), args, ts⟩) {g : Sg} (hg : SgPlain X.P X.pd.els f g) {us : List U} {r : g.R} {v : V} {obs : List (Nat × Ob)} {n : Nat} {rd : List Nat}
    (hus : reArgs X.pd s args.toList ts.toList = some us) (hr : g.run us = some r) (hab : abV X.pd (site o) (g.res r) = some (v, obs, n)) :
    Does X o s ⟨o.dst, v, obs, [], List.range' (site o) (n - site o), rd⟩ := by
  intro ρ a w Q h hnew
  unfold Oper.wp
  have h1 : (execOp a.eval o).run X.P w = (callFunc f (args.map a.eval)).run X.P w := by
    simp [execOp, ho, resolve, Deferred.ofValue, invoke, Act.eval]
  rw [h1]
  have h2 := hg us r hr w (args.toList.map a.eval) (fun b => b < w.heap.size ∧ ¬ False) (fun b hb => hb.1) (reArgs_ok h Apart.nothing hus)
  rw [← Array.toList_map, Array.toArray_toList] at h2
  refine h2 o a _ Q fun val w' ⟨hown, hk⟩ => ?_
  have hs1 : Sim X ρ s a w' := h.world (fun id x hx hb => hk.block _ (h.lt hx hb)) (hk.frm h.fr)
  obtain ⟨ρ', g1, g2, g3⟩ := abV_ok (fun g hg => .inl (Nat.le_trans h.fr.size hg)) hab hown hs1 (fun id x hx hb => Nat.not_le.2 (h.lt hx hb)) (fun id h1 h2 => range_mem hnew h1 (by omega))
  refine ⟨ρ', ?_⟩
  cases hd : o.dst with
  | none => simpa [Eff.app, St.dels, Act.put] using g1
  | some d => simpa [Eff.app, St.dels] using g1.set d g2

end Go.Proofs.Ytgimohchocjgcaa.V
