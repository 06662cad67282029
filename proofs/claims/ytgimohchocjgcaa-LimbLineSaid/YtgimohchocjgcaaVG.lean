/- What the program's types are, checked; operations that only reckon. -/
import Derived.Test.YtgimohchocjgcaaVF
import Derived.Laws.StructEq
import Derived.Laws.Wrap64
set_option linter.unusedVariables false
set_option linter.unusedSimpArgs false
namespace Go.Proofs.Ytgimohchocjgcaa.V

/-! ### Types -/

def kindOk (P : Program) (t : TypeId) : TK → Prop
  | .int k => P.underlying t = some (.int k)
  | .bool => P.underlying t = some .bool
  | .str => P.underlying t = some .string
  | .slice e => P.underlying t = some (.slice e)
  | .arr n e => P.underlying t = some (.array n e) ∧ P.eqGuardType P.depth t = false
  | .struct fs => (∃ fields : Array Field, P.underlying t = some (.struct fields) ∧ fields.toList.map (fun f => (f.offset, f.type)) = fs ∧ fields.toList.all (fun f => f.name != "_" && (P.info? f.type).isSome) = true) ∧ P.eqGuardType P.depth t = false ∧ P.stoodInHeld t = false
  | .ptr e => P.underlying t = some (.pointer e)

def zeroC (v : Value) (c : C) : Prop :=
  match c with
  | .ro _ [] => v = .slice none 0 0
  | c => c.val = some v

def zeroCs : List Value → List C → Prop
  | [], [] => True
  | v :: vs, c :: cs => zeroC v c ∧ zeroCs vs cs
  | _, _ => False

structure TIok (P : Program) (t : TypeId) (ti : TI) : Prop where
  kind : kindOk P t ti.k
  info : ∃ i z, P.info? t = some i ∧ i.size = ti.size ∧ i.bytes = ti.bytes ∧ i.zero = some z ∧ zeroCs z.cells.toList ti.zero ∧ (ti.k.agg = true → ∃ cs, z = .agg cs) ∧ (ti.k.agg = false → z.cells = #[z])
  size : ti.zero.length = ti.size

def wfTI (pd : PD) (ti : TI) : Bool :=
  match ti.k with
  | .arr n e => match pd.ti e with
    | some ei => Nat.beq ti.size (n * ei.size)
    | none => true
  | .struct fs => fs.all (fun f => match pd.ti f.2 with | some fi => Nat.ble (f.1 + fi.size) ti.size | none => true) &&
      (match fs with
        | [(0, u)] => match pd.ti u with
          | some ui => Nat.beq ti.size ui.size
          | none => true
        | _ => true)
  | _ => true

structure PDok (P : Program) (pd : PD) : Prop where
  ti : ∀ t ti, pd.ti t = some ti → TIok P t ti
  wf : ∀ t ti, pd.ti t = some ti → wfTI pd ti = true
  el : ∀ t e, pd.el t = some e → ∃ ti, pd.ti t = some ti ∧ ti.size = e.size ∧ ti.zero = e.toC e.zero
  inj : ∀ t e, elTy e pd.els = some t → pd.el t = some e
  i3 : ∃ ti, pd.ti 3 = some ti ∧ ti.zero = [.int 0]
  i4 : ∃ ti, pd.ti 4 = some ti ∧ ti.zero = [.bool false]
  mix : P.follows .mixedOrders = true

variable {X : Ctx} {ρ : Nat → RI} {s : St} {a : Act} {w : World}

theorem RCs_length {l : List C} {vs : List Value} (h : RCs X ρ l vs) : l.length = vs.length := by
  induction l generalizing vs with
  | nil => cases vs with
    | nil => rfl
    | cons v vs => exact h.elim
  | cons c l ih => cases vs with
    | nil => exact h.elim
    | cons v vs => simp [ih h.2]

theorem RCs_get {l : List C} {vs : List Value} (h : RCs X ρ l vs) (j : Nat) (c : C) (hc : l[j]? = some c) : ∃ v, vs[j]? = some v ∧ RC X ρ c v := by
  induction l generalizing vs j with
  | nil => simp at hc
  | cons d l ih => cases vs with
    | nil => exact h.elim
    | cons v vs =>
      cases j with
      | zero => simp at hc; subst hc; exact ⟨v, by simp, h.1⟩
      | succ j => simpa using ih h.2 j (by simpa using hc)

theorem RCs_append {l m : List C} {vs us : List Value} (h : RCs X ρ l vs) (h2 : RCs X ρ m us) : RCs X ρ (l ++ m) (vs ++ us) := by
  induction l generalizing vs with
  | nil => cases vs with
    | nil => exact h2
    | cons v vs => exact h.elim
  | cons c l ih => cases vs with
    | nil => exact h.elim
    | cons v vs => exact ⟨h.1, ih h.2⟩

theorem RCs_take {l : List C} {vs : List Value} (h : RCs X ρ l vs) (n : Nat) : RCs X ρ (l.take n) (vs.take n) := by
  induction l generalizing vs n with
  | nil => cases vs with
    | nil => simp [RCs]
    | cons v vs => exact h.elim
  | cons c l ih => cases vs with
    | nil => exact h.elim
    | cons v vs => cases n with
      | zero => simp [RCs]
      | succ n => exact ⟨h.1, ih h.2 n⟩

theorem RCs_drop {l : List C} {vs : List Value} (h : RCs X ρ l vs) (n : Nat) : RCs X ρ (l.drop n) (vs.drop n) := by
  induction l generalizing vs n with
  | nil => cases vs with
    | nil => simp [RCs]
    | cons v vs => exact h.elim
  | cons c l ih => cases vs with
    | nil => exact h.elim
    | cons v vs => cases n with
      | zero => exact h
      | succ n => exact ih h.2 n

theorem RCs_splice {l m : List C} {vs us : List Value} (h : RCs X ρ l vs) (h2 : RCs X ρ m us) (n : Nat) : RCs X ρ (splice l n m) (splice vs n us) := by
  unfold splice
  rw [RCs_length h2]
  exact RCs_append (RCs_take h n) (RCs_append h2 (RCs_drop h _))

/-- A scalar stands for its value. -/
theorem RC_val {c : C} {v : Value} (h : c.val = some v) : RC X ρ c v := by
  cases c <;> first | exact Holds.sc h | (simp [C.val] at h; done)

theorem val_of_RC {c : C} {v u : Value} (hv : c.val = some u) (h : RC X ρ c v) : v = u := by
  cases c <;> simp [C.val] at hv <;> (cases h with | sc h => simp [C.val] at h; rw [← h, hv])

theorem RC_zero {v : Value} {c : C} (h : zeroC v c) : RC X ρ c v := by
  unfold zeroC at h
  split at h
  · subst h; exact Holds.emp
  · exact RC_val h

theorem RCs_zero {vs : List Value} {cs : List C} (h : zeroCs vs cs) : RCs X ρ cs vs := by
  induction cs generalizing vs with
  | nil => cases vs with
    | nil => trivial
    | cons v vs => exact h.elim
  | cons c cs ih => cases vs with
    | nil => exact h.elim
    | cons v vs => exact ⟨RC_zero h.1, ih h.2⟩

/-! ### Literal values -/

theorem ofCell_ok {v : Value} {z : C} : RC X ρ (ofCell v z) v := by
  unfold ofCell
  split
  case h_1 n =>
    cases h : inRange n 18446744073709551616 with
    | false => exact trivial
    | true =>
      refine RC_val ?_
      cases n with
      | negSucc k => simp [inRange] at h
      | ofNat k =>
        have : k < 18446744073709551616 := by simpa [inRange, Nat.blt_eq] using h
        simp [C.val, Nat.mod_eq_of_lt this]
  case h_2 n =>
    cases h : inRange n 4294967296 with
    | false => exact trivial
    | true =>
      refine RC_val ?_
      cases n with
      | negSucc k => simp [inRange] at h
      | ofNat k =>
        have : k < 4294967296 := by simpa [inRange, Nat.blt_eq] using h
        simp [C.val, Nat.mod_eq_of_lt this]
  case h_3 n =>
    cases h : inRange n 256 with
    | false => exact trivial
    | true =>
      refine RC_val ?_
      cases n with
      | negSucc k => simp [inRange] at h
      | ofNat k =>
        have : k < 256 := by simpa [inRange, Nat.blt_eq] using h
        simp [C.val, Nat.mod_eq_of_lt this]
  case h_4 n => exact RC_val rfl
  case h_5 b => exact RC_val rfl
  case h_6 b => exact RC_val (by simp [C.val])
  case h_7 => exact RC_val rfl
  case h_8 n c =>
    split
    · cases h : (Nat.beq n 0 && Nat.beq c 0) with
      | false => exact trivial
      | true =>
        simp only [Bool.and_eq_true] at h
        have h1 := Nat.beq_true h.1
        have h2 := Nat.beq_true h.2
        subst h1; subst h2
        exact Holds.emp
    · exact trivial
  case h_9 => exact trivial

theorem ofCells_ok {vs : List Value} {zs : List C} (h : vs.length = zs.length) : RCs X ρ (ofCells vs zs) vs := by
  induction vs generalizing zs with
  | nil => cases zs with
    | nil => trivial
    | cons z zs => simp at h
  | cons v vs ih => cases zs with
    | nil => simp at h
    | cons z zs => exact ⟨ofCell_ok, ih (by simpa using h)⟩

theorem mkU_spec {pd : PD} {t : TypeId} {cs : List C} {u : U} (h : pd.mkU t cs = some u) :
    ∃ ti, pd.ti t = some ti ∧ u.cells = cs ∧ ((ti.k.agg = true ∧ ((∃ l, u = .agg l) ∨ ∃ e l, u = .vec e l)) ∨ (ti.k.agg = false ∧ ∃ c, u = .c c ∧ cs = [c])) := by
  unfold PD.mkU at h
  cases ha : pd.arrLike t with
  | some p =>
    obtain ⟨n, e⟩ := p
    simp only [ha] at h
    have : ∃ ti, pd.ti t = some ti ∧ ti.k.agg = true := by
      unfold PD.arrLike at ha
      split at ha
      · rename_i h1; exact ⟨_, h1, rfl⟩
      · rename_i h1; exact ⟨_, h1, rfl⟩
      · cases ha
    obtain ⟨ti, h1, h2⟩ := this
    split at h
    · rename_i l hl
      cases h
      exact ⟨ti, h1, (chunks_spec e n cs l hl).1.symm, .inl ⟨h2, .inr ⟨e, l, rfl⟩⟩⟩
    · cases h
  | none =>
    simp only [ha] at h
    split at h
    · rename_i h1; cases h; exact ⟨_, h1, rfl, .inl ⟨rfl, .inl ⟨_, rfl⟩⟩⟩
    · rename_i h1; cases h; exact ⟨_, h1, rfl, .inl ⟨rfl, .inl ⟨_, rfl⟩⟩⟩
    · rename_i ti n1 n2 h1
      split at h
      · rename_i c
        cases h
        refine ⟨ti, h1, rfl, .inr ⟨?_, c, rfl, rfl⟩⟩
        obtain ⟨k, sz, by', z⟩ := ti
        cases k
        case arr n' e' => exact (n2 n' e' sz by' z rfl).elim
        case struct fs => exact (n1 fs sz by' z rfl).elim
        all_goals rfl
      · cases h
    · cases h

/-- A value of a type: its cells as they stand. -/
def valOf (agg : Bool) (vs : List Value) : Value := if agg then .agg vs.toArray else vs.headD undef

theorem mkU_ok {pd : PD} {t : TypeId} {cs : List C} {u : U} {vs : List Value} (h : pd.mkU t cs = some u) (hc : RCs X ρ cs vs) {ti : TI} (hti : pd.ti t = some ti) : RU X ρ u (valOf ti.k.agg vs) := by
  obtain ⟨ti', h1, h2, h3⟩ := mkU_spec h
  rw [hti] at h1; cases h1
  rcases h3 with ⟨h4, h5⟩ | ⟨h4, c, rfl, rfl⟩
  · simp only [valOf, h4, if_true]
    rcases h5 with ⟨l, rfl⟩ | ⟨e, l, rfl⟩
    · exact ⟨_, rfl, by rw [← h2] at hc; exact hc⟩
    · exact ⟨_, rfl, by rw [← h2] at hc; exact hc⟩
  · cases vs with
    | nil => exact hc.elim
    | cons v vs => simp [valOf, h4, RU]; exact hc.1

theorem ofVal_ok (t : TypeId) (v : Value) : RV X ρ (X.pd.ofVal t v) v := by
  unfold PD.ofVal
  cases hti : X.pd.ti t with
  | none =>
    simp only
    split
    · exact ofCell_ok
    · exact RC_val (ρ := ρ) (c := .bool _) rfl
    · trivial
  | some ti =>
    simp only
    split
    · rename_i cs
      cases hb : (ti.k.agg && Nat.beq cs.toList.length ti.zero.length) with
      | false => trivial
      | true =>
        simp only [cond_true]
        simp only [Bool.and_eq_true] at hb
        have hl := Nat.beq_true hb.2
        cases hm : X.pd.mkU t (ofCells cs.toList ti.zero) with
        | none => trivial
        | some u =>
          simp only
          have := mkU_ok hm (ofCells_ok (X := X) (ρ := ρ) hl) hti
          simpa [RV, valOf, hb.1] using this
    · split
      · exact ofCell_ok
      · trivial

end Go.Proofs.Ytgimohchocjgcaa.V
