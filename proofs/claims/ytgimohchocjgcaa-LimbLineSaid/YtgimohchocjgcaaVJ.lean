/- Operations that only reckon: what the evaluator says, the model does. -/
import Derived.Test.YtgimohchocjgcaaVI
import Derived.Test.YtgimohchocjgcaaVC
set_option linter.unusedVariables false
set_option linter.unusedSimpArgs false
namespace Go.Proofs.Ytgimohchocjgcaa.V

variable {X : Ctx} {ρ : Nat → RI} {s : St} {a : Act} {w : World}

theorem ev_ok (h : Sim X ρ s a w) (t : TypeId) (x : Operand) : RV X ρ (X.pd.ev t s x) (a.eval x) := by
  cases x with
  | tmp i => exact h.eval i
  | const v => exact ofVal_ok t v
  | global g => trivial
  | func f => trivial

def Does (X : Ctx) (o : Oper) (s : St) (f : Eff) : Prop :=
  ∀ ρ a w Q, Sim X ρ s a w → anyN s.men f.new = false → o.wp X.P a w (fun a' w' => ∃ ρ', Sim X ρ' (f.app s) a' w') Q

/-- An operation that yields a value and leaves the world. -/
theorem wp_val {o : Oper} {v : V} {x : Value} {rd : List Nat} {Q : Exit → Act → World → Prop} (h : Sim X ρ s a w) (hr : (execOp a.eval o).run X.P w = .ok (.value x) w) (hv : RV X ρ v x) :
    o.wp X.P a w (fun a' w' => ∃ ρ', Sim X ρ' ((⟨o.dst, v, [], [], [], rd⟩ : Eff).app s) a' w') Q := by
  unfold Oper.wp
  rw [hr]
  refine ⟨ρ, ?_⟩
  cases hd : o.dst with
  | none => simpa [Eff.app, St.dels, St.puts, Act.put] using h
  | some d => simpa [Eff.app, St.dels, St.puts] using h.set d hv

theorem val_some {o : Oper} {v : V} {rd : List Nat} {f : Eff} (h : val o v rd some = some f) : f = ⟨o.dst, v, [], [], [], rd⟩ := by
  simpa [val] using h.symm

theorem must_some {R : Type} {g : Bool} {x : Option R} {r : R} (h : must g x = some r) : g = true ∧ x = some r := cond_some h

theorem c?_spec {v : V} {c : C} (h : v.c? = some c) : v = .u (.c c) := by
  unfold V.c? at h
  split at h
  · cases h; rfl
  · cases h

theorem bool?_spec {v : V} {b : Bool} (h : v.bool? = some b) : v = .u (.c (.bool b)) := by
  unfold V.bool? at h
  split at h
  · cases h; rfl
  · cases h

theorem ev_c (h : Sim X ρ s a w) {t : TypeId} {x : Operand} {c : C} (hc : (X.pd.ev t s x).c? = some c) : RC X ρ c (a.eval x) := by
  have := ev_ok h t x
  rwa [c?_spec hc] at this

theorem ev_bool (h : Sim X ρ s a w) {t : TypeId} {x : Operand} {b : Bool} (hc : (X.pd.ev t s x).bool? = some b) : a.eval x = .bool b := by
  have := ev_ok h t x
  rw [bool?_spec hc] at this
  exact val_of_RC (X := X) (ρ := ρ) (c := .bool b) rfl this

theorem isInt_spec {c : C} {n : Int} {v : Value} (h : c.isInt = some n) (hr : RC X ρ c v) : ∃ k, v = .int k n := by
  cases c <;> simp [C.isInt] at h <;> subst h
  case u64 x => exact ⟨_, val_of_RC (X := X) (ρ := ρ) rfl hr⟩
  case u32 x => exact ⟨_, val_of_RC (X := X) (ρ := ρ) rfl hr⟩
  case u8 x => exact ⟨_, val_of_RC (X := X) (ρ := ρ) rfl hr⟩
  case int x => exact ⟨_, val_of_RC (X := X) (ρ := ρ) rfl hr⟩

theorem ev_int (h : Sim X ρ s a w) {t : TypeId} {x : Operand} {n : Int} (hc : (X.pd.ev t s x).int? = some n) : ∃ k, a.eval x = .int k n := by
  have := ev_ok h t x
  unfold V.int? at hc
  split at hc
  · rename_i c he
    rw [he] at this
    exact isInt_spec hc this
  · cases hc

/-! ### Moves -/

theorem does_move {o : Oper} (x : Operand) (ho : o.op = .move x ∨ o.op = .assign x) {rd : List Nat} : Does X o s ⟨o.dst, X.pd.ev o.type s x, [], [], [], rd⟩ := by
  intro ρ a w Q h _
  refine wp_val h ?_ (ev_ok h o.type x)
  rcases ho with ho | ho <;> simp [execOp, ho]

theorem does_pick {o : Oper} (c x y : Operand) (ho : o.op = .pick c x y) {t : Bool} (hc : (X.pd.ev 4 s c).bool? = some t) {rd : List Nat} :
    Does X o s ⟨o.dst, X.pd.ev o.type s (if t then x else y), [], [], [], rd⟩ := by
  intro ρ a w Q h _
  refine wp_val h ?_ (ev_ok h o.type _)
  have := ev_bool h hc
  cases t <;> simp [execOp, ho, this, asBool]

theorem RUs_get {l : List U} {vs : List Value} (h : RUs X ρ l vs) (j : Nat) (c : U) (hc : l[j]? = some c) : ∃ v, vs[j]? = some v ∧ RU X ρ c v := by
  induction l generalizing vs j with
  | nil => simp at hc
  | cons d l ih => cases vs with
    | nil => exact h.elim
    | cons v vs =>
      cases j with
      | zero => simp at hc; subst hc; exact ⟨v, by simp, h.1⟩
      | succ j => simpa using ih h.2 j (by simpa using hc)

theorem does_extract {o : Oper} (x : Operand) (i : Nat) (ho : o.op = .extract x i) {l : List U} {u : U} (hx : X.pd.ev 0 s x = .tup l) (hu : l[i]? = some u) {rd : List Nat} :
    Does X o s ⟨o.dst, .u u, [], [], [], rd⟩ := by
  intro ρ a w Q h _
  have hv := ev_ok h 0 x
  rw [hx] at hv
  obtain ⟨vs, h1, h2⟩ := hv
  have : ∃ v, vs[i]? = some v ∧ RU X ρ u v := by
    rw [← Array.getElem?_toList]
    exact RUs_get h2 i u hu
  obtain ⟨v, hv1, hv2⟩ := this
  refine wp_val h ?_ hv2
  simp [execOp, ho, h1, Instr.extract, hv1]

/-! ### Numbers -/

theorem binC_vals {op : BinOp} {x y c : C} (h : binC op x y = some c) : (∃ v, x.val = some v) ∧ ∃ v, y.val = some v := by
  unfold binC at h
  split at h <;> first | cases h | exact ⟨⟨_, rfl⟩, ⟨_, rfl⟩⟩

theorem does_bin {o : Oper} (op : BinOp) (t t' : TypeId) (x y : Operand) (ho : o.op = .binOp op t x y t') {p q c : C} (hx : X.pd.ev t s x = .u (.c p)) (hy : X.pd.ev t' s y = .u (.c q))
    (hc : binC op p q = some c) (ht : ∀ a b, p = .bool a → q = .bool b → X.P.underlying t = some .bool) {rd : List Nat} : Does X o s ⟨o.dst, .u (.c c), [], [], [], rd⟩ := by
  intro ρ a w Q h _
  have h1 := ev_ok h t x
  have h2 := ev_ok h t' y
  rw [hx] at h1
  rw [hy] at h2
  obtain ⟨⟨vp, hp⟩, ⟨vq, hq⟩⟩ := binC_vals hc
  have e1 := val_of_RC hp h1
  have e2 := val_of_RC hq h2
  obtain ⟨v, hv, hr⟩ := bin_ok (P := X.P) t x y w hc hp hq ht
  refine wp_val h ?_ (show RV X ρ (.u (.c c)) v from RC_val hv)
  simp only [execOp, ho, e1, e2, Sem.run_bind] at hr ⊢
  rw [hr]
  rfl

/-- An operation of two numbers, by what it comes to. -/
theorem does_bin_run {o : Oper} (op : BinOp) (t t' : TypeId) (x y : Operand) (ho : o.op = .binOp op t x y t') {p q c : C} {vp vq vc : Value} (hx : X.pd.ev t s x = .u (.c p)) (hy : X.pd.ev t' s y = .u (.c q))
    (hp : p.val = some vp) (hq : q.val = some vq) (hc : c.val = some vc) (hr : ∀ w, (do eqGuard op t x y vp vq; binOp op t vp vq : Sem Value).run X.P w = .ok vc w) {rd : List Nat} : Does X o s ⟨o.dst, .u (.c c), [], [], [], rd⟩ := by
  intro ρ a w Q h _
  have h1 := ev_ok h t x
  have h2 := ev_ok h t' y
  rw [hx] at h1
  rw [hy] at h2
  have e1 := val_of_RC hp h1
  have e2 := val_of_RC hq h2
  refine wp_val h ?_ (show RV X ρ (.u (.c c)) vc from RC_val hc)
  have hr := hr w
  simp only [execOp, ho, e1, e2, Sem.run_bind] at hr ⊢
  rw [hr]
  rfl

theorem run_quo {P : Program} {w : World} (k : IntKind) (x y : Int) (h : y ≠ 0) : (Op.intDiv .quo k x y).run P w = .ok (.int k (k.wrap (x.tdiv y))) w := by simp [Op.intDiv, h]
theorem run_rem {P : Program} {w : World} (k : IntKind) (x y : Int) (h : y ≠ 0) : (Op.intDiv .rem k x y).run P w = .ok (.int k (x.tmod y)) w := by simp [Op.intDiv, h]

theorem quo64 (x y : UInt64) : IntKind.u64.wrap ((x.toNat : Int).tdiv y.toNat) = ((x / y).toNat : Int) := by
  have h1 := x.toNat_lt
  have h2 : x.toNat / y.toNat ≤ x.toNat := Nat.div_le_self _ _
  have h3 : (x.toNat : Int) / y.toNat = ((x.toNat / y.toNat : Nat) : Int) := rfl
  rw [wrap_u64, Int.tdiv_eq_ediv_of_nonneg (by omega), UInt64.toNat_div, h3]; clear h3; generalize x.toNat / y.toNat = q at h2 ⊢; omega
theorem rem64 (x y : UInt64) : ((x.toNat : Int).tmod y.toNat) = ((x % y).toNat : Int) := by
  rw [Int.tmod_eq_emod_of_nonneg (by omega), UInt64.toNat_mod]; omega
theorem quo8 (x y : UInt8) : IntKind.u8.wrap ((x.toNat : Int).tdiv y.toNat) = ((x / y).toNat : Int) := by
  have h1 := x.toNat_lt
  have h2 : x.toNat / y.toNat ≤ x.toNat := Nat.div_le_self _ _
  have h3 : (x.toNat : Int) / y.toNat = ((x.toNat / y.toNat : Nat) : Int) := rfl
  rw [wrap_u8', Int.tdiv_eq_ediv_of_nonneg (by omega), UInt8.toNat_div, h3]; clear h3; generalize x.toNat / y.toNat = q at h2 ⊢; omega
theorem rem8 (x y : UInt8) : ((x.toNat : Int).tmod y.toNat) = ((x % y).toNat : Int) := by
  rw [Int.tmod_eq_emod_of_nonneg (by omega), UInt8.toNat_mod]; omega

theorem ne64 {y : UInt64} (h : (!(y == 0)) = true) : (y.toNat : Int) ≠ 0 := by
  intro e
  have : y = 0 := UInt64.toNat_inj.1 (by simpa using e)
  simp [this] at h
theorem ne8 {y : UInt8} (h : (!(y == 0)) = true) : (y.toNat : Int) ≠ 0 := by
  intro e
  have : y = 0 := UInt8.toNat_inj.1 (by simpa using e)
  simp [this] at h
theorem neI {y : Int} (h : (!eqI y 0) = true) : y ≠ 0 := by
  intro e
  simp [e, eqI] at h

theorem does_un {o : Oper} (op : UnOp) (t : TypeId) (x : Operand) (ho : o.op = .unOp op t x) {p c : C} {vp vc : Value} (hx : (X.pd.ev t s x).c? = some p) (hp : p.val = some vp) (hc : c.val = some vc)
    (hr : ∀ w, (Op.unary op vp).run X.P w = .ok vc w) {rd : List Nat} : Does X o s ⟨o.dst, .u (.c c), [], [], [], rd⟩ := by
  intro ρ a w Q h _
  have e1 := val_of_RC hp (ev_c h hx)
  refine wp_val h ?_ (show RV X ρ (.u (.c c)) vc from RC_val hc)
  simp only [execOp, ho, e1, Sem.run_bind, hr w]
  rfl

theorem conv_ok {k : IntKind} {c d : C} (h : convC k c = some d) : ∃ j n, c.val = some (.int j n) ∧ d.val = some (.int k (k.wrap n)) := by
  have a64 : ∀ x : UInt64, IntKind.u64.wrap (x.toNat : Int) = x.toNat := fun x => by rw [wrap_u64]; have := x.toNat_lt; omega
  have a32 : ∀ x : UInt32, IntKind.u32.wrap (x.toNat : Int) = x.toNat := fun x => by rw [wrap_u32']; have := x.toNat_lt; omega
  have a8 : ∀ x : UInt8, IntKind.u8.wrap (x.toNat : Int) = x.toNat := fun x => by rw [wrap_u8']; have := x.toNat_lt; omega
  unfold convC at h
  split at h <;> first | (injection h with h; subst h; refine ⟨_, _, rfl, ?_⟩) | cases h
  · exact congrArg (fun n => some (Value.int .u64 n)) (a64 _).symm
  · rename_i x
    refine congrArg (fun n => some (Value.int .u64 n)) ?_
    have := x.toNat_lt
    rw [wrap_u64, UInt64.toNat_ofNat']; omega
  · rename_i x
    refine congrArg (fun n => some (Value.int .u64 n)) ?_
    have := x.toNat_lt
    rw [wrap_u64, UInt64.toNat_ofNat']; omega
  · rename_i n
    refine congrArg (fun n => some (Value.int .u64 n)) ?_
    rw [wrap_u64, u64I, UInt64.toNat_ofNat']; omega
  · rename_i x
    refine congrArg (fun n => some (Value.int .u32 n)) ?_
    rw [wrap_u32', UInt32.toNat_ofNat']; omega
  · exact congrArg (fun n => some (Value.int .u32 n)) (a32 _).symm
  · rename_i x
    refine congrArg (fun n => some (Value.int .u32 n)) ?_
    have := x.toNat_lt
    rw [wrap_u32', UInt32.toNat_ofNat']; omega
  · rename_i n
    refine congrArg (fun n => some (Value.int .u32 n)) ?_
    rw [wrap_u32', u32I, UInt32.toNat_ofNat']; omega
  · rename_i x
    refine congrArg (fun n => some (Value.int .u8 n)) ?_
    rw [wrap_u8', UInt8.toNat_ofNat']; omega
  · rename_i x
    refine congrArg (fun n => some (Value.int .u8 n)) ?_
    rw [wrap_u8', UInt8.toNat_ofNat']; omega
  · exact congrArg (fun n => some (Value.int .u8 n)) (a8 _).symm
  · rename_i n
    refine congrArg (fun n => some (Value.int .u8 n)) ?_
    rw [wrap_u8', u8I, UInt8.toNat_ofNat']; omega
  · rfl
  · rename_i x
    refine congrArg (fun n => some (Value.int .i64 n)) ?_
    have := x.toNat_lt
    rw [IntKind.wrap_i64]; omega
  · rename_i x
    refine congrArg (fun n => some (Value.int .i64 n)) ?_
    have := x.toNat_lt
    rw [IntKind.wrap_i64]; omega
  · rfl

end Go.Proofs.Ytgimohchocjgcaa.V
