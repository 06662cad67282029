/- Are the program's types what they are said to be? A closed check. -/
import Derived.Test.YtgimohchocjgcaaVAN
set_option linter.unusedVariables false
set_option linter.unusedSimpArgs false
namespace Go.Proofs.Ytgimohchocjgcaa.V

def zeroB (v : Value) (c : C) : Bool :=
  match c with
  | .ro _ l => match l, v with
    | [], .slice none n k => Nat.beq n 0 && Nat.beq k 0
    | _, _ => false
  | .u64 x => match v with
    | .int .u64 n => decide (n = (x.toNat : Int))
    | _ => false
  | .u32 x => match v with
    | .int .u32 n => decide (n = (x.toNat : Int))
    | _ => false
  | .u8 x => match v with
    | .int .u8 n => decide (n = (x.toNat : Int))
    | _ => false
  | .int m => match v with
    | .int .i64 n => decide (n = m)
    | _ => false
  | .bool b => match v with
    | .bool d => b == d
    | _ => false
  | .str l => match v, l with
    | .string s, [] => Nat.beq s.data.toList.length 0
    | _, _ => false
  | .nilp => match v with
    | .pointer none => true
    | _ => false
  | _ => false

theorem zeroB_ok {v : Value} {c : C} (h : zeroB v c = true) : zeroC v c := by
  unfold zeroB at h
  split at h
  · split at h
    · simp only [Bool.and_eq_true] at h
      show _ = Value.slice none 0 0
      rw [Nat.beq_true h.1, Nat.beq_true h.2]
    · cases h
  · split at h
    · simp only [decide_eq_true_eq] at h
      subst h; rfl
    · cases h
  · split at h
    · simp only [decide_eq_true_eq] at h
      subst h; rfl
    · cases h
  · split at h
    · simp only [decide_eq_true_eq] at h
      subst h; rfl
    · cases h
  · split at h
    · simp only [decide_eq_true_eq] at h
      subst h; rfl
    · cases h
  · split at h
    · simp only [beq_iff_eq] at h
      subst h; rfl
    · cases h
  · split at h
    · rename_i s
      have h1 := List.eq_nil_of_length_eq_zero (Nat.beq_true h)
      show some (Value.string ⟨#[]⟩) = some (Value.string s)
      obtain ⟨⟨l⟩⟩ := s
      simp only at h1
      subst h1; rfl
    · cases h
  · split at h
    · rfl
    · cases h
  · cases h

def zerosB : List Value → List C → Bool
  | [], [] => true
  | v :: vs, c :: cs => zeroB v c && zerosB vs cs
  | _, _ => false

theorem zerosB_ok {vs : List Value} {cs : List C} (h : zerosB vs cs = true) : zeroCs vs cs := by
  induction vs generalizing cs with
  | nil => cases cs with
    | nil => trivial
    | cons _ _ => cases h
  | cons v vs ih => cases cs with
    | nil => cases h
    | cons c cs =>
      simp only [zerosB, Bool.and_eq_true] at h
      exact ⟨zeroB_ok h.1, ih h.2⟩

def pairsB : List (Nat × TypeId) → List (Nat × TypeId) → Bool
  | [], [] => true
  | (a, b) :: l, (c, d) :: m => (Nat.beq a c && Nat.beq b d) && pairsB l m
  | _, _ => false

theorem pairsB_ok {l m : List (Nat × TypeId)} (h : pairsB l m = true) : l = m := by
  induction l generalizing m with
  | nil => cases m with
    | nil => rfl
    | cons _ _ => cases h
  | cons p l ih => cases m with
    | nil => cases h
    | cons q m =>
      obtain ⟨a, b⟩ := p
      obtain ⟨c, d⟩ := q
      simp only [pairsB, Bool.and_eq_true] at h
      rw [Nat.beq_true h.1.1, Nat.beq_true h.1.2, ih h.2]

def kindB (P : Program) (t : TypeId) (k : TK) : Bool :=
  match k with
  | .int k => match P.underlying t with
    | some (.int k') => decide (k' = k)
    | _ => false
  | .bool => match P.underlying t with
    | some .bool => true
    | _ => false
  | .str => match P.underlying t with
    | some .string => true
    | _ => false
  | .slice e => match P.underlying t with
    | some (.slice e') => Nat.beq e' e
    | _ => false
  | .arr n e => match P.underlying t with
    | some (.array n' e') => (Nat.beq n' n && Nat.beq e' e) && !P.eqGuardType P.depth t
    | _ => false
  | .struct fs => match P.underlying t with
    | some (.struct fields) => (pairsB (fields.toList.map fun f => (f.offset, f.type)) fs && fields.toList.all (fun f => f.name != "_" && (P.info? f.type).isSome)) && (!P.eqGuardType P.depth t && !P.stoodInHeld t)
    | _ => false
  | .ptr e => match P.underlying t with
    | some (.pointer e') => Nat.beq e' e
    | _ => false

theorem kindB_ok {P : Program} {t : TypeId} {k : TK} (h : kindB P t k = true) : kindOk P t k := by
  cases k with
  | int k =>
    simp only [kindB] at h
    split at h
    · rename_i k' hk; simp only [decide_eq_true_eq] at h; subst h; exact hk
    · cases h
  | bool =>
    simp only [kindB] at h
    split at h
    · rename_i hk; exact hk
    · cases h
  | str =>
    simp only [kindB] at h
    split at h
    · rename_i hk; exact hk
    · cases h
  | slice e =>
    simp only [kindB] at h
    split at h
    · rename_i e' hk; rw [Nat.beq_true h] at hk; exact hk
    · cases h
  | arr n e =>
    simp only [kindB] at h
    split at h
    · rename_i n' e' hk
      simp only [Bool.and_eq_true, Bool.not_eq_true'] at h
      rw [Nat.beq_true h.1.1, Nat.beq_true h.1.2] at hk
      exact ⟨hk, h.2⟩
    · cases h
  | struct fs =>
    simp only [kindB] at h
    split at h
    · rename_i fields hk
      simp only [Bool.and_eq_true, Bool.not_eq_true'] at h
      exact ⟨⟨fields, hk, pairsB_ok h.1.1, h.1.2⟩, h.2.1, h.2.2⟩
    · cases h
  | ptr e =>
    simp only [kindB] at h
    split at h
    · rename_i e' hk; rw [Nat.beq_true h] at hk; exact hk
    · cases h

def Value.isAgg : Value → Bool
  | .agg _ => true
  | _ => false

def tiB (P : Program) (t : TypeId) (ti : TI) : Bool :=
  kindB P t ti.k && (Nat.beq ti.zero.length ti.size && (match P.info? t with
    | some i => Nat.beq i.size ti.size && (Nat.beq i.bytes ti.bytes && (match i.zero with
      | some z => zerosB z.cells.toList ti.zero && (Value.isAgg z == ti.k.agg)
      | none => false))
    | none => false))

theorem tiB_ok {P : Program} {t : TypeId} {ti : TI} (h : tiB P t ti = true) : TIok P t ti := by
  unfold tiB at h
  simp only [Bool.and_eq_true] at h
  obtain ⟨h1, h2, h3⟩ := h
  refine ⟨kindB_ok h1, ?_, Nat.beq_true h2⟩
  split at h3
  · rename_i i hi
    simp only [Bool.and_eq_true] at h3
    obtain ⟨h4, h5, h6⟩ := h3
    split at h6
    · rename_i z hz
      simp only [Bool.and_eq_true, beq_iff_eq] at h6
      refine ⟨i, z, hi, Nat.beq_true h4, Nat.beq_true h5, hz, zerosB_ok h6.1, fun ha => ?_, fun ha => ?_⟩
      · rw [ha] at h6
        cases z <;> simp [Value.isAgg] at h6
        exact ⟨_, rfl⟩
      · rw [ha] at h6
        cases z <;> first | rfl | simp [Value.isAgg] at h6
    · cases h6
  · cases h3

def eqCB : C → C → Bool
  | .u64 x, .u64 y => x == y
  | .u32 x, .u32 y => x == y
  | .u8 x, .u8 y => x == y
  | .int x, .int y => decide (x = y)
  | .bool x, .bool y => x == y
  | _, _ => false

def eqCsB : List C → List C → Bool
  | [], [] => true
  | a :: l, b :: m => eqCB a b && eqCsB l m
  | _, _ => false

theorem eqCsB_ok {l m : List C} (h : eqCsB l m = true) : l = m := by
  induction l generalizing m with
  | nil => cases m with
    | nil => rfl
    | cons _ _ => cases h
  | cons a l ih => cases m with
    | nil => cases h
    | cons b m =>
      simp only [eqCsB, Bool.and_eq_true] at h
      have : a = b := by
        have h1 := h.1
        unfold eqCB at h1
        split at h1 <;> first | (cases h1; done) | (simp at h1; rw [h1])
      rw [this, ih h.2]

def pdB (P : Program) (pd : PD) : Bool :=
  pd.tys.all (fun p => tiB P p.1 p.2 && wfTI pd p.2) && (pd.els.all (fun p => (match pd.ti p.1 with
      | some ti => Nat.beq ti.size p.2.size && eqCsB ti.zero (p.2.toC p.2.zero)
      | none => false) && (match pd.el p.1 with
      | some e => Nat.beq e.idx p.2.idx
      | none => false)) && ((match pd.ti 3 with
      | some ti => eqCsB ti.zero [.int 0]
      | none => false) && ((match pd.ti 4 with
      | some ti => eqCsB ti.zero [.bool false]
      | none => false) && P.follows .mixedOrders)))

theorem elTy_mem {e : El} {l : List (Nat × El)} {t : Nat} (h : elTy e l = some t) : ∃ f, (t, f) ∈ l ∧ e = f := by
  induction l with
  | nil => cases h
  | cons p l ih =>
    obtain ⟨j, f⟩ := p
    unfold elTy at h
    cases hb : Nat.beq e.idx f.idx with
    | true => rw [hb] at h; simp only [cond_true, Option.some.injEq] at h; subst h; exact ⟨f, List.mem_cons_self, idx_inj hb⟩
    | false =>
      rw [hb] at h
      obtain ⟨f', h1, h2⟩ := ih h
      exact ⟨f', List.mem_cons_of_mem _ h1, h2⟩

theorem pdB_ok {P : Program} {pd : PD} (h : pdB P pd = true) : PDok P pd := by
  unfold pdB at h
  simp only [Bool.and_eq_true, List.all_eq_true] at h
  obtain ⟨h1, h2, h3, h4, h5⟩ := h
  refine ⟨fun t ti ht => tiB_ok (h1 _ (look_mem ht)).1, fun t ti ht => (h1 _ (look_mem ht)).2, fun t e he => ?_, fun t e he => ?_, ?_, ?_, h5⟩
  · have := (h2 _ (look_mem he)).1
    simp only at this
    split at this
    · rename_i ti hti
      simp only [Bool.and_eq_true] at this
      exact ⟨ti, hti, Nat.beq_true this.1, eqCsB_ok this.2⟩
    · cases this
  · obtain ⟨f, hf, rfl⟩ := elTy_mem he
    have := (h2 _ hf).2
    simp only at this
    split at this
    · rename_i g hg; rw [hg, idx_inj this]
    · cases this
  · split at h3
    · rename_i ti hti; exact ⟨ti, hti, eqCsB_ok h3⟩
    · cases h3
  · split at h4
    · rename_i ti hti; exact ⟨ti, hti, eqCsB_ok h4⟩
    · cases h4

end Go.Proofs.Ytgimohchocjgcaa.V
