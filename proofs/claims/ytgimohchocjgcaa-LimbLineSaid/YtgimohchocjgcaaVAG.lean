/- An operation looks at its operands and at what they lead to, and at nothing else. -/
import Derived.Test.YtgimohchocjgcaaVAF
set_option linter.unusedVariables false
set_option linter.unusedSimpArgs false
namespace Go.Proofs.Ytgimohchocjgcaa.V

variable {R : Type} {pd : PD} {env : Nat → Option Sg} {s s2 : St}

/-- Two states are the same at these objects. -/
def Same (s s2 : St) (l : List Nat) : Prop := ∀ id ∈ l, s2.get id = s.get id

theorem Same.append {l m : List Nat} (h : Same s s2 (l ++ m)) : Same s s2 l ∧ Same s s2 m :=
  ⟨fun id hid => h id (List.mem_append_left _ hid), fun id hid => h id (List.mem_append_right _ hid)⟩

theorem reC_same {c : C} (h : Same s s2 (idC c)) : reC s2 c = reC s c := by
  cases c <;> simp only [reC] <;> (try rfl) <;> rw [h _ (by simp [idC])]

theorem reCs_same {l : List C} (h : Same s s2 (idCs l)) : reCs s2 l = reCs s l := by
  induction l with
  | nil => rfl
  | cons c l ih =>
    obtain ⟨h1, h2⟩ := Same.append h
    simp only [reCs, reC_same h1, ih h2]

theorem reU_same {u : U} (h : Same s s2 u.ids) : reU s2 u = reU s u := by
  cases u with
  | c x => simp only [reU, reC_same h]
  | agg l => simp only [reU, reCs_same h]
  | vec e l => rfl
  | box l => rfl

theorem idx_same {t : TypeId} {c : C} {n : Int} (h : Same s s2 (idC c)) : pd.idx t s2 c n = pd.idx t s c n := by
  cases c <;> simp only [PD.idx] <;> (try rfl) <;> rw [h _ (by simp [idC])]

theorem brn_same {t : TypeId} {c : C} (h : Same s s2 (idC c)) : pd.brn t s2 c = pd.brn t s c := by
  cases c <;> simp only [PD.brn] <;> (try rfl) <;> rw [h _ (by simp [idC])]

theorem part_same {t : TypeId} {c : C} {l u : Option Int} (h : Same s s2 (idC c)) : pd.part t s2 c l u = pd.part t s c l u := by
  unfold PD.part
  cases c with
  | row id => simp only; rw [h _ (by simp [idC])]
  | sl id i n => simp only; rw [h _ (by simp [idC])]
  | ptr id i n => cases i <;> cases n <;> simp only <;> rw [h _ (by simp [idC])]
  | _ => rfl

theorem list_same {c : C} (h : Same s s2 (idC c)) : s2.list c = s.list c := by
  cases c <;> simp only [St.list] <;> (try rfl) <;> rw [h _ (by simp [idC])]

theorem lenC_same {c : C} (h : Same s s2 (idC c)) : lenC s2 c = lenC s c := by
  cases c <;> simp only [lenC] <;> (try rfl) <;> rw [h _ (by simp [idC])]

/-- Alike for an operand: its value, and what it leads to. -/
def Alike (pd : PD) (s s2 : St) (x : Operand) : Prop := ∀ t, pd.ev t s2 x = pd.ev t s x ∧ Same s s2 (pd.ev t s x).ids

theorem ids_men {v : V} {id : Nat} (h : id ∈ v.ids) : v.men id = true := by
  have hc : ∀ c : C, id ∈ idC c → c.men id = true := by
    intro c hc
    cases c <;> simp [idC] at hc <;> simp [C.men, hc]
  have hcs : ∀ l : List C, id ∈ idCs l → anyC (C.men id) l = true := by
    intro l
    induction l with
    | nil => intro h; cases h
    | cons c l ih =>
      intro h
      rcases List.mem_append.1 h with h | h
      · simp [anyC, hc c h]
      · simp only [anyC, ih h]; cases c.men id <;> rfl
  have hu : ∀ u : U, id ∈ u.ids → u.men id = true := by
    intro u hu
    cases u with
    | c x => exact hc x hu
    | agg l => exact hcs l hu
    | vec e l => cases hu
    | box l => cases hu
  have hus : ∀ l : List U, id ∈ idUs l → anyU (U.men id) l = true := by
    intro l
    induction l with
    | nil => intro h; cases h
    | cons c l ih =>
      intro h
      rcases List.mem_append.1 h with h | h
      · simp [anyU, hu c h]
      · simp only [anyU, ih h]; cases c.men id <;> rfl
  cases v with
  | u x => exact hu x h
  | tup l => exact hus l h
  | dead => cases h

theorem alike_of {x : Operand} (h1 : ∀ t, x = .tmp t → s2.tm.getD t .dead = s.tm.getD t .dead) (h2 : ∀ t, x = .tmp t → Same s s2 (s.tm.getD t .dead).ids) : Alike pd s s2 x := by
  intro t
  cases x with
  | tmp i => exact ⟨h1 i rfl, h2 i rfl⟩
  | const v =>
    refine ⟨rfl, fun id hid => ?_⟩
    have := ids_men hid
    rw [PD.ev, men_ofVal] at this
    cases this
  | _ => exact ⟨rfl, fun id hid => by cases hid⟩

theorem Alike.ev {x : Operand} (h : Alike pd s s2 x) (t : TypeId) : pd.ev t s2 x = pd.ev t s x := (h t).1

theorem Alike.c {x : Operand} (h : Alike pd s s2 x) {t : TypeId} {c : C} (hc : (pd.ev t s x).c? = some c) : Same s s2 (idC c) := by
  have := (h t).2
  rw [c?_spec hc] at this
  exact this

theorem reArgs_same {args : List Operand} {ts : List TypeId} (h : ∀ x ∈ args, Alike pd s s2 x) : reArgs pd s2 args ts = reArgs pd s args ts := by
  induction args generalizing ts with
  | nil => rfl
  | cons x l ih =>
    have hx := h x (by simp)
    simp only [reArgs, hx.ev, ih fun y hy => h y (by simp [hy])]
    cases hv : pd.ev (ts.headD 0) s x with
    | u u =>
      have := (hx (ts.headD 0)).2
      rw [hv] at this
      simp only [reU_same this]
    | _ => rfl

theorem argIds_same {args : List Operand} {ts : List TypeId} (h : ∀ x ∈ args, Alike pd s s2 x) : argIds pd s2 args ts = argIds pd s args ts := by
  induction args generalizing ts with
  | nil => rfl
  | cons x l ih =>
    simp only [argIds, (h x (by simp)).ev, ih fun y hy => h y (by simp [hy])]

theorem optI_same {x : Option Operand} (h : ∀ y, x = some y → Alike pd s s2 y) : optI pd s2 x = optI pd s x := by
  cases x with
  | none => rfl
  | some y => simp only [optI, (h y rfl).ev]

theorem partsOf_same {n : Nat} {place : Nat → Option (Nat × TypeId)} {l : List (Nat × Operand)} (h : ∀ p ∈ l, Alike pd s s2 p.2) : partsOf pd s2 n place l = partsOf pd s n place l := by
  induction l with
  | nil => rfl
  | cons p l ih =>
    obtain ⟨i, x⟩ := p
    simp only [partsOf, (h (i, x) (by simp)).ev, ih fun q hq => h q (by simp [hq])]

/-- Alike for an operand: its value, what it leads to, and what that leads to. -/
def AlikeD (pd : PD) (s s2 : St) (x : Operand) : Prop := ∀ t, pd.ev t s2 x = pd.ev t s x ∧ Same s s2 (s.deep (pd.ev t s x).ids)

theorem deep_sub {s : St} {l : List Nat} {id : Nat} (h : id ∈ l) : id ∈ s.deep l := by
  induction l with
  | nil => cases h
  | cons i l ih =>
    simp only [St.deep, List.mem_cons, List.mem_append]
    rcases List.mem_cons.1 h with rfl | h
    · exact .inl rfl
    · exact .inr (.inr (ih h))

theorem deep_sub2 {s : St} {l : List Nat} {id j : Nat} {x : Ob} (h : id ∈ l) (hx : s.get id = some x) (hj : j ∈ x.o.ids) : j ∈ s.deep l := by
  induction l with
  | nil => cases h
  | cons i l ih =>
    simp only [St.deep, List.mem_cons, List.mem_append]
    rcases List.mem_cons.1 h with rfl | h
    · rw [hx]; exact .inr (.inl hj)
    · exact .inr (.inr (ih h))

theorem AlikeD.weak {x : Operand} (h : AlikeD pd s s2 x) : Alike pd s s2 x := fun t => ⟨(h t).1, fun id hid => (h t).2 id (deep_sub hid)⟩

theorem alikeD_of {x : Operand} (h1 : ∀ t, x = .tmp t → s2.tm.getD t .dead = s.tm.getD t .dead) (h2 : ∀ t, x = .tmp t → Same s s2 (s.deep (s.tm.getD t .dead).ids)) : AlikeD pd s s2 x := by
  intro t
  cases x with
  | tmp i => exact ⟨h1 i rfl, h2 i rfl⟩
  | const v =>
    refine ⟨rfl, fun id hid => ?_⟩
    have hnil : (pd.ev t s (.const v)).ids = [] := by
      cases hl : (pd.ev t s (.const v)).ids with
      | nil => rfl
      | cons i l =>
        have := ids_men (v := pd.ev t s (.const v)) (id := i) (by rw [hl]; simp)
        rw [PD.ev, men_ofVal] at this
        cases this
    rw [hnil] at hid
    cases hid
  | _ => exact ⟨rfl, fun id hid => by cases hid⟩

theorem rsC_same {c : C} (h : Same s s2 (idC c)) : rsC pd s2 c = rsC pd s c := by
  cases c with
  | row id => simp only [rsC]; rw [h _ (by simp [idC])]
  | sl id i n => cases i <;> simp only [rsC]; rw [h _ (by simp [idC])]
  | _ => rfl

theorem rsCsK_same {R : Type} {l : List C} (h : Same s s2 (idCs l)) (k : List C → Option R) : rsCsK pd s2 l k = rsCsK pd s l k := by
  induction l generalizing k with
  | nil => rfl
  | cons c l ih =>
    obtain ⟨h1, h2⟩ := Same.append h
    simp only [rsCsK, rsC_same h1, ih h2]

theorem handK_same {R : Type} {mode : Nat} {c : C} (h : Same s s2 (s.deep (idC c))) {k k2 : Nat → List Nat → U → Option R} (hk : ∀ id rows u, id ∈ idC c → k2 id rows u = k id rows u) : handK pd s2 mode c k2 = handK pd s mode c k := by
  unfold handK
  split
  · rename_i id
    rw [h id (deep_sub (by simp [idC]))]
    split
    · rw [hk _ _ _ (by simp [idC])]
    · rfl
  · rename_i id
    rw [h id (deep_sub (by simp [idC]))]
    split
    · rw [hk _ _ _ (by simp [idC])]
    · rename_i l hg
      rw [rsCsK_same (s := s) fun j hj => h j (deep_sub2 (by simp [idC]) hg hj)]
      have : (fun m => k2 id (idCs l) (.agg m)) = fun m => k id (idCs l) (.agg m) := funext fun m => hk _ _ _ (by simp [idC])
      rw [this]
    · rfl
  · rfl

theorem dels_ev (t : TypeId) (s : St) (l : List Nat) (x : Operand) : pd.ev t (s.dels l) x = pd.ev t s x := by
  cases x <;> simp only [PD.ev, dels_tm]

theorem Alike.dels {x : Operand} (h : Alike pd s s2 x) (l : List Nat) : Alike pd (s.dels l) (s2.dels l) x := fun t => by
  rw [dels_ev, dels_ev]
  refine ⟨(h t).1, fun id hid => ?_⟩
  rw [dels_get, dels_get, (h t).2 id hid]

theorem opCallIO_same (g : Sg) {args : List Operand} (ts : List TypeId) (o : Oper) (k : Eff → Option R) (h : ∀ x ∈ args, AlikeD pd s s2 x) : opCallIO pd g args ts o s2 k = opCallIO pd g args ts o s k := by
  unfold opCallIO
  split
  · rename_i x rest
    have hx := h x (by simp)
    rw [(hx _).1]
    split
    · rename_i c hc
      have hd : Same s s2 (s.deep (idC c)) := by
        have := (hx (ts.headD 0)).2
        rw [c?_spec hc] at this
        exact this
      refine handK_same hd fun id rows u hid => ?_
      rw [reArgs_same (s := s.dels (id :: rows)) fun y hy => (h y (by simp [hy])).weak.dels _, hd id (deep_sub hid), argIds_same (s := s) fun y hy => (h y hy).weak]
    · rfl
  · rfl

theorem opCall_same (fn : Nat) {args : List Operand} (ts : List TypeId) (o : Oper) (k : Eff → Option R) (h : ∀ x ∈ args, AlikeD pd s s2 x) : opCall pd env fn args ts o s2 k = opCall pd env fn args ts o s k := by
  simp only [opCall, reArgs_same fun x hx => (h x hx).weak, argIds_same fun x hx => (h x hx).weak, opCallIO_same _ _ _ _ h]

theorem c_get {x : Operand} (h : Alike pd s s2 x) {t : TypeId} {c : C} (hc : (pd.ev t s x).c? = some c) {id : Nat} (hid : id ∈ idC c) : s2.get id = s.get id := h.c hc id hid

theorem opBuiltin_same (b : Builtin) {args : List Operand} (ts : List TypeId) (o : Oper) (k : Eff → Option R) (h : ∀ x ∈ args, Alike pd s s2 x) : opBuiltin pd b args ts o s2 k = opBuiltin pd b args ts o s k := by
  unfold opBuiltin
  split
  · rename_i x t
    have hx := h x (by simp)
    rw [hx.ev]
    cases hc : (pd.ev t s x).c? with
    | none => rfl
    | some c => simp only [lenC_same (hx.c hc)]
  · rename_i ts x y
    rw [(h x (by simp)).ev, (h y (by simp)).ev]
  · rename_i ts x y
    rw [(h x (by simp)).ev, (h y (by simp)).ev]
  · rename_i ts x y z
    rw [(h x (by simp)).ev, (h y (by simp)).ev, (h z (by simp)).ev]
  · rename_i x y t u
    have hx := h x (by simp)
    have hy := h y (by simp)
    rw [hx.ev, hy.ev]
    split
    · split
      · rename_i ei id c hei hc1 hc2
        rw [c_get hx hc1 (by simp [idC]), list_same (hy.c hc2)]
      · rfl
    · rfl
  · rename_i x y t u
    have hx := h x (by simp)
    have hy := h y (by simp)
    rw [hx.ev, hy.ev]
    split
    · split
      · rename_i id i n c hc1 hc2
        rw [c_get hx hc1 (by simp [idC]), list_same (hy.c hc2)]
      · rename_i id c hc1 hc2
        rw [c_get hx hc1 (by simp [idC]), list_same (hy.c hc2)]
      · rfl
    · rfl
  · rfl

theorem opK_same (o : Oper) (k : Eff → Option R) (hD : ∀ x ∈ o.op.operands.toList, AlikeD pd s s2 x) : opK pd env o s2 k = opK pd env o s k := by
  have h : ∀ x ∈ o.op.operands.toList, Alike pd s s2 x := fun x hx => (hD x hx).weak
  cases ho : o.op with
  | call c =>
    obtain ⟨cal, args, ts⟩ := c
    rw [ho] at h hD
    cases cal with
    | builtin b => simp only [opK_eq, opK1, ho]; exact opBuiltin_same b _ o k (fun x hx => h x (by simpa [Op.operands, Call.operands] using hx))
    | value x =>
      cases x with
      | func fn => simp only [opK_eq, opK1, ho]; exact opCall_same fn _ o k (fun x hx => hD x (by simp only [Op.operands, Call.operands]; simp only [Array.toList_append, List.mem_append]; exact .inr hx))
      | _ => simp only [opK_eq, opK1, ho]
    | invoke r n => simp only [opK_eq, opK1, ho]
  | move x =>
    rw [ho] at h
    simp only [opK_eq, opK1, ho, (h x (by simp [Op.operands])).ev]
  | assign x =>
    rw [ho] at h
    simp only [opK_eq, opK1, ho, (h x (by simp [Op.operands])).ev]
  | pick c x y =>
    rw [ho] at h
    simp only [opK_eq, opK1, ho, (h c (by simp [Op.operands])).ev, (h x (by simp [Op.operands])).ev, (h y (by simp [Op.operands])).ev]
  | alloc t => simp only [opK_eq, opK1, ho]
  | box t x =>
    rw [ho] at h
    simp only [opK_eq, opK1, ho, (h x (by simp [Op.operands])).ev]
  | load t x =>
    rw [ho] at h
    have hx := h x (by simp [Op.operands])
    simp only [opK_eq, opK1, ho, hx.ev]
    split
    · rename_i id i sub hc
      rw [c_get hx hc (by simp [idC])]
    · rfl
    · rfl
  | store t x v =>
    rw [ho] at h
    have hx := h x (by simp [Op.operands])
    simp only [opK_eq, opK1, ho, hx.ev, (h v (by simp [Op.operands])).ev]
    split
    · rename_i id i sub u hc hu
      rw [c_get hx hc (by simp [idC])]
    · rfl
  | nilCheck x =>
    rw [ho] at h
    simp only [opK_eq, opK1, ho, (h x (by simp [Op.operands])).ev]
  | binOp op t x y t' =>
    rw [ho] at h
    simp only [opK_eq, opK1, ho, (h x (by simp [Op.operands])).ev, (h y (by simp [Op.operands])).ev]
  | unOp op t x =>
    rw [ho] at h
    simp only [opK_eq, opK1, ho, (h x (by simp [Op.operands])).ev]
  | convert src dst x =>
    rw [ho] at h
    have hx := h x (by simp [Op.operands])
    simp only [opK_eq, opK1, ho, hx.ev]
    split
    · rfl
    · rename_i c hs hd hc
      rw [list_same (hx.c hc)]
    · rfl
  | sliceToArrayPointer t x =>
    rw [ho] at h
    have hx := h x (by simp [Op.operands])
    simp only [opK_eq, opK1, ho, hx.ev]
    split
    · rename_i c ht hc
      cases c with
      | row id => simp only [c_get hx hc (id := id) (by simp [idC])]
      | sl id i n => simp only [c_get hx hc (id := id) (by simp [idC])]
      | _ => rfl
    · rfl
  | makeSlice t n m =>
    rw [ho] at h
    simp only [opK_eq, opK1, ho, (h n (by simp [Op.operands])).ev, (h m (by simp [Op.operands])).ev]
  | slice t x lo hi mx =>
    cases mx with
    | some q => simp only [opK_eq, opK1, ho]
    | none =>
      rw [ho] at h
      have hx := h x (by simp [Op.operands])
      have hlo := optI_same (pd := pd) (s := s) (s2 := s2) (x := lo) (fun y hy => h y (by subst hy; simp [Op.operands]))
      have hhi := optI_same (pd := pd) (s := s) (s2 := s2) (x := hi) (fun y hy => h y (by subst hy; simp [Op.operands]))
      simp only [opK_eq, opK1, ho, hx.ev, hlo, hhi]
      split
      · rename_i c l u hc hl hu
        rw [part_same (hx.c hc)]
      · rfl
  | fieldAddr t x f' =>
    rw [ho] at h
    have hx := h x (by simp [Op.operands])
    simp only [opK_eq, opK1, ho, hx.ev]
    split
    · rename_i c ht hc
      cases c with
      | ptr id i n => simp only [c_get hx hc (id := id) (by simp [idC])]
      | _ => rfl
    · rfl
  | field t x f' =>
    rw [ho] at h
    simp only [opK_eq, opK1, ho, (h x (by simp [Op.operands])).ev]
  | indexAddr t x i =>
    rw [ho] at h
    have hx := h x (by simp [Op.operands])
    simp only [opK_eq, opK1, ho, hx.ev, (h i (by simp [Op.operands])).ev]
    split
    · rename_i c n hc hn
      simp only [idx_same (hx.c hc), brn_same (hx.c hc)]
    · rfl
  | index t x i =>
    rw [ho] at h
    simp only [opK_eq, opK1, ho, (h x (by simp [Op.operands])).ev, (h i (by simp [Op.operands])).ev]
  | build t parts =>
    rw [ho] at h
    have hps : ∀ n place, partsOf pd s2 n place parts.toList = partsOf pd s n place parts.toList := fun n place => partsOf_same fun p hp => h p.2 (by
      simp only [Op.operands]
      simpa using ⟨p.1, by simpa using hp⟩)
    simp only [opK_eq, opK1, ho, hps]
  | buildSlice t n parts =>
    rw [ho] at h
    have hps : ∀ n place, partsOf pd s2 n place parts.toList = partsOf pd s n place parts.toList := fun n place => partsOf_same fun p hp => h p.2 (by
      simp only [Op.operands]
      simpa using ⟨p.1, by simpa using hp⟩)
    simp only [opK_eq, opK1, ho, hps]
  | extract x i =>
    rw [ho] at h
    simp only [opK_eq, opK1, ho, (h x (by simp [Op.operands])).ev]
  | _ => simp only [opK_eq, opK1, ho]

end Go.Proofs.Ytgimohchocjgcaa.V
