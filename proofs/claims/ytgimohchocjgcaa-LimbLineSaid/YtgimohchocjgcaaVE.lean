/- How the evaluator's states stand for the model's. -/
import Derived.Test.YtgimohchocjgcaaVD
import Derived.Laws.AppendOwn
import Derived.Laws.MakeOwn
import Derived.Laws.CopyOwn
set_option linter.unusedVariables false
set_option linter.unusedSimpArgs false
namespace Go.Proofs.Ytgimohchocjgcaa.V

/-! ### Lists -/

theorem Nat.beq_true {a b : Nat} (h : Nat.beq a b = true) : a = b := Nat.eq_of_beq_eq_true h

theorem cond_some {α : Type _} {b : Bool} {x : Option α} {r : α} (h : cond b x none = some r) : b = true ∧ x = some r := by
  cases b
  · simp at h
  · exact ⟨rfl, h⟩

theorem cond_none {α : Type _} {b : Bool} {x : Option α} {r : α} (h : cond b none x = some r) : b = false ∧ x = some r := by
  cases b
  · exact ⟨rfl, h⟩
  · simp at h

theorem look_put_same (id : Nat) (x : Ob) (l : List (Nat × Ob)) : look id (putOb id x l) = some x := by
  induction l with
  | nil => simp [putOb, look]
  | cons p l ih =>
    obtain ⟨m, y⟩ := p
    simp only [putOb]
    cases hb : Nat.beq m id with
    | true => simp [look]
    | false => simp [look, hb, ih]

theorem look_put_ne {id j : Nat} (x : Ob) (l : List (Nat × Ob)) (h : j ≠ id) : look j (putOb id x l) = look j l := by
  have e : Nat.beq id j = false := by
    cases hb : Nat.beq id j with
    | true => exact absurd (Nat.beq_true hb).symm h
    | false => rfl
  induction l with
  | nil => simp [putOb, look, e]
  | cons p l ih =>
    obtain ⟨m, y⟩ := p
    simp only [putOb]
    cases hb : Nat.beq m id with
    | true =>
      have := Nat.beq_true hb
      subst this
      simp [look, e]
    | false => simp [look, ih]

theorem look_del_same (id : Nat) (l : List (Nat × Ob)) : look id (delOb id l) = none := by
  induction l with
  | nil => rfl
  | cons p l ih =>
    obtain ⟨m, y⟩ := p
    simp only [delOb]
    cases hb : Nat.beq m id with
    | true => exact ih
    | false => simp [look, hb, ih]

theorem look_del_ne {id j : Nat} (l : List (Nat × Ob)) (h : j ≠ id) : look j (delOb id l) = look j l := by
  induction l with
  | nil => rfl
  | cons p l ih =>
    obtain ⟨m, y⟩ := p
    simp only [delOb]
    cases hb : Nat.beq m id with
    | true =>
      have e := Nat.beq_true hb
      subst e
      have e : Nat.beq m j = false := by
        cases hb : Nat.beq m j with
        | true => exact absurd (Nat.beq_true hb).symm h
        | false => rfl
      simp [look, e, ih]
    | false => simp [look, ih]

theorem flat_append (e : El) (a b : List e.T) : flat e (a ++ b) = flat e a ++ flat e b := by
  induction a with
  | nil => rfl
  | cons x a ih => simp [flat, ih]

theorem toC_length (e : El) (x : e.T) : (e.toC x).length = e.size := by
  cases e <;> rfl

theorem flat_length (e : El) (l : List e.T) : (flat e l).length = l.length * e.size := by
  induction l with
  | nil => simp [flat]
  | cons x l ih => simp [flat, ih, toC_length, Nat.add_mul, Nat.add_comm]

theorem size_pos (e : El) : 0 < e.size := by cases e <;> decide

theorem flat_take (e : El) (l : List e.T) (n : Nat) : flat e (l.take n) = (flat e l).take (n * e.size) := by
  induction l generalizing n with
  | nil => simp [flat]
  | cons x l ih =>
    cases n with
    | zero => simp [flat]
    | succ n =>
      have h1 : (e.toC x).take ((n + 1) * e.size) = e.toC x := List.take_of_length_le (by rw [toC_length, Nat.succ_mul]; omega)
      have h2 : (n + 1) * e.size - e.size = n * e.size := by rw [Nat.succ_mul]; omega
      simp only [List.take_succ_cons, flat, ih, List.take_append, toC_length, h1, h2]

theorem flat_drop (e : El) (l : List e.T) (n : Nat) : flat e (l.drop n) = (flat e l).drop (n * e.size) := by
  induction l generalizing n with
  | nil => simp [flat]
  | cons x l ih =>
    cases n with
    | zero => simp [flat]
    | succ n =>
      have h1 : (e.toC x).drop ((n + 1) * e.size) = [] := List.drop_of_length_le (by rw [toC_length, Nat.succ_mul]; omega)
      have h2 : (n + 1) * e.size - e.size = n * e.size := by rw [Nat.succ_mul]; omega
      simp only [List.drop_succ_cons, flat, ih, List.drop_append, toC_length, h1, h2, List.nil_append]

/-- The cells of one of many. -/
theorem flat_at (e : El) (l : List e.T) (i : Nat) (h : i < l.length) : ((flat e l).drop (i * e.size)).take e.size = e.toC (l.getD i e.zero) := by
  rw [← flat_drop]
  have : l.drop i = l[i] :: l.drop (i + 1) := List.drop_eq_getElem_cons h
  rw [this, flat, List.take_append_of_le_length (by rw [toC_length]; exact Nat.le_refl _), List.take_of_length_le (by rw [toC_length]; exact Nat.le_refl _)]
  simp [List.getD, h]

theorem setL_length {α : Type} (l : List α) (i : Nat) (x : α) : (setL l i x).length = l.length := by
  induction l generalizing i with
  | nil => rfl
  | cons y l ih => cases i <;> simp [setL, ih]

theorem splice_length {α : Type} (l : List α) (i : Nat) (m : List α) (h : i + m.length ≤ l.length) : (splice l i m).length = l.length := by
  simp [splice]; omega

theorem setL_eq {α : Type} (l : List α) (i : Nat) (x : α) (h : i < l.length) : setL l i x = splice l i [x] := by
  induction l generalizing i with
  | nil => simp at h
  | cons y l ih =>
    cases i with
    | zero => simp [setL, splice]
    | succ i => simp at h; simp [setL, ih i h, splice]

theorem flat_splice (e : El) (l : List e.T) (i : Nat) (m : List e.T) : flat e (splice l i m) = splice (flat e l) (i * e.size) (flat e m) := by
  simp only [splice, flat_append, flat_take, flat_drop, flat_length, Nat.add_mul]

theorem splice_splice {α : Type} (l : List α) (o n s : Nat) (m : List α) (h : o + n ≤ l.length) (hs : s + m.length ≤ n) :
    splice l o (splice ((l.drop o).take n) s m) = splice l (o + s) m := by
  have h1 : (splice ((l.drop o).take n) s m).length = n := by rw [splice_length _ _ _ (by simp; omega)]; simp; omega
  simp only [splice] at h1 ⊢
  rw [h1]
  apply List.ext_getElem?
  intro j
  simp only [List.getElem?_append, List.length_take, List.length_drop, List.getElem?_take, List.getElem?_drop, List.length_append]
  grind

/-- What 'ofC' takes for an element's cells are its cells. -/
theorem pFr_spec {α : Type} {k : Fr → List C → Option α} {l : List C} {r : α} (h : pFr k l = some r) : ∃ x m, l = Fr.c x ++ m ∧ k x m = some r := by
  unfold pFr at h
  split at h
  · rename_i a b c d m
    exact ⟨⟨a, b, c, d⟩, m, rfl, h⟩
  · cases h

theorem pInt_spec {α : Type} {k : Int → List C → Option α} {l : List C} {r : α} (h : pInt k l = some r) : ∃ x m, l = .int x :: m ∧ k x m = some r := by
  unfold pInt at h
  split at h
  · exact ⟨_, _, rfl, h⟩
  · cases h

theorem pEnd_spec {α : Type} {x r : α} {l : List C} (h : pEnd x l = some r) : l = [] ∧ x = r := by
  unfold pEnd at h
  split at h
  · exact ⟨rfl, by simpa using h⟩
  · cases h

theorem ofC_spec (e : El) (cs : List C) (x : e.T) (h : e.ofC cs = some x) : cs = e.toC x := by
  cases e
  case fr =>
    simp only [El.ofC] at h
    obtain ⟨x0, m0, e0, h0⟩ := pFr_spec h
    obtain ⟨e, rfl⟩ := pEnd_spec h0
    simp only [e0, e, El.toC]; simp
  case row =>
    simp only [El.ofC] at h
    obtain ⟨x0, m0, e0, h0⟩ := pFr_spec h
    obtain ⟨x1, m1, e1, h1⟩ := pFr_spec h0
    obtain ⟨x2, m2, e2, h2⟩ := pFr_spec h1
    obtain ⟨x3, m3, e3, h3⟩ := pFr_spec h2
    obtain ⟨x4, m4, e4, h4⟩ := pFr_spec h3
    obtain ⟨x5, m5, e5, h5⟩ := pFr_spec h4
    obtain ⟨x6, m6, e6, h6⟩ := pFr_spec h5
    obtain ⟨x7, m7, e7, h7⟩ := pFr_spec h6
    obtain ⟨x8, m8, e8, h8⟩ := pInt_spec h7
    obtain ⟨x9, m9, e9, h9⟩ := pInt_spec h8
    obtain ⟨x10, m10, e10, h10⟩ := pInt_spec h9
    obtain ⟨e, rfl⟩ := pEnd_spec h10
    simp only [e0, e1, e2, e3, e4, e5, e6, e7, e8, e9, e10, e, El.toC]
  case pair =>
    simp only [El.ofC] at h
    obtain ⟨x0, m0, e0, h0⟩ := pInt_spec h
    obtain ⟨x1, m1, e1, h1⟩ := pInt_spec h0
    obtain ⟨e, rfl⟩ := pEnd_spec h1
    simp only [e0, e1, e, El.toC]
  case step =>
    simp only [El.ofC] at h
    obtain ⟨x0, m0, e0, h0⟩ := pInt_spec h
    obtain ⟨x1, m1, e1, h1⟩ := pInt_spec h0
    obtain ⟨x2, m2, e2, h2⟩ := pInt_spec h1
    obtain ⟨x3, m3, e3, h3⟩ := pInt_spec h2
    obtain ⟨x4, m4, e4, h4⟩ := pFr_spec h3
    obtain ⟨x5, m5, e5, h5⟩ := pFr_spec h4
    obtain ⟨x6, m6, e6, h6⟩ := pFr_spec h5
    obtain ⟨x7, m7, e7, h7⟩ := pFr_spec h6
    obtain ⟨x8, m8, e8, h8⟩ := pFr_spec h7
    obtain ⟨e, rfl⟩ := pEnd_spec h8
    simp only [e0, e1, e2, e3, e4, e5, e6, e7, e8, e, El.toC]; simp
  all_goals
    simp only [El.ofC] at h
    split at h
    · cases h; rfl
    · cases h

theorem chunks_spec (e : El) (n : Nat) (cs : List C) (l : List e.T) (h : chunks e n cs = some l) : cs = flat e l ∧ l.length = n := by
  induction n generalizing cs l with
  | zero =>
    cases cs with
    | nil => simp [chunks] at h; subst h; exact ⟨rfl, rfl⟩
    | cons c cs => simp [chunks] at h
  | succ n ih =>
    simp only [chunks] at h
    split at h
    · rename_i x hx
      split at h
      · rename_i r hr
        cases h
        obtain ⟨h1, h2⟩ := ih _ _ hr
        have h3 := ofC_spec e _ _ hx
        refine ⟨?_, by simp [h2]⟩
        rw [flat, ← h1, ← h3, List.take_append_drop]
      · cases h
    · cases h

theorem castL_spec {f e : El} {l : List f.T} {m : List e.T} (h : castL f e l = some m) : ∃ q : f = e, q ▸ l = m := by
  cases f <;> cases e <;> simp only [castL, Option.some.injEq, reduceCtorEq] at h <;> exact ⟨rfl, h⟩

theorem castL_flat {f e : El} {l : List f.T} {m : List e.T} (h : castL f e l = some m) : flat f l = flat e m ∧ l.length = m.length ∧ f = e := by
  obtain ⟨rfl, rfl⟩ := castL_spec h
  exact ⟨rfl, rfl, rfl⟩

theorem idx_inj {e f : El} (h : Nat.beq e.idx f.idx = true) : e = f := by
  cases e <;> cases f <;> first | rfl | (exact absurd h (by decide))

/-! ### What stands for what -/

def C.val : C → Option Value
  | .u64 x => some (.int .u64 x.toNat)
  | .u32 x => some (.int .u32 x.toNat)
  | .u8 x => some (.int .u8 x.toNat)
  | .int n => some (.int .i64 n)
  | .bool b => some (.bool b)
  | .str l => some (.string ⟨l.toArray⟩)
  | .nilp => some (.pointer none)
  | _ => none

/-- A value that was there when the call began, or its copy; 'ok': the blocks that are only read. -/
inductive Holds (w : World) (ok : Nat → Prop) : C → Value → Prop
  | sc {c : C} {v : Value} : c.val = some v → Holds w ok c v
  | ro {e : El} {l : List e.T} {b off cap : Nat} (f : Nat → Value) : l.length ≤ cap → cap ≤ maxLen → ok b →
      (∀ (j : Nat) (c : C), (flat e l)[j]? = some c → w.cell? ⟨b, off + j, none⟩ = some (f j)) → (∀ (j : Nat) (c : C), (flat e l)[j]? = some c → Holds w ok c (f j)) →
      Holds w ok (.ro e l) (.slice (some ⟨b, off, none⟩) l.length cap)
  | emp {e : El} {a : Option Addr} {cap : Nat} : Holds w ok (.ro e []) (.slice a 0 cap)

structure RI where
  blk : Nat
  val : Value
  sz : Nat
  len : Nat

structure Ctx where
  P : Program
  pd : PD
  w0 : World
  /-- Blocks that were there and may be written. -/
  may : Nat → Prop
  /-- Of an object that was handed over: its block, that one's size, its type, how many cells. -/
  pin : TypeId → Nat × Nat × TypeId × Nat

def Ctx.pinOK (X : Ctx) (k : TypeId) (b size : Nat) (ty : TypeId) (n : Nat) : Prop := PIN ≤ k → X.pin k = (b, size, ty, n)

def Ctx.ok (X : Ctx) (b : Nat) : Prop := b < X.w0.heap.size ∧ ¬ X.may b

def RC (X : Ctx) (ρ : Nat → RI) : C → Value → Prop
  | .row id, v => v = (ρ id).val ∧ ∃ a n c, v = .slice a n c
  | .sl id i n, v => i + n ≤ (ρ id).len ∧ ∃ cap, n ≤ cap ∧ cap ≤ maxLen ∧ (v = .slice (some ⟨(ρ id).blk, i * (ρ id).sz, none⟩) n cap ∨ (n = 0 ∧ ∃ a, v = .slice a 0 cap))
  | .ptr id i sub, v => i < (ρ id).len ∧ sub < (ρ id).sz ∧ v = .pointer (some ⟨(ρ id).blk, i * (ρ id).sz + sub, none⟩)
  | .rop e l i sub, v => i < l.length ∧ sub < e.size ∧ ∃ b off, v = .pointer (some ⟨b, off + (i * e.size + sub), none⟩) ∧ X.ok b ∧
      ∃ f : Nat → Value, (∀ (j : Nat) (c : C), (flat e l)[j]? = some c → X.w0.cell? ⟨b, off + j, none⟩ = some (f j)) ∧ (∀ (j : Nat) (c : C), (flat e l)[j]? = some c → Holds X.w0 X.ok c (f j))
  | .dead, _ => True
  | c, v => Holds X.w0 X.ok c v

def RCs (X : Ctx) (ρ : Nat → RI) : List C → List Value → Prop
  | [], [] => True
  | c :: l, v :: vs => RC X ρ c v ∧ RCs X ρ l vs
  | _, _ => False

def RU (X : Ctx) (ρ : Nat → RI) : U → Value → Prop
  | .c x, v => RC X ρ x v
  | .agg l, v => ∃ vs, v = .agg vs ∧ RCs X ρ l vs.toList
  | .vec e l, v => ∃ vs, v = .agg vs ∧ RCs X ρ (flat e l) vs.toList
  | .box _, _ => False

def RUs (X : Ctx) (ρ : Nat → RI) : List U → List Value → Prop
  | [], [] => True
  | c :: l, v :: vs => RU X ρ c v ∧ RUs X ρ l vs
  | _, _ => False

def RV (X : Ctx) (ρ : Nat → RI) : V → Value → Prop
  | .u x, v => RU X ρ x v
  | .tup l, v => ∃ vs, v = .tuple vs ∧ RUs X ρ l vs.toList
  | .dead, _ => True

/-- An object stands in memory. -/
structure RO (X : Ctx) (ρ : Nat → RI) (w : World) (id : Nat) (x : Ob) : Prop where
  sz : (ρ id).sz = x.o.sz
  len : (ρ id).len = x.o.len
  n : x.row = false → x.n ≠ 0 → ∀ e l, x.o = .vec e l → l.length = x.n
  vec : x.row = true → (∃ e l, x.o = .vec e l) ∧ x.n = 0
  mem : (x.row = true ∧ (ρ id).val = .slice none 0 0 ∧ x.o.cells = []) ∨
    ∃ (vs : Array Value) (ty : TypeId) (cap : Nat), w.heap[(ρ id).blk]? = some (.cells vs ty (0, 0)) ∧
      RCs X ρ x.o.cells (vs.toList.take x.o.cells.length) ∧ x.o.cells.length ≤ vs.size ∧
      (x.row = false → x.o.cells.length ≤ vs.size ∧ X.pinOK x.ty (ρ id).blk vs.size ty x.o.cells.length) ∧
      (x.row = true → ty = x.ty ∧ (ρ id).val = .slice (some ⟨(ρ id).blk, 0, none⟩) x.o.len cap ∧ x.o.len ≤ cap ∧ cap ≤ maxLen ∧ vs.size = cap * x.o.sz)

/-- Has an object a block of its own? -/
def hasB (ρ : Nat → RI) (id : Nat) (x : Ob) : Prop := x.row = false ∨ (ρ id).val ≠ .slice none 0 0

structure Frm (X : Ctx) (w : World) : Prop where
  os : w.os = X.w0.os
  tape : w.tape = X.w0.tape
  output : w.output = X.w0.output
  size : X.w0.heap.size ≤ w.heap.size
  block : ∀ k, k < X.w0.heap.size → ¬ X.may k → w.heap[k]? = X.w0.heap[k]?

structure Sim (X : Ctx) (ρ : Nat → RI) (s : St) (a : Act) (w : World) : Prop where
  tm : ∀ t v, s.tm[t]? = some v → RV X ρ v (a.tmps.getD t undef)
  sz : s.tm.length = a.tmps.size
  df : a.defers = []
  ob : ∀ id x, s.get id = some x → RO X ρ w id x
  inj : ∀ i j x y, s.get i = some x → s.get j = some y → i ≠ j → hasB ρ i x → hasB ρ j y → (ρ i).blk ≠ (ρ j).blk
  own : ∀ id x, s.get id = some x → hasB ρ id x → X.w0.heap.size ≤ (ρ id).blk ∨ X.may (ρ id).blk
  fr : Frm X w

end Go.Proofs.Ytgimohchocjgcaa.V
