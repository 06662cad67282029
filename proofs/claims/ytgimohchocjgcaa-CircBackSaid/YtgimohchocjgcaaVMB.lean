import Derived.Laws.AppendOwn
import Derived.Laws.MakeOwn
import Derived.Laws.CopyOwn
import Derived.Laws.StructEq
import Derived.Laws.Wrap64
import Derived.Test.YtgimohchocjgcaaVMA
set_option linter.unusedVariables false
set_option linter.unusedSimpArgs false
namespace Go.Proofs.Ytgimohchocjgcaa.V
section
theorem Nat.beq_true {a b : Nat} (h : Nat.beq a b = true) : a = b := Nat.eq_of_beq_eq_true h
theorem zaa {α : Type _} {b : Bool} {x : Option α} {r : α} (h : cond b x none = some r) : b = true /\ x = some r := by
  cases b
  . simp at h
  . exact ⟨rfl, h⟩
theorem zez {α : Type _} {b : Bool} {x : Option α} {r : α} (h : cond b none x = some r) : b = false /\ x = some r := by
  cases b
  . exact ⟨rfl, h⟩
  . simp at h
theorem zaA (id : Nat) (x : Ob) (l : List (Nat × Ob)) : look id (za5 id x l) = some x := by
  induction l with
  | nil => simp [za5, look]
  | cons p l ih =>
    obtain ⟨m, y⟩ := p
    simp only [za5]
    cases hb : Nat.beq m id with
    | true => simp [look]
    | false => simp [look, hb, ih]
theorem zaJ {id j : Nat} (x : Ob) (l : List (Nat × Ob)) (h : j ≠ id) : look j (za5 id x l) = look j l := by
  have e : Nat.beq id j = false := by
    cases hb : Nat.beq id j with
    | true => exact absurd (Nat.beq_true hb).symm h
    | false => rfl
  induction l with
  | nil => simp [za5, look, e]
  | cons p l ih =>
    obtain ⟨m, y⟩ := p
    simp only [za5]
    cases hb : Nat.beq m id with
    | true =>
      have := Nat.beq_true hb
      subst this
      simp [look, e]
    | false => simp [look, ih]
theorem zbO (id : Nat) (l : List (Nat × Ob)) : look id (zbL id l) = none := by
  induction l with
  | nil => rfl
  | cons p l ih =>
    obtain ⟨m, y⟩ := p
    simp only [zbL]
    cases hb : Nat.beq m id with
    | true => exact ih
    | false => simp [look, hb, ih]
theorem zcD {id j : Nat} (l : List (Nat × Ob)) (h : j ≠ id) : look j (zbL id l) = look j l := by
  induction l with
  | nil => rfl
  | cons p l ih =>
    obtain ⟨m, y⟩ := p
    simp only [zbL]
    cases hb : Nat.beq m id with
    | true =>
      have e := Nat.beq_true hb
      subst e
      have e : Nat.beq m j = false := by
        cases hb : Nat.beq m j with
        | true => exact absurd (Nat.beq_true hb).symm h
        | false => rfl
      simp [look, e, ih]
    | false => simp [look, ih]
theorem zdg (e : El) (a b : List e.T) : flat e (a ++ b) = flat e a ++ flat e b := by
  induction a with
  | nil => rfl
  | cons x a ih => simp [flat, ih]
theorem za2 (e : El) (x : e.T) : (e.toC x).length = e.size := by
  cases e <;> rfl
theorem zab (e : El) (l : List e.T) : (flat e l).length = l.length * e.size := by
  induction l with
  | nil => simp [flat]
  | cons x l ih => simp [flat, ih, za2, Nat.add_mul, Nat.add_comm]
theorem zaK (e : El) : 0 < e.size := by cases e <;> decide
theorem zbw (e : El) (l : List e.T) (n : Nat) : flat e (l.take n) = (flat e l).take (n * e.size) := by
  induction l generalizing n with
  | nil => simp [flat]
  | cons x l ih =>
    cases n with
    | zero => simp [flat]
    | succ n =>
      have h1 : (e.toC x).take ((n + 1) * e.size) = e.toC x := List.take_of_length_le (by rw [za2, Nat.succ_mul]; omega)
      have h2 : (n + 1) * e.size - e.size = n * e.size := by rw [Nat.succ_mul]; omega
      simp only [List.take_succ_cons, flat, ih, List.take_append, za2, h1, h2]
theorem zcE (e : El) (l : List e.T) (n : Nat) : flat e (l.drop n) = (flat e l).drop (n * e.size) := by
  induction l generalizing n with
  | nil => simp [flat]
  | cons x l ih =>
    cases n with
    | zero => simp [flat]
    | succ n =>
      have h1 : (e.toC x).drop ((n + 1) * e.size) = [] := List.drop_of_length_le (by rw [za2, Nat.succ_mul]; omega)
      have h2 : (n + 1) * e.size - e.size = n * e.size := by rw [Nat.succ_mul]; omega
      simp only [List.drop_succ_cons, flat, ih, List.drop_append, za2, h1, h2, List.nil_append]
theorem zgw (e : El) (l : List e.T) (i : Nat) (h : i < l.length) : ((flat e l).drop (i * e.size)).take e.size = e.toC (l.getD i e.zero) := by
  rw [← zcE]
  have : l.drop i = l[i] :: l.drop (i + 1) := List.drop_eq_getElem_cons h
  rw [this, flat, List.take_append_of_le_length (by rw [za2]; exact Nat.le_refl _), List.take_of_length_le (by rw [za2]; exact Nat.le_refl _)]
  simp [List.getD, h]
theorem zj6 (l : List Tn) : (zc7 l).length = l.length * 3 := by
  induction l with
  | nil => rfl
  | cons x l ih => simp [zc7, ih, Tn.c]; omega
theorem zod (l : List Tn) (n : Nat) : zc7 (l.drop n) = (zc7 l).drop (n * 3) := by
  induction l generalizing n with
  | nil => simp [zc7]
  | cons x l ih =>
    cases n with
    | zero => simp [zc7]
    | succ n =>
      have h1 : x.c.drop ((n + 1) * 3) = [] := List.drop_of_length_le (by simp [Tn.c]; omega)
      have h2 : (n + 1) * 3 - x.c.length = n * 3 := by simp [Tn.c]; omega
      simp only [List.drop_succ_cons, zc7, ih, List.drop_append, h1, h2, List.nil_append]
theorem zte (l : List Tn) (i : Nat) (h : i < l.length) : ((zc7 l).drop (i * 3)).take 3 = (l.getD i Tn.zero).c := by
  rw [← zod]
  have : l.drop i = l[i] :: l.drop (i + 1) := List.drop_eq_getElem_cons h
  rw [this, zc7, List.take_append_of_le_length (by simp [Tn.c]), List.take_of_length_le (by simp [Tn.c])]
  simp [List.getD, h]
theorem zdh {α : Type} (l : List α) (i : Nat) (x : α) : (setL l i x).length = l.length := by
  induction l generalizing i with
  | nil => rfl
  | cons y l ih => cases i <;> simp [setL, ih]
theorem zaH {α : Type} (l : List α) (i : Nat) (m : List α) (h : i + m.length <= l.length) : (zan l i m).length = l.length := by
  simp [zan]; omega
theorem zwi {α : Type} (l : List α) (i : Nat) (x : α) (h : i < l.length) : setL l i x = zan l i [x] := by
  induction l generalizing i with
  | nil => simp at h
  | cons y l ih =>
    cases i with
    | zero => simp [setL, zan]
    | succ i => simp at h; simp [setL, ih i h, zan]
theorem zd9 (e : El) (l : List e.T) (i : Nat) (m : List e.T) : flat e (zan l i m) = zan (flat e l) (i * e.size) (flat e m) := by
  simp only [zan, zdg, zbw, zcE, zab, Nat.add_mul]
theorem zi8 {α : Type} (l : List α) (o n s : Nat) (m : List α) (h : o + n <= l.length) (hs : s + m.length <= n) :
    zan l o (zan ((l.drop o).take n) s m) = zan l (o + s) m := by
  have h1 : (zan ((l.drop o).take n) s m).length = n := by rw [zaH _ _ _ (by simp; omega)]; simp; omega
  simp only [zan] at h1 ⊢
  rw [h1]
  apply List.ext_getElem?
  intro j
  simp only [List.getElem?_append, List.length_take, List.length_drop, List.getElem?_take, List.getElem?_drop, List.length_append]
  grind
theorem zbh {α : Type} {k : Fr -> List C -> Option α} {l : List C} {r : α} (h : pFr k l = some r) : ∃ x m, l = Fr.c x ++ m /\ k x m = some r := by
  unfold pFr at h
  split at h
  . rename_i a b c d m
    exact ⟨⟨a, b, c, d⟩, m, rfl, h⟩
  . cases h
theorem zbP {α : Type} {k : Int -> List C -> Option α} {l : List C} {r : α} (h : pInt k l = some r) : ∃ x m, l = .int x :: m /\ k x m = some r := by
  unfold pInt at h
  split at h
  . exact ⟨_, _, rfl, h⟩
  . cases h
theorem zeA {α : Type} {x r : α} {l : List C} (h : pEnd x l = some r) : l = [] /\ x = r := by
  unfold pEnd at h
  split at h
  . exact ⟨rfl, by simpa using h⟩
  . cases h
theorem zgb (e : El) (cs : List C) (x : e.T) (h : e.ofC cs = some x) : cs = e.toC x := by
  cases e
  case fr =>
    simp only [El.ofC] at h
    obtain ⟨x0, m0, e0, h0⟩ := zbh h
    obtain ⟨e, rfl⟩ := zeA h0
    simp only [e0, e, El.toC]; simp
  case row =>
    simp only [El.ofC] at h
    obtain ⟨x0, m0, e0, h0⟩ := zbh h
    obtain ⟨x1, m1, e1, h1⟩ := zbh h0
    obtain ⟨x2, m2, e2, h2⟩ := zbh h1
    obtain ⟨x3, m3, e3, h3⟩ := zbh h2
    obtain ⟨x4, m4, e4, h4⟩ := zbh h3
    obtain ⟨x5, m5, e5, h5⟩ := zbh h4
    obtain ⟨x6, m6, e6, h6⟩ := zbh h5
    obtain ⟨x7, m7, e7, h7⟩ := zbh h6
    obtain ⟨x8, m8, e8, h8⟩ := zbP h7
    obtain ⟨x9, m9, e9, h9⟩ := zbP h8
    obtain ⟨x10, m10, e10, h10⟩ := zbP h9
    obtain ⟨e, rfl⟩ := zeA h10
    simp only [e0, e1, e2, e3, e4, e5, e6, e7, e8, e9, e10, e, El.toC]
  case pair =>
    simp only [El.ofC] at h
    obtain ⟨x0, m0, e0, h0⟩ := zbP h
    obtain ⟨x1, m1, e1, h1⟩ := zbP h0
    obtain ⟨e, rfl⟩ := zeA h1
    simp only [e0, e1, e, El.toC]
  case step =>
    simp only [El.ofC] at h
    obtain ⟨x0, m0, e0, h0⟩ := zbP h
    obtain ⟨x1, m1, e1, h1⟩ := zbP h0
    obtain ⟨x2, m2, e2, h2⟩ := zbP h1
    obtain ⟨x3, m3, e3, h3⟩ := zbP h2
    obtain ⟨x4, m4, e4, h4⟩ := zbh h3
    obtain ⟨x5, m5, e5, h5⟩ := zbh h4
    obtain ⟨x6, m6, e6, h6⟩ := zbh h5
    obtain ⟨x7, m7, e7, h7⟩ := zbh h6
    obtain ⟨x8, m8, e8, h8⟩ := zbh h7
    obtain ⟨e, rfl⟩ := zeA h8
    simp only [e0, e1, e2, e3, e4, e5, e6, e7, e8, e, El.toC]; simp
  all_goals
    simp only [El.ofC] at h
    split at h
    . cases h; rfl
    . cases h
theorem zgx (e : El) (n : Nat) (cs : List C) (l : List e.T) (h : zd1 e n cs = some l) : cs = flat e l /\ l.length = n := by
  induction n generalizing cs l with
  | zero =>
    cases cs with
    | nil => simp [zd1] at h; subst h; exact ⟨rfl, rfl⟩
    | cons c cs => simp [zd1] at h
  | succ n ih =>
    simp only [zd1] at h
    split at h
    . rename_i x hx
      split at h
      . rename_i r hr
        cases h
        obtain ⟨h1, h2⟩ := ih _ _ hr
        have h3 := zgb e _ _ hx
        refine ⟨?_, by simp [h2]⟩
        rw [flat, ← h1, ← h3, List.take_append_drop]
      . cases h
    . cases h
theorem zbH {f e : El} {l : List f.T} {m : List e.T} (h : zbK f e l = some m) : ∃ q : f = e, q ▸ l = m := by
  cases f <;> cases e <;> simp only [zbK, oi1, reduceCtorEq] at h <;> exact ⟨rfl, h⟩
theorem zdN {f e : El} {l : List f.T} {m : List e.T} (h : zbK f e l = some m) : flat f l = flat e m /\ l.length = m.length /\ f = e := by
  obtain ⟨rfl, rfl⟩ := zbH h
  exact ⟨rfl, rfl, rfl⟩
theorem zfd {e f : El} (h : Nat.beq e.idx f.idx = true) : e = f := by
  cases e <;> cases f <;> first | rfl | (exact absurd h (by decide))
def C.val : C -> Option Value
  | .u64 x => some (.int .u64 x.toNat)
  | .u32 x => some (.int .u32 x.toNat)
  | .u8 x => some (.int .u8 x.toNat)
  | .int n => some (.int .i64 n)
  | .bool b => some (.bool b)
  | .str l => some (.string ⟨l.toArray⟩)
  | .nilp => some (.pointer none)
  | _ => none
inductive Holds (w : World) (ok : Nat -> Prop) : C -> Value -> Prop
  | sc {c : C} {v : Value} : c.val = some v -> Holds w ok c v
  | ro {e : El} {l : List e.T} {b off cap : Nat} (f : Nat -> Value) : l.length <= cap -> cap <= maxLen -> ok b ->
      (∀ (j : Nat) (c : C), (flat e l)[j]? = some c -> w.cell? ⟨b, off + j, none⟩ = some (f j)) -> (∀ (j : Nat) (c : C), (flat e l)[j]? = some c -> Holds w ok c (f j)) ->
      Holds w ok (.ro e l) (.slice (some ⟨b, off, none⟩) l.length cap)
  | emp {e : El} {a : Option Addr} {cap : Nat} : Holds w ok (.ro e []) (.slice a 0 cap)
  | rt {l : List Tn} {b off cap : Nat} (f : Nat -> Value) : l.length <= cap -> cap <= maxLen -> ok b ->
      (∀ (j : Nat) (c : C), (zc7 l)[j]? = some c -> w.cell? ⟨b, off + j, none⟩ = some (f j)) -> (∀ (j : Nat) (c : C), (zc7 l)[j]? = some c -> Holds w ok c (f j)) ->
      Holds w ok (.rt l) (.slice (some ⟨b, off, none⟩) l.length cap)
  | rtemp {a : Option Addr} {cap : Nat} : Holds w ok (.rt []) (.slice a 0 cap)
structure RI where
  blk : Nat
  val : Value
  sz : Nat
  len : Nat
structure Ctx where
  P : Program
  pd : PD
  w0 : World
  may : Nat -> Prop
  pin : TypeId -> Nat × Nat × TypeId × Nat
  rd : Nat -> Prop
def Ctx.pinOK (X : Ctx) (k : TypeId) (b size : Nat) (ty : TypeId) (n : Nat) : Prop := PIN <= k -> X.pin k = (b, size, ty, n)
def Ctx.ok (X : Ctx) (b : Nat) : Prop := b < X.w0.heap.size /\ ¬ X.may b /\ X.rd b
def RC (X : Ctx) (ρ : Nat -> RI) : C -> Value -> Prop
  | .row id, v => v = (ρ id).val /\ ∃ a n c, v = .slice a n c
  | .sl id i n, v => i + n <= (ρ id).len /\ ∃ cap, n <= cap /\ cap <= maxLen /\ ((ρ id).val = undef -> i + cap <= (ρ id).len) /\ (v = .slice (some ⟨(ρ id).blk, i * (ρ id).sz, none⟩) n cap \/ (n = 0 /\ ∃ a, v = .slice a 0 cap))
  | .slc id i n c, v => n <= c /\ c <= maxLen /\ i + c <= (ρ id).len /\ v = .slice (some ⟨(ρ id).blk, i * (ρ id).sz, none⟩) n c
  | .ptr id i sub, v => i < (ρ id).len /\ sub < (ρ id).sz /\ v = .pointer (some ⟨(ρ id).blk, i * (ρ id).sz + sub, none⟩)
  | .rop e l i sub, v => i < l.length /\ sub < e.size /\ ∃ b off, v = .pointer (some ⟨b, off + (i * e.size + sub), none⟩) /\ X.ok b /\
      ∃ f : Nat -> Value, (∀ (j : Nat) (c : C), (flat e l)[j]? = some c -> X.w0.cell? ⟨b, off + j, none⟩ = some (f j)) /\ (∀ (j : Nat) (c : C), (flat e l)[j]? = some c -> Holds X.w0 X.ok c (f j))
  | .rtp l i sub, v => i < l.length /\ sub < 3 /\ ∃ b off, v = .pointer (some ⟨b, off + (i * 3 + sub), none⟩) /\ X.ok b /\
      ∃ f : Nat -> Value, (∀ (j : Nat) (c : C), (zc7 l)[j]? = some c -> X.w0.cell? ⟨b, off + j, none⟩ = some (f j)) /\ (∀ (j : Nat) (c : C), (zc7 l)[j]? = some c -> Holds X.w0 X.ok c (f j))
  | .len n, v => ∃ a c, v = .slice a n c
  | .asl id off e n, v => (ρ id).len = 1 /\ off + n * e.size <= (ρ id).sz /\ n <= maxLen /\ v = .slice (some ⟨(ρ id).blk, off, none⟩) n n
  | .dead, _ => True
  | c, v => Holds X.w0 X.ok c v
def RCs (X : Ctx) (ρ : Nat -> RI) : List C -> List Value -> Prop
  | [], [] => True
  | c :: l, v :: vs => RC X ρ c v /\ RCs X ρ l vs
  | _, _ => False
def RU (X : Ctx) (ρ : Nat -> RI) : U -> Value -> Prop
  | .c x, v => RC X ρ x v
  | .agg l, v => ∃ vs, v = .agg vs /\ RCs X ρ l vs.toList
  | .vec e l, v => ∃ vs, v = .agg vs /\ RCs X ρ (flat e l) vs.toList
  | .box _, _ => False
def RUs (X : Ctx) (ρ : Nat -> RI) : List U -> List Value -> Prop
  | [], [] => True
  | c :: l, v :: vs => RU X ρ c v /\ RUs X ρ l vs
  | _, _ => False
def RV (X : Ctx) (ρ : Nat -> RI) : V -> Value -> Prop
  | .u x, v => RU X ρ x v
  | .tup l, v => ∃ vs, v = .tuple vs /\ RUs X ρ l vs.toList
  | .dead, _ => True
structure RO (X : Ctx) (ρ : Nat -> RI) (w : World) (id : Nat) (x : Ob) : Prop where
  sz : (ρ id).sz = x.o.sz
  len : (ρ id).len = x.o.len
  n : x.row = false -> x.n ≠ 0 -> ∀ e l, x.o = .vec e l -> l.length = x.n /\ (ρ id).val = undef
  vec : x.row = true -> (∃ e l, x.o = .vec e l) /\ x.n = 0
  mem : (x.row = true /\ (ρ id).val = .slice none 0 0 /\ x.o.cells = []) \/
    ∃ (vs : Array Value) (ty : TypeId) (cap : Nat), w.heap[(ρ id).blk]? = some (.cells vs ty (0, 0)) /\
      RCs X ρ x.o.cells (vs.toList.take x.o.cells.length) /\ x.o.cells.length <= vs.size /\
      (x.row = false -> x.o.cells.length <= vs.size /\ X.pinOK x.ty (ρ id).blk vs.size ty x.o.cells.length) /\
      (x.row = true -> ty = x.ty /\ (ρ id).val = .slice (some ⟨(ρ id).blk, 0, none⟩) x.o.len cap /\ x.o.len <= cap /\ cap <= maxLen /\ vs.size = cap * x.o.sz)
theorem RO.nl {X : Ctx} {ρ : Nat -> RI} {w : World} {id : Nat} {x : Ob} (h : RO X ρ w id x) (h1 : x.row = false) (h2 : x.n ≠ 0) (e : El) (l : List e.T) (he : x.o = .vec e l) : l.length = x.n := (h.n h1 h2 e l he).1
def hasB (ρ : Nat -> RI) (id : Nat) (x : Ob) : Prop := x.row = false \/ (ρ id).val ≠ .slice none 0 0
structure Frm (X : Ctx) (w : World) : Prop where
  os : w.os = X.w0.os
  tape : w.tape = X.w0.tape
  output : w.output = X.w0.output
  size : X.w0.heap.size <= w.heap.size
  block : ∀ k, k < X.w0.heap.size -> ¬ X.may k -> w.heap[k]? = X.w0.heap[k]?
structure Sim (X : Ctx) (ρ : Nat -> RI) (s : St) (a : Act) (w : World) : Prop where
  tm : ∀ t v, s.tm[t]? = some v -> RV X ρ v (a.tmps.getD t undef)
  sz : s.tm.length = a.tmps.size
  df : a.defers = []
  ob : ∀ id x, s.get id = some x -> RO X ρ w id x
  inj : ∀ i j x y, s.get i = some x -> s.get j = some y -> i ≠ j -> hasB ρ i x -> hasB ρ j y -> (ρ i).blk ≠ (ρ j).blk
  own : ∀ id x, s.get id = some x -> hasB ρ id x -> X.w0.heap.size <= (ρ id).blk \/ X.may (ρ id).blk
  fr : Frm X w
end
section
theorem zhT {a b : Nat} (h : a ≠ b) : Nat.beq a b = false := by
  cases hb : Nat.beq a b with
  | true => exact absurd (Nat.beq_true hb) h
  | false => rfl
theorem Holds.mono {w w' : World} {ok ok' : Nat -> Prop} (hok : ∀ b, ok b -> ok' b /\ w'.heap[b]? = w.heap[b]?) {c : C} {v : Value} (h : Holds w ok c v) : Holds w' ok' c v := by
  induction h with
  | sc h => exact .sc h
  | ro f h1 h2 h3 h4 _ ih => exact .ro f h1 h2 (hok _ h3).1 (fun j c hc => by rw [← h4 j c hc]; exact World.cell?_of_block (hok _ h3).2) ih
  | emp => exact .emp
  | rt f h1 h2 h3 h4 _ ih => exact .rt f h1 h2 (hok _ h3).1 (fun j c hc => by rw [← h4 j c hc]; exact World.cell?_of_block (hok _ h3).2) ih
  | rtemp => exact .rtemp
theorem zne {X : Ctx} {ρ ρ' : Nat -> RI} {c : C} {v : Value} (h : ∀ id, c.men id = true -> ρ' id = ρ id) (hr : RC X ρ c v) : RC X ρ' c v := by
  cases c <;> simp only [RC] at hr ⊢ <;> first | exact hr | skip
  case row id => rw [h id (by simp [C.men])]; exact hr
  case sl id i n => rw [h id (by simp [C.men])]; exact hr
  case ptr id i n => rw [h id (by simp [C.men])]; exact hr
  case asl id i e n => rw [h id (by simp [C.men])]; exact hr
  case slc id i n c => rw [h id (by simp [C.men])]; exact hr
theorem zBE {X : Ctx} {ρ : Nat -> RI} {id i n c : Nat} {v : Value} (h : RC X ρ (.slc id i n c) v) : RC X ρ (.sl id i n) v := by
  obtain ⟨h1, h2, h3, h4⟩ := h
  exact ⟨by omega, c, h1, h2, fun _ => h3, .inl h4⟩
theorem zbQ {X : Ctx} {ρ ρ' : Nat -> RI} {l : List C} {vs : List Value} (h : ∀ id, anyC (C.men id) l = true -> ρ' id = ρ id) (hr : RCs X ρ l vs) : RCs X ρ' l vs := by
  induction l generalizing vs with
  | nil => cases vs <;> exact hr
  | cons c l ih =>
    cases vs with
    | nil => exact hr
    | cons v vs =>
      refine ⟨zne (fun id hm => h id (by simp [anyC, hm])) hr.1, ih (fun id hm => h id ?_) hr.2⟩
      simp [anyC, hm]
theorem zwj (e : El) (x : e.T) (id : Nat) : anyC (C.men id) (e.toC x) = false := by
  cases e <;> simp [El.toC, Fr.c, anyC, C.men]
theorem zlE (p : C -> Bool) (a b : List C) : anyC p (a ++ b) = (anyC p a || anyC p b) := by
  induction a with
  | nil => rfl
  | cons x a ih => simp only [List.cons_append, anyC, ih]; cases p x <;> simp
theorem zbi (e : El) (l : List e.T) (id : Nat) : anyC (C.men id) (flat e l) = false := by
  induction l with
  | nil => rfl
  | cons x l ih => rw [flat, zlE, zwj, ih]; rfl
theorem znf {X : Ctx} {ρ ρ' : Nat -> RI} {u : U} {v : Value} (h : ∀ id, u.men id = true -> ρ' id = ρ id) (hr : RU X ρ u v) : RU X ρ' u v := by
  cases u with
  | c x => exact zne h hr
  | agg l => obtain ⟨vs, h1, h2⟩ := hr; exact ⟨vs, h1, zbQ h h2⟩
  | vec e l => obtain ⟨vs, h1, h2⟩ := hr; exact ⟨vs, h1, zbQ (fun id hm => by rw [zbi] at hm; cases hm) h2⟩
  | box l => exact hr
theorem zpw {X : Ctx} {ρ ρ' : Nat -> RI} {l : List U} {vs : List Value} (h : ∀ id, anyU (U.men id) l = true -> ρ' id = ρ id) (hr : RUs X ρ l vs) : RUs X ρ' l vs := by
  induction l generalizing vs with
  | nil => cases vs <;> exact hr
  | cons c l ih =>
    cases vs with
    | nil => exact hr
    | cons v vs =>
      refine ⟨znf (fun id hm => h id (by simp [anyU, hm])) hr.1, ih (fun id hm => h id ?_) hr.2⟩
      simp [anyU, hm]
theorem ztf {X : Ctx} {ρ ρ' : Nat -> RI} {u : V} {v : Value} (h : ∀ id, u.men id = true -> ρ' id = ρ id) (hr : RV X ρ u v) : RV X ρ' u v := by
  cases u with
  | u x => exact znf h hr
  | tup l => obtain ⟨vs, h1, h2⟩ := hr; exact ⟨vs, h1, zpw h h2⟩
  | dead => exact hr
theorem O.men_cells (o : O) (id : Nat) : o.men id = anyC (C.men id) o.cells := by
  cases o with
  | lit l => rfl
  | vec e l => exact (zbi e l id).symm
theorem RO.congr {X : Ctx} {ρ ρ' : Nat -> RI} {w : World} {id : Nat} {x : Ob} (hid : ρ' id = ρ id) (h : ∀ j, x.o.men j = true -> ρ' j = ρ j) (hr : RO X ρ w id x) : RO X ρ' w id x := by
  have hc : ∀ {vs}, RCs X ρ x.o.cells vs -> RCs X ρ' x.o.cells vs := fun hh => by
    refine zbQ (fun j hm => h j ?_) hh
    rw [O.men_cells]; exact hm
  constructor
  . rw [hid]; exact hr.sz
  . rw [hid]; exact hr.len
  . rw [hid]; exact hr.n
  . exact hr.vec
  . rw [hid]
    rcases hr.mem with h | ⟨vs, ty, cap, h1, h2, h3⟩
    . exact .inl h
    . exact .inr ⟨vs, ty, cap, h1, hc h2, h3⟩
theorem RO.world {X : Ctx} {ρ : Nat -> RI} {w w' : World} {id : Nat} {x : Ob} (hr : RO X ρ w id x) (h : hasB ρ id x -> w'.heap[(ρ id).blk]? = w.heap[(ρ id).blk]?) : RO X ρ w' id x := by
  constructor
  . exact hr.sz
  . exact hr.len
  . exact hr.n
  . exact hr.vec
  . rcases hr.mem with h1 | ⟨vs, ty, cap, h1, h2⟩
    . exact .inl h1
    . refine .inr ⟨vs, ty, cap, ?_, h2⟩
      rw [h ?_]; exact h1
      cases hrow : x.row with
      | false => exact .inl hrow
      | true =>
        refine .inr ?_
        rw [(h2.2.2.2 hrow).2.1]; simp
section
variable {X : Ctx} {ρ : Nat -> RI} {s : St} {a : Act} {w : World}
theorem zng {s : St} {t : Nat} {v : V} {id : Nat} (h : s.tm[t]? = some v) (hm : s.men id = false) : v.men id = false := by
  unfold St.men at hm
  have : zb3 id s.tm = false := by
    cases hb : zb3 id s.tm with
    | true => rw [hb] at hm; simp at hm
    | false => rfl
  generalize s.tm = l at h this
  induction l generalizing t with
  | nil => simp at h
  | cons x l ih =>
    cases hx : x.men id with
    | true => simp [zb3, hx] at this
    | false =>
      simp [zb3, hx] at this
      cases t with
      | zero => simp at h; subst h; exact hx
      | succ t => exact ih (by simpa using h) this
theorem zgy {s : St} {i : Nat} {x : Ob} {id : Nat} (h : s.get i = some x) (hm : s.men id = false) : i ≠ id /\ x.o.men id = false := by
  unfold St.men at hm
  have : zbr id s.ob = false := by
    cases hb : zb3 id s.tm with
    | true => rw [hb] at hm; simp at hm
    | false => rw [hb] at hm; simpa using hm
  unfold St.get at h
  generalize s.ob = l at h this
  induction l with
  | nil => simp [look] at h
  | cons p l ih =>
    obtain ⟨m, y⟩ := p
    simp only [zbr] at this
    cases h1 : Nat.beq m id with
    | true => simp [h1] at this
    | false =>
      cases h2 : y.o.men id with
      | true => simp [h1, h2] at this
      | false =>
        simp [h1, h2] at this
        simp only [look] at h
        cases h3 : Nat.beq m i with
        | true =>
          simp [h3] at h
          subst h
          refine ⟨?_, h2⟩
          have := Nat.beq_true h3
          subst this
          intro he
          subst he
          simp at h1
        | false =>
          simp [h3] at h
          exact ih h this
theorem Sim.world (h : Sim X ρ s a w) {w' : World} (hw : ∀ id x, s.get id = some x -> hasB ρ id x -> w'.heap[(ρ id).blk]? = w.heap[(ρ id).blk]?) (hf : Frm X w') : Sim X ρ s a w' :=
  ⟨h.tm, h.sz, h.df, fun id x hx => (h.ob id x hx).world (hw id x hx), h.inj, h.own, hf⟩
theorem Sim.del (h : Sim X ρ s a w) (id : Nat) : Sim X ρ ⟨s.tm, zbL id s.ob⟩ a w := by
  have hg : ∀ j x, St.get ⟨s.tm, zbL id s.ob⟩ j = some x -> s.get j = some x := fun j x hx => by
    unfold St.get at *
    by_cases e : j = id
    . subst e; rw [zbO] at hx; cases hx
    . rwa [zcD _ e] at hx
  exact ⟨h.tm, h.sz, h.df, fun j x hx => h.ob j x (hg j x hx), fun i j x y hx hy => h.inj i j x y (hg _ _ hx) (hg _ _ hy), fun j x hx => h.own j x (hg _ _ hx), h.fr⟩
def upd (ρ : Nat -> RI) (id : Nat) (r : RI) : Nat -> RI := fun j => if j = id then r else ρ j
theorem zac (ρ : Nat -> RI) (id : Nat) (r : RI) : upd ρ id r id = r := by simp [upd]
theorem zbb {ρ : Nat -> RI} {id j : Nat} {r : RI} (h : j ≠ id) : upd ρ id r j = ρ j := by simp [upd, h]
theorem Sim.add (h : Sim X ρ s a w) (id : Nat) (x : Ob) (r : RI) (hm : s.men id = false) (hro : RO X (upd ρ id r) w id x)
    (hd : hasB (upd ρ id r) id x -> (∀ j y, s.get j = some y -> hasB ρ j y -> (ρ j).blk ≠ r.blk) /\ (X.w0.heap.size <= r.blk \/ X.may r.blk)) :
    Sim X (upd ρ id r) ⟨s.tm, za5 id x s.ob⟩ a w := by
  have hg : ∀ j y, j ≠ id -> St.get ⟨s.tm, za5 id x s.ob⟩ j = some y -> s.get j = some y := fun j y hj hy => by
    unfold St.get at *
    rwa [zaJ _ _ hj] at hy
  have hs : ∀ y, St.get ⟨s.tm, za5 id x s.ob⟩ id = some y -> y = x := fun y hy => by
    unfold St.get at hy
    rw [zaA] at hy
    simpa using hy.symm
  have hB : ∀ j y, j ≠ id -> hasB (upd ρ id r) j y -> hasB ρ j y := fun j y hj hb => by
    unfold hasB at *; rwa [zbb hj] at hb
  refine ⟨fun t v hv => ?_, h.sz, h.df, fun j y hy => ?_, fun i j y z hy hz hij hbi hbj => ?_, fun j y hy hb => ?_, h.fr⟩
  . refine ztf (fun j hj => ?_) (h.tm t v hv)
    refine zbb fun e => ?_
    subst e
    rw [zng (s := s) hv hm] at hj; cases hj
  . by_cases e : j = id
    . subst e; rw [hs y hy]; exact hro
    . have hy' := hg j y e hy
      refine (h.ob j y hy').congr (zbb e) (fun i hi => zbb fun e' => ?_)
      subst e'
      rw [(zgy hy' hm).2] at hi; cases hi
  . by_cases ei : i = id
    . subst ei
      have hj : j ≠ i := fun e => hij e.symm
      rw [hs y hy] at hbi
      rw [zac, zbb hj]
      exact fun e => ((hd hbi).1 j z (hg j z hj hz) (hB j z hj hbj)) e.symm
    . by_cases ej : j = id
      . subst ej
        rw [hs z hz] at hbj
        rw [zac, zbb ei]
        exact (hd hbj).1 i y (hg i y ei hy) (hB i y ei hbi)
      . rw [zbb ei, zbb ej]
        exact h.inj i j y z (hg i y ei hy) (hg j z ej hz) hij (hB i y ei hbi) (hB j z ej hbj)
  . by_cases e : j = id
    . subst e
      rw [hs y hy] at hb
      rw [zac]
      exact (hd hb).2
    . rw [zbb e]; exact h.own j y (hg j y e hy) (hB j y e hb)
theorem zdi (l : List V) (d : Nat) (v : V) : (setV l d v).length = l.length := by
  induction l generalizing d with
  | nil => rfl
  | cons x l ih => cases d <;> simp [setV, ih]
theorem zgc (l : List V) (d : Nat) (v : V) (t : Nat) : (setV l d v)[t]? = if t = d /\ d < l.length then some v else l[t]? := by
  induction l generalizing d t with
  | nil => simp [setV]
  | cons x l ih =>
    cases d with
    | zero => cases t <;> simp [setV]
    | succ d => cases t <;> simp [setV, ih]
theorem Sim.set (h : Sim X ρ s a w) (d : Nat) {v : V} {x : Value} (hv : RV X ρ v x) : Sim X ρ ⟨setV s.tm d v, s.ob⟩ (a.put (some d) x) w := by
  refine ⟨fun t u hu => ?_, by simp [zdi, Act.put, h.sz], h.df, h.ob, h.inj, h.own, h.fr⟩
  simp only [zgc] at hu
  split at hu
  . rename_i hc
    obtain ⟨rfl, hlt⟩ := hc
    cases hu
    rw [h.sz] at hlt
    simp [Act.put, hlt]
    exact hv
  . rename_i hc
    have hlt : t < a.tmps.size := by
      rw [← h.sz]
      exact (List.getElem?_eq_some_iff.1 hu).1
    have : t ≠ d := fun e => hc ⟨e, by rw [h.sz]; omega⟩
    have h2 := h.tm t u hu
    simp only [Act.put, Array.getD_eq_getD_getElem?, Array.getElem?_setIfInBounds] at h2 ⊢
    rw [if_neg (fun e => this e.symm)]
    exact h2
theorem Sim.store (h : Sim X ρ s a w) (id : Nat) (x y : Ob) (hx : s.get id = some x) {w' : World} (hb : hasB ρ id x) (hby : hasB ρ id y) (hro : RO X ρ w' id y)
    (hw : ∀ k, k ≠ (ρ id).blk -> w'.heap[k]? = w.heap[k]?) (hf : w'.os = w.os /\ w'.tape = w.tape /\ w'.output = w.output /\ w'.heap.size = w.heap.size) :
    Sim X ρ ⟨s.tm, za5 id y s.ob⟩ a w' := by
  have hg : ∀ j z, j ≠ id -> St.get ⟨s.tm, za5 id y s.ob⟩ j = some z -> s.get j = some z := fun j z hj hz => by
    unfold St.get at *
    rwa [zaJ _ _ hj] at hz
  have hs : ∀ z, St.get ⟨s.tm, za5 id y s.ob⟩ id = some z -> z = y := fun z hz => by
    unfold St.get at hz
    rw [zaA] at hz
    simpa using hz.symm
  refine ⟨h.tm, h.sz, h.df, fun j z hz => ?_, fun i j u z hu hz hij hbi hbj => ?_, fun j z hz hb => ?_, ⟨hf.1.trans h.fr.os, hf.2.1.trans h.fr.tape, hf.2.2.1.trans h.fr.output, by rw [hf.2.2.2]; exact h.fr.size, fun k hk hm => ?_⟩⟩
  . by_cases e : j = id
    . subst e; rw [hs z hz]; exact hro
    . have hz' := hg j z e hz
      exact (h.ob j z hz').world fun hbj => hw _ (h.inj j id z x hz' hx e hbj hb)
  . by_cases ei : i = id
    . subst ei
      exact h.inj i j x z hx (hg j z (fun e => hij e.symm) hz) hij hb hbj
    . by_cases ej : j = id
      . subst ej
        exact h.inj i j u x (hg i u ei hu) hx hij hbi hb
      . exact h.inj i j u z (hg i u ei hu) (hg j z ej hz) hij hbi hbj
  . by_cases e : j = id
    . subst e; exact h.own j x hx (by assumption)
    . exact h.own j z (hg j z e hz) hb
  . rw [hw k ?_]; exact h.fr.block k hk hm
    intro e
    subst e
    rcases h.own id x hx (by assumption) with h1 | h1
    . omega
    . exact hm h1
theorem Sim.eval (h : Sim X ρ s a w) (t : Nat) : RV X ρ (s.tm.getD t .dead) (a.eval (.tmp t)) := by
  rw [List.getD_eq_getElem?_getD]
  cases hv : s.tm[t]? with
  | none => exact trivial
  | some v => exact h.tm t v hv
end
end
section
def zhU (P : Program) (t : TypeId) : TK -> Prop
  | .int k => P.underlying t = some (.int k)
  | .bool => P.underlying t = some .bool
  | .str => P.underlying t = some .string
  | .slice e => P.underlying t = some (.slice e)
  | .arr n e => P.underlying t = some (.array n e) /\ P.eqGuardType P.depth t = false
  | .struct fs => (∃ fields : Array Field, P.underlying t = some (.struct fields) /\ fields.toList.map (fun f => (f.offset, f.type)) = fs /\ fields.toList.all (fun f => f.name != "_" && (P.info? f.type).isSome) = true) /\ P.eqGuardType P.depth t = false /\ P.stoodInHeld t = false
  | .ptr e => P.underlying t = some (.pointer e)
def zpx (v : Value) (c : C) : Prop :=
  match c with
  | .ro _ [] => v = .slice none 0 0
  | c => c.val = some v
def zhV : List Value -> List C -> Prop
  | [], [] => True
  | v :: vs, c :: cs => zpx v c /\ zhV vs cs
  | _, _ => False
structure TIok (P : Program) (t : TypeId) (ti : TI) : Prop where
  kind : zhU P t ti.k
  info : ∃ i z, P.info? t = some i /\ i.size = ti.size /\ i.bytes = ti.bytes /\ i.zero = some z /\ zhV z.cells.toList ti.zero /\ (ti.k.agg = true -> ∃ cs, z = .agg cs) /\ (ti.k.agg = false -> z.cells = #[z])
  size : ti.zero.length = ti.size
def wfTI (pd : PD) (ti : TI) : Bool :=
  match ti.k with
  | .arr n e => match pd.ti e with
    | some ei => Nat.beq ti.size (n * ei.size)
    | none => true
  | .struct fs => fs.all (fun f => match pd.ti f.2 with | some fi => Nat.ble (f.1 + fi.size) ti.size | none => true) &&
      (match fs with
        | [(0, u)] => match pd.ti u with
          | some ui => Nat.beq ti.size ui.size
          | none => true
        | _ => true)
  | _ => true
structure PDok (P : Program) (pd : PD) : Prop where
  ti : ∀ t ti, pd.ti t = some ti -> TIok P t ti
  wf : ∀ t ti, pd.ti t = some ti -> wfTI pd ti = true
  el : ∀ t e, pd.el t = some e -> ∃ ti, pd.ti t = some ti /\ ti.size = e.size /\ ti.zero = e.toC e.zero
  inj : ∀ t e, elTy e pd.els = some t -> pd.el t = some e
  i3 : ∃ ti, pd.ti 3 = some ti /\ ti.zero = [.int 0]
  i4 : ∃ ti, pd.ti 4 = some ti /\ ti.zero = [.bool false]
  mix : P.follows .mixedOrders = true
variable {X : Ctx} {ρ : Nat -> RI} {s : St} {a : Act} {w : World}
theorem zat {l : List C} {vs : List Value} (h : RCs X ρ l vs) : l.length = vs.length := by
  induction l generalizing vs with
  | nil => cases vs with
    | nil => rfl
    | cons v vs => exact h.elim
  | cons c l ih => cases vs with
    | nil => exact h.elim
    | cons v vs => simp [ih h.2]
theorem zlF {l : List C} {vs : List Value} (h : RCs X ρ l vs) (j : Nat) (c : C) (hc : l[j]? = some c) : ∃ v, vs[j]? = some v /\ RC X ρ c v := by
  induction l generalizing vs j with
  | nil => simp at hc
  | cons d l ih => cases vs with
    | nil => exact h.elim
    | cons v vs =>
      cases j with
      | zero => simp at hc; subst hc; exact ⟨v, by simp, h.1⟩
      | succ j => simpa using ih h.2 j (by simpa using hc)
theorem zcy {l m : List C} {vs us : List Value} (h : RCs X ρ l vs) (h2 : RCs X ρ m us) : RCs X ρ (l ++ m) (vs ++ us) := by
  induction l generalizing vs with
  | nil => cases vs with
    | nil => exact h2
    | cons v vs => exact h.elim
  | cons c l ih => cases vs with
    | nil => exact h.elim
    | cons v vs => exact ⟨h.1, ih h.2⟩
theorem zbe {l : List C} {vs : List Value} (h : RCs X ρ l vs) (n : Nat) : RCs X ρ (l.take n) (vs.take n) := by
  induction l generalizing vs n with
  | nil => cases vs with
    | nil => simp [RCs]
    | cons v vs => exact h.elim
  | cons c l ih => cases vs with
    | nil => exact h.elim
    | cons v vs => cases n with
      | zero => simp [RCs]
      | succ n => exact ⟨h.1, ih h.2 n⟩
theorem zbn {l : List C} {vs : List Value} (h : RCs X ρ l vs) (n : Nat) : RCs X ρ (l.drop n) (vs.drop n) := by
  induction l generalizing vs n with
  | nil => cases vs with
    | nil => simp [RCs]
    | cons v vs => exact h.elim
  | cons c l ih => cases vs with
    | nil => exact h.elim
    | cons v vs => cases n with
      | zero => exact h
      | succ n => exact ih h.2 n
theorem zfe {l m : List C} {vs us : List Value} (h : RCs X ρ l vs) (h2 : RCs X ρ m us) (n : Nat) : RCs X ρ (zan l n m) (zan vs n us) := by
  unfold zan
  rw [zat h2]
  exact zcy (zbe h n) (zcy h2 (zbn h _))
theorem za0 {c : C} {v : Value} (h : c.val = some v) : RC X ρ c v := by
  cases c <;> first | exact Holds.sc h | (simp [C.val] at h; done)
theorem zap {c : C} {v u : Value} (hv : c.val = some u) (h : RC X ρ c v) : v = u := by
  cases c <;> simp [C.val] at hv <;> (cases h with | sc h => simp [C.val] at h; rw [← h, hv])
theorem zwk {v : Value} {c : C} (h : zpx v c) : RC X ρ c v := by
  unfold zpx at h
  split at h
  . subst h; exact Holds.emp
  . exact za0 h
theorem zcK {vs : List Value} {cs : List C} (h : zhV vs cs) : RCs X ρ cs vs := by
  induction cs generalizing vs with
  | nil => cases vs with
    | nil => trivial
    | cons v vs => exact h.elim
  | cons c cs ih => cases vs with
    | nil => exact h.elim
    | cons v vs => exact ⟨zwk h.1, ih h.2⟩
theorem zgz {v : Value} {z : C} : RC X ρ (zgp v z) v := by
  unfold zgp
  split
  case h_1 n =>
    cases h : zbA n 18446744073709551616 with
    | false => exact trivial
    | true =>
      refine za0 ?_
      cases n with
      | negSucc k => simp [zbA] at h
      | ofNat k =>
        have : k < 18446744073709551616 := by simpa [zbA, Nat.blt_eq] using h
        simp [C.val, Nat.mod_eq_of_lt this]
  case h_2 n =>
    cases h : zbA n 4294967296 with
    | false => exact trivial
    | true =>
      refine za0 ?_
      cases n with
      | negSucc k => simp [zbA] at h
      | ofNat k =>
        have : k < 4294967296 := by simpa [zbA, Nat.blt_eq] using h
        simp [C.val, Nat.mod_eq_of_lt this]
  case h_3 n =>
    cases h : zbA n 256 with
    | false => exact trivial
    | true =>
      refine za0 ?_
      cases n with
      | negSucc k => simp [zbA] at h
      | ofNat k =>
        have : k < 256 := by simpa [zbA, Nat.blt_eq] using h
        simp [C.val, Nat.mod_eq_of_lt this]
  case h_4 n => exact za0 rfl
  case h_5 b => exact za0 rfl
  case h_6 b => exact za0 (by simp [C.val])
  case h_7 => exact za0 rfl
  case h_8 n c =>
    split
    . cases h : (Nat.beq n 0 && Nat.beq c 0) with
      | false => exact trivial
      | true =>
        simp only [Bool.and_eq_true] at h
        have h1 := Nat.beq_true h.1
        have h2 := Nat.beq_true h.2
        subst h1; subst h2
        exact Holds.emp
    . exact trivial
  case h_9 => exact trivial
theorem zoe {vs : List Value} {zs : List C} (h : vs.length = zs.length) : RCs X ρ (zfb vs zs) vs := by
  induction vs generalizing zs with
  | nil => cases zs with
    | nil => trivial
    | cons z zs => simp at h
  | cons v vs ih => cases zs with
    | nil => simp at h
    | cons z zs => exact ⟨zgz, ih (by simpa using h)⟩
theorem zi9 {pd : PD} {t : TypeId} {cs : List C} {u : U} (h : pd.mkU t cs = some u) :
    ∃ ti, pd.ti t = some ti /\ u.cells = cs /\ ((ti.k.agg = true /\ ((∃ l, u = .agg l) \/ ∃ e l, u = .vec e l)) \/ (ti.k.agg = false /\ ∃ c, u = .c c /\ cs = [c])) := by
  unfold PD.mkU at h
  cases ha : pd.arrLike t with
  | some p =>
    obtain ⟨n, e⟩ := p
    simp only [ha] at h
    have : ∃ ti, pd.ti t = some ti /\ ti.k.agg = true := by
      unfold PD.arrLike at ha
      split at ha
      . rename_i h1; exact ⟨_, h1, rfl⟩
      . rename_i h1; exact ⟨_, h1, rfl⟩
      . cases ha
    obtain ⟨ti, h1, h2⟩ := this
    split at h
    . rename_i l hl
      cases h
      exact ⟨ti, h1, (zgx e n cs l hl).1.symm, .inl ⟨h2, .inr ⟨e, l, rfl⟩⟩⟩
    . cases h
  | none =>
    simp only [ha] at h
    split at h
    . rename_i h1; cases h; exact ⟨_, h1, rfl, .inl ⟨rfl, .inl ⟨_, rfl⟩⟩⟩
    . rename_i h1; cases h; exact ⟨_, h1, rfl, .inl ⟨rfl, .inl ⟨_, rfl⟩⟩⟩
    . rename_i ti n1 n2 h1
      split at h
      . rename_i c
        cases h
        refine ⟨ti, h1, rfl, .inr ⟨?_, c, rfl, rfl⟩⟩
        obtain ⟨k, sz, by', z⟩ := ti
        cases k
        case arr n' e' => exact (n2 n' e' sz by' z rfl).elim
        case struct fs => exact (n1 fs sz by' z rfl).elim
        all_goals rfl
      . cases h
    . cases h
def zcj (agg : Bool) (vs : List Value) : Value := if agg then .agg vs.toArray else vs.headD undef
theorem zfJ {pd : PD} {t : TypeId} {cs : List C} {u : U} {vs : List Value} (h : pd.mkU t cs = some u) (hc : RCs X ρ cs vs) {ti : TI} (hti : pd.ti t = some ti) : RU X ρ u (zcj ti.k.agg vs) := by
  obtain ⟨ti', h1, h2, h3⟩ := zi9 h
  rw [hti] at h1; cases h1
  rcases h3 with ⟨h4, h5⟩ | ⟨h4, c, rfl, rfl⟩
  . simp only [zcj, h4, if_true]
    rcases h5 with ⟨l, rfl⟩ | ⟨e, l, rfl⟩
    . exact ⟨_, rfl, by rw [← h2] at hc; exact hc⟩
    . exact ⟨_, rfl, by rw [← h2] at hc; exact hc⟩
  . cases vs with
    | nil => exact hc.elim
    | cons v vs => simp [zcj, h4, RU]; exact hc.1
theorem ztg (t : TypeId) (v : Value) : RV X ρ (X.pd.ofVal t v) v := by
  unfold PD.ofVal
  cases hti : X.pd.ti t with
  | none =>
    simp only
    split
    . exact zgz
    . exact za0 (ρ := ρ) (c := .bool _) rfl
    . trivial
  | some ti =>
    simp only
    split
    . rename_i cs
      cases hb : (ti.k.agg && Nat.beq cs.toList.length ti.zero.length) with
      | false => trivial
      | true =>
        simp only [cond_true]
        simp only [Bool.and_eq_true] at hb
        have hl := Nat.beq_true hb.2
        cases hm : X.pd.mkU t (zfb cs.toList ti.zero) with
        | none => trivial
        | some u =>
          simp only
          have := zfJ hm (zoe (X := X) (ρ := ρ) hl) hti
          simpa [RV, zcj, hb.1] using this
    . split
      . exact zgz
      . trivial
end
section
theorem zcf (n : Int) : IntKind.u64.wrap n = n % 18446744073709551616 := by simp [IntKind.wrap, IntKind.bits, IntKind.signed]
theorem zbR (n : Int) : IntKind.u32.wrap n = n % 4294967296 := by simp [IntKind.wrap, IntKind.bits, IntKind.signed]
theorem zcg (n : Int) : IntKind.u8.wrap n = n % 256 := by simp [IntKind.wrap, IntKind.bits, IntKind.signed]
section
variable (x y : UInt64)
theorem zBF : IntKind.u64.wrap ((x.toNat : Int) + y.toNat) = ((x + y).toNat : Int) := by rw [zcf, UInt64.toNat_add]; omega
theorem zBG : IntKind.u64.wrap ((x.toNat : Int) - y.toNat) = ((x - y).toNat : Int) := by
  rw [zcf, UInt64.toNat_sub]; have := x.toNat_lt; have := y.toNat_lt; omega
theorem zBH : IntKind.u64.wrap ((x.toNat : Int) * y.toNat) = ((x * y).toNat : Int) := by
  rw [zcf, UInt64.toNat_mul, ← Int.natCast_mul, Int.natCast_emod]; rfl
theorem bv64 : BitVec.ofInt 64 (x.toNat : Int) = x.toBitVec := by
  rw [BitVec.ofInt_natCast]; exact (UInt64.toBitVec_eq_of_eq (by simp) : (UInt64.ofNat x.toNat).toBitVec = x.toBitVec)
theorem zpy (b : BitVec 64) : IntKind.u64.wrap (b.toNat : Int) = ((UInt64.ofBitVec b).toNat : Int) := by
  rw [zcf]; have := b.isLt; simp only [UInt64.toNat_ofBitVec]; omega
theorem zth (n : Nat) : IntKind.u64.wrap ((x.toNat : Int) * 2 ^ (min n 64)) = ((zf9 x n).toNat : Int) := by
  rw [zcf, zf9, UInt64.toNat_ofNat']
  rcases Nat.le_total n 64 with h | h
  . rw [Nat.min_eq_left h, show (x.toNat : Int) * 2 ^ n = ((x.toNat * 2 ^ n : Nat) : Int) from by rw [Int.natCast_mul, Int.natCast_pow]; rfl]; rfl
  . rw [Nat.min_eq_right h]
    obtain ⟨k, rfl⟩ := Nat.exists_eq_add_of_le h
    have e : x.toNat * 2 ^ (64 + k) = 18446744073709551616 * (x.toNat * 2 ^ k) := by rw [Nat.pow_add, show (2 : Nat) ^ 64 = 18446744073709551616 from rfl, Nat.mul_left_comm]
    rw [e, show (2 : Int) ^ 64 = 18446744073709551616 from rfl, show (2 : Nat) ^ 64 = 18446744073709551616 from rfl, Int.mul_emod_left, Nat.mul_mod_right]
    rfl
theorem zti (n : Nat) : (x.toNat : Int).fdiv (2 ^ (min n 64)) = ((za6 x n).toNat : Int) := by
  have hx := x.toNat_lt
  rw [za6, UInt64.toNat_ofNat', Int.fdiv_eq_ediv_of_nonneg _ (Int.pow_nonneg (by decide))]
  have h2 : x.toNat / 2 ^ n <= x.toNat := Nat.div_le_self _ _
  rw [Nat.mod_eq_of_lt (by have e : (2 : Nat) ^ 64 = 18446744073709551616 := rfl; omega)]
  rcases Nat.le_total n 64 with h | h
  . rw [Nat.min_eq_left h, Int.natCast_ediv, Int.natCast_pow]; rfl
  . rw [Nat.min_eq_right h]
    have e1 : x.toNat / 2 ^ n = 0 := Nat.div_eq_of_lt (Nat.lt_of_lt_of_le hx (Nat.pow_le_pow_right (by decide) h))
    rw [e1, show (2 : Int) ^ 64 = 18446744073709551616 from rfl]
    have e : (2 : Nat) ^ 64 = 18446744073709551616 := rfl
    omega
end
section
variable (x y : UInt32)
theorem zBI : IntKind.u32.wrap ((x.toNat : Int) + y.toNat) = ((x + y).toNat : Int) := by rw [zbR, UInt32.toNat_add]; omega
theorem zBJ : IntKind.u32.wrap ((x.toNat : Int) - y.toNat) = ((x - y).toNat : Int) := by
  rw [zbR, UInt32.toNat_sub]; have := x.toNat_lt; have := y.toNat_lt; omega
theorem zBK : IntKind.u32.wrap ((x.toNat : Int) * y.toNat) = ((x * y).toNat : Int) := by
  rw [zbR, UInt32.toNat_mul, ← Int.natCast_mul, Int.natCast_emod]; rfl
theorem bv32 : BitVec.ofInt 32 (x.toNat : Int) = x.toBitVec := by
  rw [BitVec.ofInt_natCast]; exact (UInt32.toBitVec_eq_of_eq (by simp) : (UInt32.ofNat x.toNat).toBitVec = x.toBitVec)
theorem zpz (b : BitVec 32) : IntKind.u32.wrap (b.toNat : Int) = ((UInt32.ofBitVec b).toNat : Int) := by
  rw [zbR]; have := b.isLt; simp only [UInt32.toNat_ofBitVec]; omega
theorem ztj (n : Nat) : IntKind.u32.wrap ((x.toNat : Int) * 2 ^ (min n 32)) = ((zv9 x n).toNat : Int) := by
  rw [zbR, zv9, UInt32.toNat_ofNat']
  rcases Nat.le_total n 32 with h | h
  . rw [Nat.min_eq_left h, show (x.toNat : Int) * 2 ^ n = ((x.toNat * 2 ^ n : Nat) : Int) from by rw [Int.natCast_mul, Int.natCast_pow]; rfl]; rfl
  . rw [Nat.min_eq_right h]
    obtain ⟨k, rfl⟩ := Nat.exists_eq_add_of_le h
    have e : x.toNat * 2 ^ (32 + k) = 4294967296 * (x.toNat * 2 ^ k) := by rw [Nat.pow_add, show (2 : Nat) ^ 32 = 4294967296 from rfl, Nat.mul_left_comm]
    rw [e, show (2 : Int) ^ 32 = 4294967296 from rfl, show (2 : Nat) ^ 32 = 4294967296 from rfl, Int.mul_emod_left, Nat.mul_mod_right]
    rfl
theorem ztk (n : Nat) : (x.toNat : Int).fdiv (2 ^ (min n 32)) = ((zwa x n).toNat : Int) := by
  have hx := x.toNat_lt
  rw [zwa, UInt32.toNat_ofNat', Int.fdiv_eq_ediv_of_nonneg _ (Int.pow_nonneg (by decide))]
  have h2 : x.toNat / 2 ^ n <= x.toNat := Nat.div_le_self _ _
  rw [Nat.mod_eq_of_lt (by have e : (2 : Nat) ^ 32 = 4294967296 := rfl; omega)]
  rcases Nat.le_total n 32 with h | h
  . rw [Nat.min_eq_left h, Int.natCast_ediv, Int.natCast_pow]; rfl
  . rw [Nat.min_eq_right h]
    have e1 : x.toNat / 2 ^ n = 0 := Nat.div_eq_of_lt (Nat.lt_of_lt_of_le hx (Nat.pow_le_pow_right (by decide) h))
    rw [e1, show (2 : Int) ^ 32 = 4294967296 from rfl]
    have e : (2 : Nat) ^ 32 = 4294967296 := rfl
    omega
end
section
variable (x y : UInt8)
theorem add8 : IntKind.u8.wrap ((x.toNat : Int) + y.toNat) = ((x + y).toNat : Int) := by rw [zcg, UInt8.toNat_add]; omega
theorem sub8 : IntKind.u8.wrap ((x.toNat : Int) - y.toNat) = ((x - y).toNat : Int) := by
  rw [zcg, UInt8.toNat_sub]; have := x.toNat_lt; have := y.toNat_lt; omega
theorem mul8 : IntKind.u8.wrap ((x.toNat : Int) * y.toNat) = ((x * y).toNat : Int) := by
  rw [zcg, UInt8.toNat_mul, ← Int.natCast_mul, Int.natCast_emod]; rfl
theorem bv8 : BitVec.ofInt 8 (x.toNat : Int) = x.toBitVec := by
  rw [BitVec.ofInt_natCast]; exact (UInt8.toBitVec_eq_of_eq (by simp) : (UInt8.ofNat x.toNat).toBitVec = x.toBitVec)
theorem zwl (b : BitVec 8) : IntKind.u8.wrap (b.toNat : Int) = ((UInt8.ofBitVec b).toNat : Int) := by
  rw [zcg]; have := b.isLt; simp only [UInt8.toNat_ofBitVec]; omega
theorem zwm (n : Nat) : IntKind.u8.wrap ((x.toNat : Int) * 2 ^ (min n 8)) = ((shl8 x n).toNat : Int) := by
  rw [zcg, shl8, UInt8.toNat_ofNat']
  rcases Nat.le_total n 8 with h | h
  . rw [Nat.min_eq_left h, show (x.toNat : Int) * 2 ^ n = ((x.toNat * 2 ^ n : Nat) : Int) from by rw [Int.natCast_mul, Int.natCast_pow]; rfl]; rfl
  . rw [Nat.min_eq_right h]
    obtain ⟨k, rfl⟩ := Nat.exists_eq_add_of_le h
    have e : x.toNat * 2 ^ (8 + k) = 256 * (x.toNat * 2 ^ k) := by rw [Nat.pow_add, show (2 : Nat) ^ 8 = 256 from rfl, Nat.mul_left_comm]
    rw [e, show (2 : Int) ^ 8 = 256 from rfl, show (2 : Nat) ^ 8 = 256 from rfl, Int.mul_emod_left, Nat.mul_mod_right]
    rfl
theorem zwn (n : Nat) : (x.toNat : Int).fdiv (2 ^ (min n 8)) = ((shr8 x n).toNat : Int) := by
  have hx := x.toNat_lt
  rw [shr8, UInt8.toNat_ofNat', Int.fdiv_eq_ediv_of_nonneg _ (Int.pow_nonneg (by decide))]
  have h2 : x.toNat / 2 ^ n <= x.toNat := Nat.div_le_self _ _
  rw [Nat.mod_eq_of_lt (by have e : (2 : Nat) ^ 8 = 256 := rfl; omega)]
  rcases Nat.le_total n 8 with h | h
  . rw [Nat.min_eq_left h, Int.natCast_ediv, Int.natCast_pow]; rfl
  . rw [Nat.min_eq_right h]
    have e1 : x.toNat / 2 ^ n = 0 := Nat.div_eq_of_lt (Nat.lt_of_lt_of_le hx (Nat.pow_le_pow_right (by decide) h))
    rw [e1, show (2 : Int) ^ 8 = 256 from rfl]
    have e : (2 : Nat) ^ 8 = 256 := rfl
    omega
end
theorem zwo (x : Int) (n : Nat) : IntKind.i64.wrap (x * 2 ^ (min n 64)) = shlI x n := by
  rw [shlI, wr]
  rcases Nat.le_total n 64 with h | h
  . rw [Nat.min_eq_left h]
  . rw [Nat.min_eq_right h]
    obtain ⟨k, rfl⟩ := Nat.exists_eq_add_of_le h
    have e : x * 2 ^ (64 + k) = 18446744073709551616 * (x * 2 ^ k) := by rw [Int.pow_add, show (2 : Int) ^ 64 = 18446744073709551616 from rfl, Int.mul_left_comm]
    rw [e]
    have e2 : ∀ m : Int, IntKind.i64.wrap (18446744073709551616 * m) = 0 := fun m => by rw [IntKind.wrap_i64]; omega
    rw [e2, show (2 : Int) ^ 64 = 18446744073709551616 from rfl, Int.mul_comm, e2]
theorem zwp (x : Int) (n : Nat) : x.fdiv (2 ^ (min n 64)) = shrI x n := rfl
theorem zea (a b : Nat) : (((a : Int) == (b : Int)) : Bool) = (a == b) := by
  rw [Bool.eq_iff_iff]; simp only [beq_iff_eq]; exact Int.ofNat_inj
theorem zwq (x y : UInt64) : (((x.toNat : Int) == (y.toNat : Int)) : Bool) = (x == y) := by
  rw [zea, Bool.eq_iff_iff]; simp [UInt64.toNat_inj]
theorem zwr (x y : UInt32) : (((x.toNat : Int) == (y.toNat : Int)) : Bool) = (x == y) := by
  rw [zea, Bool.eq_iff_iff]; simp [UInt32.toNat_inj]
theorem beq8 (x y : UInt8) : (((x.toNat : Int) == (y.toNat : Int)) : Bool) = (x == y) := by
  rw [zea, Bool.eq_iff_iff]; simp [UInt8.toNat_inj]
theorem zff (a b : Nat) : decide ((a : Int) < b) = ltN a b := by simp [ltN]
theorem zfg (a b : Nat) : decide ((a : Int) <= b) = leN a b := by simp [leN]
end
section
theorem zgA (x y : List UInt8) : ((⟨x.toArray⟩ : ByteArray).toList == (⟨y.toArray⟩ : ByteArray).toList) = eqB x y := by
  rw [ByteArray.toList_eq, ByteArray.toList_eq, eqB, Bool.eq_iff_iff]
  simp
def okI (k : IntKind) (w : World) (n : Int) : Result Value := .ok (.int k n) w
def okB (w : World) (b : Bool) : Result Value := .ok (.bool b) w
theorem zbS {P : Program} {w : World} (op : BinOp) (k yk : IntKind) (x : Int) (n : Nat) (h : op = .shl \/ op = .shr) :
    (Op.shift op k x yk n).run P w = if op = .shl then okI k w (k.wrap (x * 2 ^ min n k.bits)) else okI k w (x.fdiv (2 ^ min n k.bits)) := by
  have h0 : ¬ ((n : Int) < 0) := by omega
  rcases h with rfl | rfl <;> simp [Op.shift, h0, okI]
theorem eqIb (x y : Int) : (x == y) = eqI x y := by rw [eqI, Bool.eq_iff_iff]; simp
set_option maxHeartbeats 1000000 in
theorem zgB {P : Program} (t : TypeId) (x y : Operand) (w : World) {op : BinOp} {a b c : C} {va vb : Value} (h : binC op a b = some c) (ha : a.val = some va) (hb : b.val = some vb)
    (ht : ∀ p q, a = .bool p -> b = .bool q -> P.underlying t = some .bool) :
    ∃ v, c.val = some v /\ (do eqGuard op t x y va vb; binOp op t va vb : Sem Value).run P w = .ok v w := by
  unfold binC at h
  split at h
  case h_1 x y =>
    simp only [C.val, oi1] at ha hb
    subst ha; subst hb
    split at h
    case h_1 => injection h with h; subst h; exact ⟨_, rfl, congrArg (okI .u64 w) (zBF x y)⟩
    case h_2 => injection h with h; subst h; exact ⟨_, rfl, congrArg (okI .u64 w) (zBG x y)⟩
    case h_3 => injection h with h; subst h; exact ⟨_, rfl, congrArg (okI .u64 w) (zBH x y)⟩
    case h_4 => injection h with h; subst h; exact ⟨_, rfl, congrArg (okI .u64 w) (by rw [bv64, bv64, zpy]; rfl : IntKind.u64.wrap (BitVec.toNat (BitVec.ofInt 64 (x.toNat : Int) &&& BitVec.ofInt 64 (y.toNat : Int))) = (((x &&& y).toNat : Nat) : Int))⟩
    case h_5 => injection h with h; subst h; exact ⟨_, rfl, congrArg (okI .u64 w) (by rw [bv64, bv64, zpy]; rfl : IntKind.u64.wrap (BitVec.toNat (BitVec.ofInt 64 (x.toNat : Int) ||| BitVec.ofInt 64 (y.toNat : Int))) = (((x ||| y).toNat : Nat) : Int))⟩
    case h_6 => injection h with h; subst h; exact ⟨_, rfl, congrArg (okI .u64 w) (by rw [bv64, bv64, zpy]; rfl : IntKind.u64.wrap (BitVec.toNat (BitVec.ofInt 64 (x.toNat : Int) ^^^ BitVec.ofInt 64 (y.toNat : Int))) = (((x ^^^ y).toNat : Nat) : Int))⟩
    case h_7 => injection h with h; subst h; exact ⟨_, rfl, by rw [show (do eqGuard BinOp.shl t _ _ (.int .u64 x.toNat) (.int .u64 y.toNat); binOp .shl t (.int .u64 x.toNat) (.int .u64 y.toNat) : Sem Value) = Op.shift .shl .u64 x.toNat .u64 y.toNat from rfl, zbS _ _ _ _ _ (.inl rfl), if_pos rfl]; exact congrArg (okI .u64 w) (zth x y.toNat)⟩
    case h_8 => injection h with h; subst h; exact ⟨_, rfl, by rw [show (do eqGuard BinOp.shr t _ _ (.int .u64 x.toNat) (.int .u64 y.toNat); binOp .shr t (.int .u64 x.toNat) (.int .u64 y.toNat) : Sem Value) = Op.shift .shr .u64 x.toNat .u64 y.toNat from rfl, zbS _ _ _ _ _ (.inr rfl), if_neg (by decide)]; exact congrArg (okI .u64 w) (zti x y.toNat)⟩
    case h_9 => injection h with h; subst h; exact ⟨_, rfl, congrArg (okB w) (zwq x y)⟩
    case h_10 => injection h with h; subst h; exact ⟨_, rfl, congrArg (okB w) (congrArg Bool.not (zwq x y))⟩
    case h_11 => injection h with h; subst h; exact ⟨_, rfl, congrArg (okB w) (zff x.toNat y.toNat)⟩
    case h_12 => injection h with h; subst h; exact ⟨_, rfl, congrArg (okB w) (zfg x.toNat y.toNat)⟩
    case h_13 => injection h with h; subst h; exact ⟨_, rfl, congrArg (okB w) (zff y.toNat x.toNat)⟩
    case h_14 => injection h with h; subst h; exact ⟨_, rfl, congrArg (okB w) (zfg y.toNat x.toNat)⟩
    case h_15 => cases h
  case h_2 x y =>
    simp only [C.val, oi1] at ha hb
    subst ha; subst hb
    split at h
    case h_1 => injection h with h; subst h; exact ⟨_, rfl, congrArg (okI .u32 w) (zBI x y)⟩
    case h_2 => injection h with h; subst h; exact ⟨_, rfl, congrArg (okI .u32 w) (zBJ x y)⟩
    case h_3 => injection h with h; subst h; exact ⟨_, rfl, congrArg (okI .u32 w) (zBK x y)⟩
    case h_4 => injection h with h; subst h; exact ⟨_, rfl, congrArg (okI .u32 w) (by rw [bv32, bv32, zpz]; rfl : IntKind.u32.wrap (BitVec.toNat (BitVec.ofInt 32 (x.toNat : Int) &&& BitVec.ofInt 32 (y.toNat : Int))) = (((x &&& y).toNat : Nat) : Int))⟩
    case h_5 => injection h with h; subst h; exact ⟨_, rfl, congrArg (okI .u32 w) (by rw [bv32, bv32, zpz]; rfl : IntKind.u32.wrap (BitVec.toNat (BitVec.ofInt 32 (x.toNat : Int) ||| BitVec.ofInt 32 (y.toNat : Int))) = (((x ||| y).toNat : Nat) : Int))⟩
    case h_6 => injection h with h; subst h; exact ⟨_, rfl, congrArg (okI .u32 w) (by rw [bv32, bv32, zpz]; rfl : IntKind.u32.wrap (BitVec.toNat (BitVec.ofInt 32 (x.toNat : Int) ^^^ BitVec.ofInt 32 (y.toNat : Int))) = (((x ^^^ y).toNat : Nat) : Int))⟩
    case h_7 => injection h with h; subst h; exact ⟨_, rfl, congrArg (okB w) (zwr x y)⟩
    case h_8 => injection h with h; subst h; exact ⟨_, rfl, congrArg (okB w) (congrArg Bool.not (zwr x y))⟩
    case h_9 => injection h with h; subst h; exact ⟨_, rfl, congrArg (okB w) (zff x.toNat y.toNat)⟩
    case h_10 => injection h with h; subst h; exact ⟨_, rfl, congrArg (okB w) (zfg x.toNat y.toNat)⟩
    case h_11 => injection h with h; subst h; exact ⟨_, rfl, congrArg (okB w) (zff y.toNat x.toNat)⟩
    case h_12 => injection h with h; subst h; exact ⟨_, rfl, congrArg (okB w) (zfg y.toNat x.toNat)⟩
    case h_13 => cases h
  case h_3 x y =>
    simp only [C.val, oi1] at ha hb
    subst ha; subst hb
    split at h
    case h_1 => injection h with h; subst h; exact ⟨_, rfl, congrArg (okI .u8 w) (add8 x y)⟩
    case h_2 => injection h with h; subst h; exact ⟨_, rfl, congrArg (okI .u8 w) (sub8 x y)⟩
    case h_3 => injection h with h; subst h; exact ⟨_, rfl, congrArg (okI .u8 w) (mul8 x y)⟩
    case h_4 => injection h with h; subst h; exact ⟨_, rfl, congrArg (okI .u8 w) (by rw [bv8, bv8, zwl]; rfl : IntKind.u8.wrap (BitVec.toNat (BitVec.ofInt 8 (x.toNat : Int) &&& BitVec.ofInt 8 (y.toNat : Int))) = (((x &&& y).toNat : Nat) : Int))⟩
    case h_5 => injection h with h; subst h; exact ⟨_, rfl, congrArg (okI .u8 w) (by rw [bv8, bv8, zwl]; rfl : IntKind.u8.wrap (BitVec.toNat (BitVec.ofInt 8 (x.toNat : Int) ||| BitVec.ofInt 8 (y.toNat : Int))) = (((x ||| y).toNat : Nat) : Int))⟩
    case h_6 => injection h with h; subst h; exact ⟨_, rfl, congrArg (okI .u8 w) (by rw [bv8, bv8, zwl]; rfl : IntKind.u8.wrap (BitVec.toNat (BitVec.ofInt 8 (x.toNat : Int) ^^^ BitVec.ofInt 8 (y.toNat : Int))) = (((x ^^^ y).toNat : Nat) : Int))⟩
    case h_7 => injection h with h; subst h; exact ⟨_, rfl, congrArg (okB w) (beq8 x y)⟩
    case h_8 => injection h with h; subst h; exact ⟨_, rfl, congrArg (okB w) (congrArg Bool.not (beq8 x y))⟩
    case h_9 => injection h with h; subst h; exact ⟨_, rfl, congrArg (okB w) (zff x.toNat y.toNat)⟩
    case h_10 => injection h with h; subst h; exact ⟨_, rfl, congrArg (okB w) (zfg x.toNat y.toNat)⟩
    case h_11 => injection h with h; subst h; exact ⟨_, rfl, congrArg (okB w) (zff y.toNat x.toNat)⟩
    case h_12 => injection h with h; subst h; exact ⟨_, rfl, congrArg (okB w) (zfg y.toNat x.toNat)⟩
    case h_13 => cases h
  case h_4 x y =>
    simp only [C.val, oi1] at ha hb
    subst ha; subst hb
    split at h
    case h_1 => injection h with h; subst h; exact ⟨_, rfl, rfl⟩
    case h_2 => injection h with h; subst h; exact ⟨_, rfl, rfl⟩
    case h_3 => injection h with h; subst h; exact ⟨_, rfl, rfl⟩
    case h_4 => injection h with h; subst h; exact ⟨_, rfl, rfl⟩
    case h_5 => injection h with h; subst h; exact ⟨_, rfl, rfl⟩
    case h_6 => injection h with h; subst h; exact ⟨_, rfl, rfl⟩
    case h_7 => injection h with h; subst h; exact ⟨_, rfl, congrArg (okB w) (eqIb x y)⟩
    case h_8 => injection h with h; subst h; exact ⟨_, rfl, congrArg (okB w) (congrArg Bool.not (eqIb x y))⟩
    case h_9 => injection h with h; subst h; exact ⟨_, rfl, rfl⟩
    case h_10 => injection h with h; subst h; exact ⟨_, rfl, rfl⟩
    case h_11 => injection h with h; subst h; exact ⟨_, rfl, rfl⟩
    case h_12 => injection h with h; subst h; exact ⟨_, rfl, rfl⟩
    case h_13 => cases h
  case h_5 x y =>
    have ht := ht x y rfl rfl
    simp only [C.val, oi1] at ha hb
    subst ha; subst hb
    split at h
    case h_1 =>
      injection h with h; subst h; refine ⟨_, rfl, ?_⟩
      rw [show (do eqGuard BinOp.eql t _ _ (.bool x) (.bool y); binOp .eql t (.bool x) (.bool y) : Sem Value) = (do pure (.bool (← Op.equal t (.bool x) (.bool y)))) from rfl]
      rw [Op.equal, Op.maxDepth, Sem.run_bind, run_equalIn_bool' w 9999 t x y ht]; rfl
    case h_2 =>
      injection h with h; subst h; refine ⟨_, rfl, ?_⟩
      rw [show (do eqGuard BinOp.neq t _ _ (.bool x) (.bool y); binOp .neq t (.bool x) (.bool y) : Sem Value) = (do pure (.bool (!(← Op.equal t (.bool x) (.bool y))))) from rfl]
      rw [Op.equal, Op.maxDepth, Sem.run_bind, run_equalIn_bool' w 9999 t x y ht]; rfl
    case h_3 => cases h
  case h_6 x y =>
    simp only [C.val, oi1] at ha hb
    subst ha; subst hb
    split at h
    case h_1 => injection h with h; subst h; exact ⟨_, rfl, congrArg (okB w) (zgA x y)⟩
    case h_2 => injection h with h; subst h; exact ⟨_, rfl, congrArg (okB w) (congrArg Bool.not (zgA x y))⟩
    case h_3 => cases h
  case h_7 x y =>
    simp only [C.val, oi1] at ha hb
    subst ha; subst hb
    split at h
    case h_1 =>
      injection h with h; subst h; refine ⟨_, rfl, ?_⟩
      rw [show (do eqGuard BinOp.shl t _ _ (.int .u32 x.toNat) (.int .u64 y.toNat); binOp .shl t (.int .u32 x.toNat) (.int .u64 y.toNat) : Sem Value) = Op.shift .shl .u32 x.toNat .u64 y.toNat from rfl, zbS _ _ _ _ _ (.inl rfl), if_pos rfl]; exact congrArg (okI .u32 w) (ztj x y.toNat)
    case h_2 =>
      injection h with h; subst h; refine ⟨_, rfl, ?_⟩
      rw [show (do eqGuard BinOp.shr t _ _ (.int .u32 x.toNat) (.int .u64 y.toNat); binOp .shr t (.int .u32 x.toNat) (.int .u64 y.toNat) : Sem Value) = Op.shift .shr .u32 x.toNat .u64 y.toNat from rfl, zbS _ _ _ _ _ (.inr rfl), if_neg (by decide)]; exact congrArg (okI .u32 w) (ztk x y.toNat)
    case h_3 => cases h
  case h_8 x y =>
    simp only [C.val, oi1] at ha hb
    subst ha; subst hb
    split at h
    case h_1 =>
      injection h with h; subst h; refine ⟨_, rfl, ?_⟩
      rw [show (do eqGuard BinOp.shl t _ _ (.int .u8 x.toNat) (.int .u64 y.toNat); binOp .shl t (.int .u8 x.toNat) (.int .u64 y.toNat) : Sem Value) = Op.shift .shl .u8 x.toNat .u64 y.toNat from rfl, zbS _ _ _ _ _ (.inl rfl), if_pos rfl]; exact congrArg (okI .u8 w) (zwm x y.toNat)
    case h_2 =>
      injection h with h; subst h; refine ⟨_, rfl, ?_⟩
      rw [show (do eqGuard BinOp.shr t _ _ (.int .u8 x.toNat) (.int .u64 y.toNat); binOp .shr t (.int .u8 x.toNat) (.int .u64 y.toNat) : Sem Value) = Op.shift .shr .u8 x.toNat .u64 y.toNat from rfl, zbS _ _ _ _ _ (.inr rfl), if_neg (by decide)]; exact congrArg (okI .u8 w) (zwn x y.toNat)
    case h_3 => cases h
  case h_9 x y =>
    simp only [C.val, oi1] at ha hb
    subst ha; subst hb
    split at h
    case h_1 =>
      injection h with h; subst h; refine ⟨_, rfl, ?_⟩
      rw [show (do eqGuard BinOp.shl t _ _ (.int .i64 x) (.int .u64 y.toNat); binOp .shl t (.int .i64 x) (.int .u64 y.toNat) : Sem Value) = Op.shift .shl .i64 x .u64 y.toNat from rfl, zbS _ _ _ _ _ (.inl rfl), if_pos rfl]; exact congrArg (okI .i64 w) (zwo x y.toNat)
    case h_2 =>
      injection h with h; subst h; refine ⟨_, rfl, ?_⟩
      rw [show (do eqGuard BinOp.shr t _ _ (.int .i64 x) (.int .u64 y.toNat); binOp .shr t (.int .i64 x) (.int .u64 y.toNat) : Sem Value) = Op.shift .shr .i64 x .u64 y.toNat from rfl, zbS _ _ _ _ _ (.inr rfl), if_neg (by decide)]; exact congrArg (okI .i64 w) (zwp x y.toNat)
    case h_3 => cases h
  case h_10 => cases h
end
section
variable {X : Ctx} {ρ : Nat -> RI} {s : St} {a : Act} {w : World}
theorem zck (h : Sim X ρ s a w) (t : TypeId) (x : Operand) : RV X ρ (X.pd.ev t s x) (a.eval x) := by
  cases x with
  | tmp i => exact h.eval i
  | const v => exact ztg t v
  | global g => trivial
  | func f => trivial
def Does (X : Ctx) (o : Oper) (s : St) (f : Eff) : Prop :=
  ∀ ρ a w Q, Sim X ρ s a w -> anyN s.men f.new = false -> o.wp X.P a w (fun a' w' => ∃ ρ', Sim X ρ' (f.app s) a' w') Q
theorem zaW {o : Oper} {v : V} {x : Value} {rd : List Nat} {Q : Exit -> Act -> World -> Prop} (h : Sim X ρ s a w) (hr : (execOp a.eval o).run X.P w = .ok (.value x) w) (hv : RV X ρ v x) :
    o.wp X.P a w (fun a' w' => ∃ ρ', Sim X ρ' ((⟨o.dst, v, [], [], [], rd⟩ : Eff).app s) a' w') Q := by
  unfold Oper.wp
  rw [hr]
  refine ⟨ρ, ?_⟩
  cases hd : o.dst with
  | none => simpa [Eff.app, St.dels, St.puts, Act.put] using h
  | some d => simpa [Eff.app, St.dels, St.puts] using h.set d hv
theorem zak {o : Oper} {v : V} {rd : List Nat} {f : Eff} (h : val o v rd some = some f) : f = ⟨o.dst, v, [], [], [], rd⟩ := by
  simpa [val] using h.symm
theorem zcS {v : V} {c : C} (h : v.c? = some c) : v = .u (.c c) := by
  unfold V.c? at h
  split at h
  . cases h; rfl
  . cases h
theorem zhW {v : V} {b : Bool} (h : v.bool? = some b) : v = .u (.c (.bool b)) := by
  unfold V.bool? at h
  split at h
  . cases h; rfl
  . cases h
theorem ev_c (h : Sim X ρ s a w) {t : TypeId} {x : Operand} {c : C} (hc : (X.pd.ev t s x).c? = some c) : RC X ρ c (a.eval x) := by
  have := zck h t x
  rwa [zcS hc] at this
theorem zpA (h : Sim X ρ s a w) {t : TypeId} {x : Operand} {b : Bool} (hc : (X.pd.ev t s x).bool? = some b) : a.eval x = .bool b := by
  have := zck h t x
  rw [zhW hc] at this
  exact zap (X := X) (ρ := ρ) (c := .bool b) rfl this
theorem zof {c : C} {n : Int} {v : Value} (h : c.isInt = some n) (hr : RC X ρ c v) : ∃ k, v = .int k n := by
  cases c <;> simp [C.isInt] at h <;> subst h
  case u64 x => exact ⟨_, zap (X := X) (ρ := ρ) rfl hr⟩
  case u32 x => exact ⟨_, zap (X := X) (ρ := ρ) rfl hr⟩
  case u8 x => exact ⟨_, zap (X := X) (ρ := ρ) rfl hr⟩
  case int x => exact ⟨_, zap (X := X) (ρ := ρ) rfl hr⟩
theorem znh (h : Sim X ρ s a w) {t : TypeId} {x : Operand} {n : Int} (hc : (X.pd.ev t s x).int? = some n) : ∃ k, a.eval x = .int k n := by
  have := zck h t x
  unfold V.int? at hc
  split at hc
  . rename_i c he
    rw [he] at this
    exact zof hc this
  . cases hc
theorem zj7 {o : Oper} (x : Operand) (ho : o.op = .move x \/ o.op = .assign x) {rd : List Nat} : Does X o s ⟨o.dst, X.pd.ev o.type s x, [], [], [], rd⟩ := by
  intro ρ a w Q h _
  refine zaW h ?_ (zck h o.type x)
  rcases ho with ho | ho <;> simp [execOp, ho]
theorem zj8 {o : Oper} (c x y : Operand) (ho : o.op = .pick c x y) {t : Bool} (hc : (X.pd.ev 4 s c).bool? = some t) {rd : List Nat} :
    Does X o s ⟨o.dst, X.pd.ev o.type s (if t then x else y), [], [], [], rd⟩ := by
  intro ρ a w Q h _
  refine zaW h ?_ (zck h o.type _)
  have := zpA h hc
  cases t <;> simp [execOp, ho, this, asBool]
theorem zws {l : List U} {vs : List Value} (h : RUs X ρ l vs) (j : Nat) (c : U) (hc : l[j]? = some c) : ∃ v, vs[j]? = some v /\ RU X ρ c v := by
  induction l generalizing vs j with
  | nil => simp at hc
  | cons d l ih => cases vs with
    | nil => exact h.elim
    | cons v vs =>
      cases j with
      | zero => simp at hc; subst hc; exact ⟨v, by simp, h.1⟩
      | succ j => simpa using ih h.2 j (by simpa using hc)
theorem zj9 {o : Oper} (x : Operand) (i : Nat) (ho : o.op = .extract x i) {l : List U} {u : U} (hx : X.pd.ev 0 s x = .tup l) (hu : l[i]? = some u) {rd : List Nat} :
    Does X o s ⟨o.dst, .u u, [], [], [], rd⟩ := by
  intro ρ a w Q h _
  have hv := zck h 0 x
  rw [hx] at hv
  obtain ⟨vs, h1, h2⟩ := hv
  have : ∃ v, vs[i]? = some v /\ RU X ρ u v := by
    rw [← Array.getElem?_toList]
    exact zws h2 i u hu
  obtain ⟨v, hv1, hv2⟩ := this
  refine zaW h ?_ hv2
  simp [execOp, ho, h1, Instr.extract, hv1]
theorem zka {op : BinOp} {x y c : C} (h : binC op x y = some c) : (∃ v, x.val = some v) /\ ∃ v, y.val = some v := by
  unfold binC at h
  split at h <;> first | cases h | exact ⟨⟨_, rfl⟩, ⟨_, rfl⟩⟩
theorem zja {o : Oper} (op : BinOp) (t t' : TypeId) (x y : Operand) (ho : o.op = .binOp op t x y t') {p q c : C} (hx : X.pd.ev t s x = .u (.c p)) (hy : X.pd.ev t' s y = .u (.c q))
    (hc : binC op p q = some c) (ht : ∀ a b, p = .bool a -> q = .bool b -> X.P.underlying t = some .bool) {rd : List Nat} : Does X o s ⟨o.dst, .u (.c c), [], [], [], rd⟩ := by
  intro ρ a w Q h _
  have h1 := zck h t x
  have h2 := zck h t' y
  rw [hx] at h1
  rw [hy] at h2
  obtain ⟨⟨vp, hp⟩, ⟨vq, hq⟩⟩ := zka hc
  have e1 := zap hp h1
  have e2 := zap hq h2
  obtain ⟨v, hv, hr⟩ := zgB (P := X.P) t x y w hc hp hq ht
  refine zaW h ?_ (show RV X ρ (.u (.c c)) v from za0 hv)
  simp only [execOp, ho, e1, e2, Sem.run_bind] at hr ⊢
  rw [hr]
  rfl
theorem zbc {o : Oper} (op : BinOp) (t t' : TypeId) (x y : Operand) (ho : o.op = .binOp op t x y t') {p q c : C} {vp vq vc : Value} (hx : X.pd.ev t s x = .u (.c p)) (hy : X.pd.ev t' s y = .u (.c q))
    (hp : p.val = some vp) (hq : q.val = some vq) (hc : c.val = some vc) (hr : ∀ w, (do eqGuard op t x y vp vq; binOp op t vp vq : Sem Value).run X.P w = .ok vc w) {rd : List Nat} : Does X o s ⟨o.dst, .u (.c c), [], [], [], rd⟩ := by
  intro ρ a w Q h _
  have h1 := zck h t x
  have h2 := zck h t' y
  rw [hx] at h1
  rw [hy] at h2
  have e1 := zap hp h1
  have e2 := zap hq h2
  refine zaW h ?_ (show RV X ρ (.u (.c c)) vc from za0 hc)
  have hr := hr w
  simp only [execOp, ho, e1, e2, Sem.run_bind] at hr ⊢
  rw [hr]
  rfl
theorem zlG {P : Program} {w : World} (k : IntKind) (x y : Int) (h : y ≠ 0) : (Op.intDiv .quo k x y).run P w = .ok (.int k (k.wrap (x.tdiv y))) w := by simp [Op.intDiv, h]
theorem zlH {P : Program} {w : World} (k : IntKind) (x y : Int) (h : y ≠ 0) : (Op.intDiv .rem k x y).run P w = .ok (.int k (x.tmod y)) w := by simp [Op.intDiv, h]
theorem zBL (x y : UInt64) : IntKind.u64.wrap ((x.toNat : Int).tdiv y.toNat) = ((x / y).toNat : Int) := by
  have h1 := x.toNat_lt
  have h2 : x.toNat / y.toNat <= x.toNat := Nat.div_le_self _ _
  have h3 : (x.toNat : Int) / y.toNat = ((x.toNat / y.toNat : Nat) : Int) := rfl
  rw [zcf, Int.tdiv_eq_ediv_of_nonneg (by omega), UInt64.toNat_div, h3]; clear h3; generalize x.toNat / y.toNat = q at h2 ⊢; omega
theorem zBM (x y : UInt64) : ((x.toNat : Int).tmod y.toNat) = ((x % y).toNat : Int) := by
  rw [Int.tmod_eq_emod_of_nonneg (by omega), UInt64.toNat_mod]; omega
theorem quo8 (x y : UInt8) : IntKind.u8.wrap ((x.toNat : Int).tdiv y.toNat) = ((x / y).toNat : Int) := by
  have h1 := x.toNat_lt
  have h2 : x.toNat / y.toNat <= x.toNat := Nat.div_le_self _ _
  have h3 : (x.toNat : Int) / y.toNat = ((x.toNat / y.toNat : Nat) : Int) := rfl
  rw [zcg, Int.tdiv_eq_ediv_of_nonneg (by omega), UInt8.toNat_div, h3]; clear h3; generalize x.toNat / y.toNat = q at h2 ⊢; omega
theorem rem8 (x y : UInt8) : ((x.toNat : Int).tmod y.toNat) = ((x % y).toNat : Int) := by
  rw [Int.tmod_eq_emod_of_nonneg (by omega), UInt8.toNat_mod]; omega
theorem ne64 {y : UInt64} (h : (!(y == 0)) = true) : (y.toNat : Int) ≠ 0 := by
  intro e
  have : y = 0 := UInt64.toNat_inj.1 (by simpa using e)
  simp [this] at h
theorem ne8 {y : UInt8} (h : (!(y == 0)) = true) : (y.toNat : Int) ≠ 0 := by
  intro e
  have : y = 0 := UInt8.toNat_inj.1 (by simpa using e)
  simp [this] at h
theorem neI {y : Int} (h : (!eqI y 0) = true) : y ≠ 0 := by
  intro e
  simp [e, eqI] at h
theorem zgC {o : Oper} (op : UnOp) (t : TypeId) (x : Operand) (ho : o.op = .unOp op t x) {p c : C} {vp vc : Value} (hx : (X.pd.ev t s x).c? = some p) (hp : p.val = some vp) (hc : c.val = some vc)
    (hr : ∀ w, (Op.unary op vp).run X.P w = .ok vc w) {rd : List Nat} : Does X o s ⟨o.dst, .u (.c c), [], [], [], rd⟩ := by
  intro ρ a w Q h _
  have e1 := zap hp (ev_c h hx)
  refine zaW h ?_ (show RV X ρ (.u (.c c)) vc from za0 hc)
  simp only [execOp, ho, e1, Sem.run_bind, hr w]
  rfl
theorem zwt {k : IntKind} {c d : C} (h : zta k c = some d) : ∃ j n, c.val = some (.int j n) /\ d.val = some (.int k (k.wrap n)) := by
  have a64 : ∀ x : UInt64, IntKind.u64.wrap (x.toNat : Int) = x.toNat := fun x => by rw [zcf]; have := x.toNat_lt; omega
  have a32 : ∀ x : UInt32, IntKind.u32.wrap (x.toNat : Int) = x.toNat := fun x => by rw [zbR]; have := x.toNat_lt; omega
  have a8 : ∀ x : UInt8, IntKind.u8.wrap (x.toNat : Int) = x.toNat := fun x => by rw [zcg]; have := x.toNat_lt; omega
  unfold zta at h
  split at h <;> first | (injection h with h; subst h; refine ⟨_, _, rfl, ?_⟩) | cases h
  . exact congrArg (fun n => some (Value.int .u64 n)) (a64 _).symm
  . rename_i x
    refine congrArg (fun n => some (Value.int .u64 n)) ?_
    have := x.toNat_lt
    rw [zcf, UInt64.toNat_ofNat']; omega
  . rename_i x
    refine congrArg (fun n => some (Value.int .u64 n)) ?_
    have := x.toNat_lt
    rw [zcf, UInt64.toNat_ofNat']; omega
  . rename_i n
    refine congrArg (fun n => some (Value.int .u64 n)) ?_
    rw [zcf, u64I, UInt64.toNat_ofNat']; omega
  . rename_i x
    refine congrArg (fun n => some (Value.int .u32 n)) ?_
    rw [zbR, UInt32.toNat_ofNat']; omega
  . exact congrArg (fun n => some (Value.int .u32 n)) (a32 _).symm
  . rename_i x
    refine congrArg (fun n => some (Value.int .u32 n)) ?_
    have := x.toNat_lt
    rw [zbR, UInt32.toNat_ofNat']; omega
  . rename_i n
    refine congrArg (fun n => some (Value.int .u32 n)) ?_
    rw [zbR, u32I, UInt32.toNat_ofNat']; omega
  . rename_i x
    refine congrArg (fun n => some (Value.int .u8 n)) ?_
    rw [zcg, UInt8.toNat_ofNat']; omega
  . rename_i x
    refine congrArg (fun n => some (Value.int .u8 n)) ?_
    rw [zcg, UInt8.toNat_ofNat']; omega
  . exact congrArg (fun n => some (Value.int .u8 n)) (a8 _).symm
  . rename_i n
    refine congrArg (fun n => some (Value.int .u8 n)) ?_
    rw [zcg, u8I, UInt8.toNat_ofNat']; omega
  . rfl
  . rename_i x
    refine congrArg (fun n => some (Value.int .i64 n)) ?_
    have := x.toNat_lt
    rw [IntKind.wrap_i64]; omega
  . rename_i x
    refine congrArg (fun n => some (Value.int .i64 n)) ?_
    have := x.toNat_lt
    rw [IntKind.wrap_i64]; omega
  . rfl
end
section
variable {X : Ctx} {ρ : Nat -> RI} {s : St} {a : Act} {w : World}
theorem Holds.one {w : World} {ok : Nat -> Prop} {c : C} {v : Value} (h : Holds w ok c v) : v.oneCell' = true := by
  cases h with
  | sc h => cases c <;> simp [C.val] at h <;> subst h <;> rfl
  | ro => rfl
  | emp => rfl
  | rt => rfl
  | rtemp => rfl
theorem zvp {c : C} {v : Value} (h : RC X ρ c v) (hs : c.solid = true) : v.oneCell' = true := by
  cases c
  case dead => cases hs
  case row id => obtain ⟨_, a, n, c, rfl⟩ := h; rfl
  case sl id i n => obtain ⟨_, cap, _, _, _, rfl | ⟨_, a, rfl⟩⟩ := h <;> rfl
  case ptr id i sub => obtain ⟨_, _, rfl⟩ := h; rfl
  case rop e l i sub => obtain ⟨_, _, b, off, rfl, _⟩ := h; rfl
  case rtp l i sub => obtain ⟨_, _, b, off, rfl, _⟩ := h; rfl
  case asl id off e n => obtain ⟨_, _, _, rfl⟩ := h; rfl
  case slc id i n c => obtain ⟨_, _, _, rfl⟩ := h; rfl
  case len n => obtain ⟨_, _, rfl⟩ := h; rfl
  all_goals exact Holds.one h
theorem zfh {l : List C} {vs : List Value} (h : RCs X ρ l vs) (hs : zbB l = true) : ∀ v ∈ vs, v.oneCell' = true := by
  induction l generalizing vs with
  | nil => cases vs with
    | nil => simp
    | cons v vs => exact h.elim
  | cons c l ih => cases vs with
    | nil => simp
    | cons v vs =>
      have h1 := cond_true_of hs
      intro u hu
      rcases List.mem_cons.1 hu with rfl | hu
      . exact zvp h.1 h1.1
      . exact ih h.2 h1.2 u hu
where
  cond_true_of {c : C} {l : List C} (h : zbB (c :: l) = true) : c.solid = true /\ zbB l = true := by
    unfold zbB at h
    cases hc : c.solid with
    | true => rw [hc] at h; exact ⟨rfl, h⟩
    | false => rw [hc] at h; cases h
theorem zdO (e : El) (l : List e.T) : zbB (flat e l) = true := by
  have happ : ∀ a b, zbB (a ++ b) = (zbB a && zbB b) := fun a b => by
    induction a with
    | nil => simp [zbB]
    | cons x a ih => simp only [List.cons_append, zbB, ih]; cases x.solid <;> simp
  induction l with
  | nil => rfl
  | cons x l ih =>
    rw [flat, happ, ih]
    cases e <;> simp [El.toC, Fr.c, zbB, C.solid]
theorem zjb {u : U} {v : Value} (h : RU X ρ u v) (hs : u.solid = true) : RCs X ρ u.cells v.cells.toList /\ ∀ x ∈ v.cells.toList, x.oneCell' = true := by
  cases u with
  | c x =>
    have h1 := zvp h hs
    have : v.cells = #[v] := by
      cases v <;> first | rfl | (simp [Value.oneCell'] at h1; done)
    rw [this]
    exact ⟨⟨h, trivial⟩, by simp [h1]⟩
  | agg l =>
    obtain ⟨vs, rfl, h2⟩ := h
    exact ⟨h2, zfh h2 hs⟩
  | vec e l =>
    obtain ⟨vs, rfl, h2⟩ := h
    exact ⟨h2, zfh h2 (zdO e l)⟩
  | box l => exact h.elim
theorem TI.agg_run {P : Program} {t : TypeId} {ti : TI} (h : TIok P t ti) (w : World) : (isAgg t).run P w = .ok ti.k.agg w := by
  have hk := h.kind
  unfold isAgg
  cases hkk : ti.k <;> rw [hkk] at hk <;> simp only [zhU] at hk
  case arr n e => rw [Sem.run_bind, run_underlying hk.1 w]; rfl
  case struct fs => obtain ⟨⟨fields, h1, _⟩, _⟩ := hk; rw [Sem.run_bind, run_underlying h1 w]; rfl
  all_goals rw [Sem.run_bind, run_underlying hk w]; rfl
theorem TI.size_run {P : Program} {t : TypeId} {ti : TI} (h : TIok P t ti) (w : World) : (sizeOf t).run P w = .ok ti.size w := by
  obtain ⟨i, z, h1, h2, _⟩ := h.info
  simp [sizeOf, typeInfo, h1, h2]
theorem TI.one {P : Program} {t : TypeId} {ti : TI} (h : TIok P t ti) (ha : ti.k.agg = false) : ti.size = 1 := by
  obtain ⟨i, z, h1, h2, _, _, h3, _, h4⟩ := h.info
  have h5 := h4 ha
  have : z.cells.toList.length = ti.zero.length := (zat (X := ⟨P, ⟨[], []⟩, default, fun _ => False, fun _ => (0, 0, 0, 0), fun _ => True⟩) (ρ := fun _ => ⟨0, undef, 0, 0⟩) (zcK h3)).symm
  rw [h5] at this
  rw [← h.size, ← this]
  rfl
theorem zaT (b off n : Nat) : (⟨b, off, none⟩ : Addr).add n = ⟨b, off + n, none⟩ := by
  unfold Addr.add; split <;> simp_all
theorem zeB {P : Program} {t : TypeId} {ti : TI} (h : TIok P t ti) (w : World) (b off : Nat) (cs : List Value) (hl : cs.length = ti.size) (hc : ∀ j v, cs[j]? = some v -> w.cell? ⟨b, off + j, none⟩ = some v) :
    (loadVar t ⟨b, off, none⟩).run P w = .ok (zcj ti.k.agg cs) w := by
  unfold loadVar
  rw [Sem.run_bind, TI.agg_run h w]
  cases ha : ti.k.agg with
  | true =>
    have h1 := run_loadCells_list (P := P) w ⟨b, off, none⟩ cs (fun j v hv => by rw [zaT]; exact hc j v hv)
    rw [hl] at h1
    simp [Sem.run_bind, TI.size_run h w, h1, zcj]
  | false =>
    have h1 := TI.one h ha
    rw [h1] at hl
    match cs, hl with
    | [v], _ =>
      have := hc 0 v rfl
      simp at this
      simp [load, zcj, Sem.run, this]
theorem zpB {P : Program} {t : TypeId} {ti : TI} (h : TIok P t ti) (w : World) (b off : Nat) (v : Value) (cur : Array Value) (ty : TypeId) (hb : w.heap[b]? = some (.cells cur ty (0, 0)))
    (hl : v.cells.toList.length = ti.size) (hf : off + ti.size <= cur.size) (h1 : ∀ x ∈ v.cells.toList, x.oneCell' = true) :
    (storeVar t ⟨b, off, none⟩ v).run P w = .ok () (w.setRow b (zan cur.toList off v.cells.toList).toArray) := by
  unfold storeVar
  rw [Sem.run_bind, TI.size_run h w]
  have hs : ¬ (v.cells.size ≠ ti.size) := by simpa using hl
  have := run_storeCells_at P b off ty v.cells.toList 0 cur w hb (by simpa [hl] using hf) h1
  simp only [Nat.add_zero] at this
  simp only [Result.andThen_ok, hs, if_false]
  rw [this]
  simp [zan]
theorem RO.cell {x : Ob} {id : Nat} (h : RO X ρ w id x) {o n : Nat} (hn : o + n <= x.o.cells.length) (hp : 0 < n) :
    ∃ cs : List Value, RCs X ρ ((x.o.cells.drop o).take n) cs /\ cs.length = n /\ ∀ j v, cs[j]? = some v -> w.cell? ⟨(ρ id).blk, o + j, none⟩ = some v := by
  rcases h.mem with ⟨_, _, h3⟩ | ⟨vs, ty, cap, h1, h2, h3, _⟩
  . rw [h3] at hn; simp at hn; omega
  . refine ⟨((vs.toList.take x.o.cells.length).drop o).take n, zbe (zbn h2 o) n, by simp; omega, fun j v hv => ?_⟩
    rw [cell_of_row w _ _ vs ty (0, 0) h1]
    rw [List.getElem?_take] at hv
    split at hv
    . rw [List.getElem?_drop, List.getElem?_take] at hv
      split at hv
      . simpa using hv
      . cases hv
    . cases hv
theorem zfK {pd : PD} (hp : PDok X.P pd) {t : TypeId} {e : El} {n : Nat} {ti : TI} (h : pd.arrLike t = some (n, e)) (hti : pd.ti t = some ti) : ti.size = n * e.size /\ ti.k.agg = true := by
  unfold PD.arrLike at h
  have hwf := hp.wf t ti hti
  split at h
  . rename_i m et sz by' z h1
    rw [hti] at h1
    cases h1
    split at h
    . rename_i el hel
      cases h
      obtain ⟨ei, h2, h3, _⟩ := hp.el _ _ hel
      refine ⟨?_, rfl⟩
      simp only [wfTI, h2] at hwf
      rw [Nat.beq_true hwf, h3]
    . cases h
  . rename_i ut sz by' z h1
    rw [hti] at h1
    cases h1
    split at h
    . rename_i m et sz2 by2 z2 h4
      split at h
      . rename_i el hel
        cases h
        obtain ⟨ei, h2, h3, _⟩ := hp.el _ _ hel
        have hwf2 := hp.wf _ _ h4
        simp only [wfTI, h2] at hwf2
        simp only [wfTI, h4, Bool.and_eq_true] at hwf
        refine ⟨?_, rfl⟩
        have e1 := Nat.beq_true hwf.2
        have e2 := Nat.beq_true hwf2
        simp only at e1 e2 ⊢
        rw [e1, e2, h3]
      . cases h
    . cases h
  . cases h
theorem zhX {pd : PD} (hp : PDok X.P pd) {t : TypeId} {e : El} {n : Nat} {ti : TI} (h : pd.arrOf t e = some n) (hti : pd.ti t = some ti) : ti.size = n * e.size /\ ti.k.agg = true := by
  unfold PD.arrOf at h
  split at h
  . rename_i m f hm
    obtain ⟨h1, h2⟩ := zaa h
    cases h2
    have := zfd h1
    subst this
    exact zfK hp hm hti
  . cases h
theorem zd3 {α : Type} (l : List α) (o z sub n : Nat) (h : sub + n <= z) : (l.drop (o + sub)).take n = (((l.drop o).take z).drop sub).take n := by
  rw [List.drop_take, List.drop_drop, List.take_take, Nat.min_eq_left (by omega)]
theorem zni (e : El) (l : List e.T) : ∀ (n i : Nat), i + n <= l.length -> zn6 e l i n = (l.drop i).take n
  | 0, i, _ => by simp [zn6]
  | n + 1, i, h => by
    rw [zn6, zni e l n (i + 1) (by omega), List.drop_eq_getElem_cons (by omega : i < l.length), List.take_succ_cons]
    simp [List.getD, List.getElem?_eq_getElem (by omega : i < l.length)]
theorem zyD (e : El) (l : List e.T) (i n : Nat) (h : i + n <= l.length) : few e l i n = (l.drop i).take n := by
  cases e <;> first
    | rfl
    | (show cond (Nat.ble n 4) (zn6 .int l i n) ((l.drop i).take n) = _; cases Nat.ble n 4 with | true => exact zni .int l n i h | false => rfl)
theorem zhY {t : TypeId} {ti : TI} {whole : Nat} {e : El} {l : List e.T} {i sub : Nat} {u : U} (hp : PDok X.P X.pd) (hti : X.pd.ti t = some ti) (h : zdB X.pd t whole e l i sub = some (true, u))
    (hw : whole = 0 \/ l.length = whole) (hi : i < l.length) :
    i * e.size + sub + ti.size <= (flat e l).length /\ ∀ cs, RCs X ρ (((flat e l).drop (i * e.size + sub)).take ti.size) cs -> RU X ρ u (zcj ti.k.agg cs) := by
  unfold zdB at h
  simp only [hti] at h
  split at h
  . rename_i n hn
    obtain ⟨h0, h1⟩ := zaa hn
    have hs0 := Nat.beq_true h0
    subst hs0
    obtain ⟨hsz, hagg⟩ := zhX hp h1 hti
    cases hb : (Nat.beq n whole && (Nat.beq i 0 && Nat.blt 0 n)) with
    | true =>
      rw [hb] at h
      simp only [cond_true, oi1, pi1, true_and] at h
      subst h
      simp only [Bool.and_eq_true] at hb
      have e1 := Nat.beq_true hb.1
      have e2 := Nat.beq_true hb.2.1
      have e3 : 0 < n := by simpa [Nat.blt_eq] using hb.2.2
      subst e2
      have hl : l.length = n := by rcases hw with h | h <;> omega
      refine ⟨by rw [zab, hsz, hl]; omega, fun cs hcs => ?_⟩
      rw [hsz, ← hl, ← zab, Nat.zero_mul, Nat.add_zero, List.drop_zero, List.take_length] at hcs
      simp only [zcj, hagg, if_true]
      exact ⟨_, rfl, hcs⟩
    | false =>
      rw [hb] at h
      simp only [cond_false, oi1, pi1] at h
      obtain ⟨hg, rfl⟩ := h
      have hlen : i + n <= l.length := by simpa [leN] using hg
      refine ⟨by rw [zab, hsz, Nat.add_zero, ← Nat.add_mul]; exact Nat.mul_le_mul_right _ hlen, fun cs hcs => ?_⟩
      rw [zyD e l i n hlen]
      simp only [zcj, hagg, if_true]
      refine ⟨_, rfl, ?_⟩
      rw [zbw, zcE]
      rwa [hsz, Nat.add_zero] at hcs
  . rename_i hn
    obtain ⟨h0, h1⟩ := zaa h
    split at h1
    . rename_i v hv
      simp only [oi1, pi1, true_and] at h1
      subst h1
      have hle : sub + ti.size <= e.size := by simpa [Nat.ble_eq] using h0
      refine ⟨?_, fun cs hcs => ?_⟩
      . rw [zab]
        have : (i + 1) * e.size <= l.length * e.size := Nat.mul_le_mul_right _ hi
        rw [Nat.add_mul, Nat.one_mul] at this
        omega
      . rw [zd3 _ _ e.size _ _ hle, zgw e l i hi] at hcs
        exact zfJ hv hcs hti
    . cases h1
end
section
variable {X : Ctx} {ρ : Nat -> RI} {s : St} {a : Act} {w : World}
theorem beq3 {x y z : Bool} (h : (x && (y && z)) = true) : x = true /\ y = true /\ z = true := by
  simpa [Bool.and_eq_true] using h
theorem zkb {t : TypeId} {ti : TI} {x : Ob} {id i sub : Nat} {u : U} (hp : PDok X.P X.pd) (hti : X.pd.ti t = some ti) (h : zgq X.pd t x i sub = some (true, u)) (hro : RO X ρ w id x)
    (hi : i < (ρ id).len) (hsub : sub < (ρ id).sz) :
    i * (ρ id).sz + sub + ti.size <= x.o.cells.length /\ ∀ cs, RCs X ρ ((x.o.cells.drop (i * (ρ id).sz + sub)).take ti.size) cs -> RU X ρ u (zcj ti.k.agg cs) := by
  rw [hro.sz]
  rw [hro.sz] at hsub
  rw [hro.len] at hi
  unfold zgq at h
  have hn := hro.nl
  cases ho : x.o with
  | lit l =>
    rw [ho] at h hi hsub
    simp only [hti] at h
    obtain ⟨h0, h1⟩ := zaa h
    simp only [Bool.and_eq_true] at h0
    have e1 := Nat.beq_true h0.1
    have e2 : sub + ti.size <= l.length := by simpa [Nat.ble_eq] using h0.2
    subst e1
    split at h1
    . rename_i v hv
      simp only [oi1, pi1, true_and] at h1
      subst h1
      refine ⟨by simpa [O.cells] using e2, fun cs hcs => ?_⟩
      simp only [O.cells, O.sz, Nat.zero_mul, Nat.zero_add] at hcs
      exact zfJ hv hcs hti
    . cases h1
  | vec e l =>
    rw [ho] at h hi hsub
    refine zhY hp hti h ?_ hi
    cases hr : x.row with
    | false =>
      by_cases h0 : x.n = 0
      . exact .inl h0
      . exact .inr (hn hr h0 e l ho)
    | true => exact .inl (hro.vec hr).2
theorem zjc {o : Oper} (hp : PDok X.P X.pd) (t : TypeId) (x : Operand) (ho : o.op = .load t x) {id i sub : Nat} {y : Ob} {u : U} {rd : List Nat}
    (hx : (X.pd.ev 0 s x).c? = some (.ptr id i sub)) (hy : s.get id = some y) (hr : zgq X.pd t y i sub = some (true, u)) : Does X o s ⟨o.dst, .u u, [], [], [], rd⟩ := by
  intro ρ a w Q h _
  obtain ⟨hi, hsub, hv⟩ := ev_c h hx
  cases hti : X.pd.ti t with
  | none =>
    exfalso
    unfold zgq at hr
    split at hr
    . simp [hti] at hr
    . unfold zdB at hr; simp [hti] at hr
  | some ti =>
    have hro := h.ob id y hy
    obtain ⟨h1, h2⟩ := zkb hp hti hr hro hi hsub
    have hTI := hp.ti t ti hti
    rcases Nat.eq_zero_or_pos ti.size with hz | hz
    . have hrun := zeB hTI w (ρ id).blk (i * (ρ id).sz + sub) [] (by simp [hz]) (by simp)
      refine zaW h ?_ (show RV X ρ (.u u) _ from h2 [] (by rw [hz, List.take_zero]; trivial))
      simp [execOp, ho, hv, Instr.loadAt, Instr.sureAddr, hrun]
    . obtain ⟨cs, hc1, hc2, hc3⟩ := hro.cell h1 hz
      have hrun := zeB hTI w (ρ id).blk (i * (ρ id).sz + sub) cs hc2 hc3
      refine zaW h ?_ (show RV X ρ (.u u) _ from h2 cs hc1)
      simp [execOp, ho, hv, Instr.loadAt, Instr.sureAddr, hrun]
theorem Frm.cell (hf : Frm X w) {b o : Nat} (hb : X.ok b) : w.cell? ⟨b, o, none⟩ = X.w0.cell? ⟨b, o, none⟩ :=
  World.cell?_of_block (hf.block b hb.1 hb.2.1)
theorem zhZ {l : List C} {vs : List Value} (hl : l.length = vs.length) (h : ∀ (j : Nat) (c : C) (v : Value), l[j]? = some c -> vs[j]? = some v -> RC X ρ c v) : RCs X ρ l vs := by
  induction l generalizing vs with
  | nil => cases vs with
    | nil => trivial
    | cons v vs => simp at hl
  | cons c l ih => cases vs with
    | nil => simp at hl
    | cons v vs =>
      refine ⟨h 0 c v (by simp) (by simp), ih (by simpa using hl) fun j c v h1 h2 => h (j + 1) c v (by simpa using h1) (by simpa using h2)⟩
theorem zdj {c : C} {v : Value} (h : Holds X.w0 X.ok c v) : RC X ρ c v := by
  cases c <;> first | exact h | (cases h with | sc h => simp [C.val] at h)
theorem znj (hf : Frm X w) {e : El} {l : List e.T} {b off o n : Nat} {f : Nat -> Value} (hb : X.ok b) (h1 : ∀ (j : Nat) (c : C), (flat e l)[j]? = some c -> X.w0.cell? ⟨b, off + j, none⟩ = some (f j))
    (h2 : ∀ (j : Nat) (c : C), (flat e l)[j]? = some c -> Holds X.w0 X.ok c (f j)) (hn : o + n <= (flat e l).length) :
    ∃ cs : List Value, RCs X ρ (((flat e l).drop o).take n) cs /\ cs.length = n /\ ∀ j v, cs[j]? = some v -> w.cell? ⟨b, off + o + j, none⟩ = some v := by
  refine ⟨(List.range n).map (fun j => f (o + j)), zhZ (by simp; omega) fun j c v hc hv => ?_, by simp, fun j v hv => ?_⟩
  . simp only [List.getElem?_take, List.getElem?_drop] at hc
    split at hc
    . simp only [List.getElem?_map] at hv
      rw [List.getElem?_range (by assumption)] at hv
      simp at hv
      subst hv
      exact zdj (h2 _ c hc)
    . cases hc
  . simp only [List.getElem?_map] at hv
    by_cases hj : j < n
    . rw [List.getElem?_range hj] at hv
      simp at hv
      subst hv
      have hlt : o + j < (flat e l).length := by omega
      rw [hf.cell hb, Nat.add_assoc]
      exact h1 (o + j) _ (List.getElem?_eq_getElem hlt)
    . rw [List.getElem?_eq_none (by simp; omega)] at hv
      simp at hv
theorem zjd {o : Oper} (hp : PDok X.P X.pd) (t : TypeId) (x : Operand) (ho : o.op = .load t x) {e : El} {l : List e.T} {i sub : Nat} {u : U} {rd : List Nat}
    (hx : (X.pd.ev 0 s x).c? = some (.rop e l i sub)) (hr : zdB X.pd t 0 e l i sub = some (true, u)) : Does X o s ⟨o.dst, .u u, [], [], [], rd⟩ := by
  intro ρ a w Q h _
  obtain ⟨hi, hsub, b, off, hv, hb, f, hf1, hf2⟩ := ev_c h hx
  cases hti : X.pd.ti t with
  | none => exfalso; unfold zdB at hr; simp [hti] at hr
  | some ti =>
    obtain ⟨h1, h2⟩ := zhY (ρ := ρ) hp hti hr (.inl rfl) hi
    obtain ⟨cs, hc1, hc2, hc3⟩ := znj (ρ := ρ) h.fr (o := i * e.size + sub) (n := ti.size) hb hf1 hf2 h1
    have hrun := zeB (hp.ti t ti hti) w b (off + (i * e.size + sub)) cs hc2 hc3
    refine zaW h ?_ (show RV X ρ (.u u) _ from h2 cs hc1)
    simp [execOp, ho, hv, Instr.loadAt, Instr.sureAddr, hrun]
theorem ztl (hf : Frm X w) {l : List Tn} {b off o n : Nat} {f : Nat -> Value} (hb : X.ok b) (h1 : ∀ (j : Nat) (c : C), (zc7 l)[j]? = some c -> X.w0.cell? ⟨b, off + j, none⟩ = some (f j))
    (h2 : ∀ (j : Nat) (c : C), (zc7 l)[j]? = some c -> Holds X.w0 X.ok c (f j)) (hn : o + n <= (zc7 l).length) :
    ∃ cs : List Value, RCs X ρ (((zc7 l).drop o).take n) cs /\ cs.length = n /\ ∀ j v, cs[j]? = some v -> w.cell? ⟨b, off + o + j, none⟩ = some v := by
  refine ⟨(List.range n).map (fun j => f (o + j)), zhZ (by simp; omega) fun j c v hc hv => ?_, by simp, fun j v hv => ?_⟩
  . simp only [List.getElem?_take, List.getElem?_drop] at hc
    split at hc
    . simp only [List.getElem?_map] at hv
      rw [List.getElem?_range (by assumption)] at hv
      simp at hv
      subst hv
      exact zdj (h2 _ c hc)
    . cases hc
  . simp only [List.getElem?_map] at hv
    by_cases hj : j < n
    . rw [List.getElem?_range hj] at hv
      simp at hv
      subst hv
      have hlt : o + j < (zc7 l).length := by omega
      rw [hf.cell hb, Nat.add_assoc]
      exact h1 (o + j) _ (List.getElem?_eq_getElem hlt)
    . rw [List.getElem?_eq_none (by simp; omega)] at hv
      simp at hv
theorem zje {o : Oper} (hp : PDok X.P X.pd) (t : TypeId) (x : Operand) (ho : o.op = .load t x) {l : List Tn} {i sub : Nat} {u : U} {rd : List Nat} {ti : TI}
    (hx : (X.pd.ev 0 s x).c? = some (.rtp l i sub)) (hti : X.pd.ti t = some ti) (hle : sub + ti.size <= 3) (hu : X.pd.mkU t (((l.getD i Tn.zero).c.drop sub).take ti.size) = some u) : Does X o s ⟨o.dst, .u u, [], [], [], rd⟩ := by
  intro ρ a w Q h _
  obtain ⟨hi, hsub, b, off, hv, hb, f, hf1, hf2⟩ := ev_c h hx
  have hlen := zj6 l
  obtain ⟨cs, hc1, hc2, hc3⟩ := ztl (ρ := ρ) h.fr (o := i * 3 + sub) (n := ti.size) hb hf1 hf2 (by rw [hlen]; omega)
  have hrun := zeB (hp.ti t ti hti) w b (off + (i * 3 + sub)) cs hc2 hc3
  rw [zd3 _ _ 3 _ _ hle, zte l i hi] at hc1
  refine zaW h ?_ (show RV X ρ (.u u) _ from zfJ hu hc1 hti)
  simp [execOp, ho, hv, Instr.loadAt, Instr.sureAddr, hrun]
theorem zog {t : TypeId} {ti : TI} {x : Ob} {i sub : Nat} {u : U} {o' : O} (hp : PDok X.P X.pd) (hti : X.pd.ti t = some ti) (h : zdC X.pd t x i sub u = some (true, o'))
    (hn : x.row = false -> x.n ≠ 0 -> ∀ e l, x.o = .vec e l -> l.length = x.n) (hrow : x.row = true -> x.n = 0) (hi : i < x.o.len) :
    o'.cells = zan x.o.cells (i * x.o.sz + sub) u.cells /\ i * x.o.sz + sub + ti.size <= x.o.cells.length /\ u.cells.length = ti.size /\ o'.sz = x.o.sz /\ o'.len = x.o.len /\
      (∀ e l, x.o = .vec e l -> ∃ l', o' = .vec e l' /\ l'.length = l.length) := by
  unfold zdC at h
  simp only [hti] at h
  cases ho : x.o with
  | lit l =>
    rw [ho] at h hi
    simp only at h
    obtain ⟨h0, h1⟩ := zaa h
    simp only [oi1, pi1, true_and] at h1
    subst h1
    simp only [Bool.and_eq_true] at h0
    have e1 := Nat.beq_true h0.1
    have e2 : sub + ti.size <= l.length := by simpa [Nat.ble_eq] using h0.2.1
    have e3 := Nat.beq_true h0.2.2
    subst e1
    have hsl : (zan l sub u.cells).length = l.length := zaH _ _ _ (by omega)
    exact ⟨by simp [O.cells], by simpa [O.cells] using e2, e3, by simp [O.sz, hsl], rfl, fun e l h => by cases h⟩
  | vec e l =>
    rw [ho] at h hi
    simp only at h
    split at h
    . rename_i n hc
      obtain ⟨h0, h1⟩ := zaa hc
      have hs0 := Nat.beq_true h0
      subst hs0
      obtain ⟨hsz, _⟩ := zhX hp h1 hti
      cases u with
      | c _ => cases h
      | agg _ => cases h
      | box _ => cases h
      | vec f m =>
      simp only at h
      split at h
      . rename_i m' hm'
        obtain ⟨hfl, hlen, rfl⟩ := zdN hm'
        cases hb : (Nat.beq n x.n && (Nat.beq i 0 && (Nat.blt 0 n && !x.row))) with
        | true =>
          rw [hb] at h
          simp only [cond_true, oi1, pi1] at h
          obtain ⟨hg, rfl⟩ := h
          simp only [Bool.and_eq_true] at hb
          have e1 := Nat.beq_true hb.1
          have e2 := Nat.beq_true hb.2.1
          have e3 : 0 < n := by simpa [Nat.blt_eq] using hb.2.2.1
          have e4 := Nat.beq_true hg
          subst e2
          have hl : l.length = n := by
            cases hr : x.row with
            | false => rw [hn hr (by omega) f l ho, e1]
            | true => have := hrow hr; omega
          have h5 : (U.vec f m).cells.length = ti.size := by rw [U.cells, zab, hlen, e4, hsz]
          refine ⟨?_, ?_, h5, rfl, by simp [O.len]; omega, fun e2 l2 h2 => by cases h2; exact ⟨_, rfl, by omega⟩⟩
          . simp only [O.cells, U.cells, Nat.zero_mul, Nat.add_zero, zan, List.take_zero, List.nil_append, Nat.zero_add]
            rw [List.drop_of_length_le (by rw [zab, zab, hlen, e4, hl]; omega), List.append_nil, hfl]
          . simp only [O.cells, zab, hl, hsz]; omega
        | false =>
          rw [hb] at h
          simp only [cond_false, oi1, pi1, Bool.and_eq_true] at h
          obtain ⟨⟨hg1, hg2⟩, rfl⟩ := h
          have e1 : i + n <= l.length := by simpa [leN] using hg1
          have e4 := Nat.beq_true hg2
          have h5 : (U.vec f m).cells.length = ti.size := by rw [U.cells, zab, hlen, e4, hsz]
          have hsl : (zan l i m').length = l.length := zaH _ _ _ (by omega)
          refine ⟨?_, ?_, h5, rfl, by simp [O.len, hsl], fun e2 l2 h2 => by cases h2; exact ⟨_, rfl, hsl⟩⟩
          . simp only [O.cells, U.cells, O.sz, Nat.add_zero]
            rw [zd9, hfl]
          . simp only [O.cells, O.sz, zab, hsz, Nat.add_zero, ← Nat.add_mul]; exact Nat.mul_le_mul_right _ e1
      . cases h
    . obtain ⟨h0, h1⟩ := zaa h
      simp only [Bool.and_eq_true] at h0
      have e2 : sub + ti.size <= e.size := by simpa [Nat.ble_eq] using h0.1
      have e3 := Nat.beq_true h0.2
      split at h1
      . rename_i y hy
        simp only [oi1, pi1, true_and] at h1
        subst h1
        have h6 := zgb e _ _ hy
        have hi : i < l.length := hi
        have hlen : i * e.size + e.size <= (flat e l).length := by
          rw [zab]
          have : (i + 1) * e.size <= l.length * e.size := Nat.mul_le_mul_right _ hi
          rwa [Nat.add_mul, Nat.one_mul] at this
        have h7 : (e.toC y).length = e.size := za2 e y
        refine ⟨?_, by simp only [O.cells, O.sz]; omega, e3, rfl, by simp [O.len, zdh], fun e2 l2 h2 => by cases h2; exact ⟨_, rfl, zdh _ _ _⟩⟩
        simp only [O.cells, O.sz]
        rw [zwi l i y hi, zd9]
        have h8 : flat e [y] = zan ((List.drop (i * e.size) (flat e l)).take e.size) sub u.cells := by
          rw [zgw e l i hi, h6]; simp [flat]
        rw [h8]
        exact zi8 _ _ _ _ _ hlen (by omega)
      . cases h1
theorem zoh {o : Oper} (hp : PDok X.P X.pd) (t : TypeId) (x v : Operand) (ho : o.op = .store t x v) {id i sub : Nat} {y : Ob} {u : U} {o' : O} {rd : List Nat}
    (hx : (X.pd.ev 0 s x).c? = some (.ptr id i sub)) (hu : X.pd.ev t s v = .u u) (hsol : u.solid = true) (hy : s.get id = some y) (hr : zdC X.pd t y i sub u = some (true, o')) :
    Does X o s ⟨o.dst, .dead, [(id, ⟨y.row, y.n, y.ty, o'⟩)], [], [], rd⟩ := by
  intro ρ a w Q h _
  obtain ⟨hi, hsub, hv⟩ := ev_c h hx
  have hval := zck h t v
  rw [hu] at hval
  cases hti : X.pd.ti t with
  | none => exfalso; unfold zdC at hr; simp [hti] at hr
  | some ti =>
    have hro := h.ob id y hy
    have hi2 := hi
    rw [hro.len] at hi2
    obtain ⟨h1, h2, h3, h4, h5, h6⟩ := zog hp hti hr hro.nl (fun hh => (hro.vec hh).2) hi2
    obtain ⟨hc1, hc2⟩ := zjb hval hsol
    have hlen := zat hc1
    have hTI := hp.ti t ti hti
    have hBy : hasB ρ id y := by
      cases hrow : y.row with
      | false => exact .inl hrow
      | true =>
        right
        intro hnil
        rcases hro.mem with ⟨_, _, h3'⟩ | ⟨vs, ty, cap, _, _, _, _, h5'⟩
        . obtain ⟨⟨e, l, he⟩, _⟩ := hro.vec hrow
          rw [he, O.cells] at h3'
          rw [he, O.len] at hi2
          have := zab e l
          rw [h3'] at this
          have hp := Nat.mul_pos (show 0 < l.length by omega) (zaK e)
          simp at this
          have := zaK e
          omega
        . rw [(h5' hrow).2.1] at hnil; cases hnil
    rcases hro.mem with ⟨hrow, hval', hcells⟩ | ⟨vs, ty, cap, hm1, hm2, hm3, hm4, hm5⟩
    . rcases hBy with hb | hb
      . rw [hrow] at hb; cases hb
      . exact absurd hval' hb
    . have hfit : (i * (ρ id).sz + sub) + ti.size <= vs.size := by rw [hro.sz]; omega
      have hrun := zpB hTI w (ρ id).blk (i * (ρ id).sz + sub) (a.eval v) vs ty hm1 (by rw [← hlen]; exact h3) hfit hc2
      unfold Oper.wp
      rw [show (execOp a.eval o).run X.P w = .ok .skip (w.setRow (ρ id).blk (zan vs.toList (i * (ρ id).sz + sub) (a.eval v).cells.toList).toArray) from by
        simp [execOp, ho, hv, Instr.storeAt, Instr.sureAddr, hrun]]
      refine ⟨ρ, ?_⟩
      have hsplen : (zan vs.toList (i * (ρ id).sz + sub) (a.eval v).cells.toList).length = vs.size := by
        rw [zaH _ _ _ (by rw [← hlen, h3]; simpa using hfit)]; simp
      have ho'len : o'.cells.length = y.o.cells.length := by rw [h1, zaH _ _ _ (by omega)]
      have hst : Sim X ρ ⟨s.tm, za5 id ⟨y.row, y.n, y.ty, o'⟩ s.ob⟩ a (w.setRow (ρ id).blk (zan vs.toList (i * (ρ id).sz + sub) (a.eval v).cells.toList).toArray) := by
        refine h.store id y ⟨y.row, y.n, y.ty, o'⟩ hy hBy hBy ?_ (fun k hk => setRow_other _ _ _ _ hk) ⟨rfl, rfl, rfl, size_setRow _ _ _⟩
        refine ⟨by simp only [h4]; exact hro.sz, by simp only [h5]; exact hro.len, fun hrow hn0 e l he => ?_, fun hrow => ?_, .inr ⟨_, ty, cap, setRow_heap w _ vs _ ty _ hm1, ?_, ?_, fun hrow => ?_, fun hrow => ?_⟩⟩
        . cases hyo : y.o with
          | lit l0 =>
            exfalso
            rw [hyo] at h4
            unfold zdC at hr
            simp only [hti, hyo] at hr
            obtain ⟨_, hr2⟩ := zaa hr
            simp only [oi1, pi1] at hr2
            rw [← hr2.2] at he
            cases he
          | vec e0 l0 =>
            obtain ⟨l', he', hl'⟩ := h6 e0 l0 hyo
            simp only at he
            rw [he'] at he
            cases he
            rw [hl']
            exact hro.n hrow hn0 _ _ hyo
        . obtain ⟨⟨e0, l0, hyo⟩, hn⟩ := hro.vec hrow
          obtain ⟨l', he', _⟩ := h6 e0 l0 hyo
          exact ⟨⟨e0, l', he'⟩, hn⟩
        . simp only [ho'len]
          rw [h1, hro.sz]
          have e1 : (zan vs.toList (i * y.o.sz + sub) (a.eval v).cells.toList).toArray.toList.take y.o.cells.length = zan (vs.toList.take y.o.cells.length) (i * y.o.sz + sub) (a.eval v).cells.toList := by
            simp only [zan]
            apply List.ext_getElem?
            intro j
            simp only [List.getElem?_append, List.length_take, List.length_drop, List.getElem?_take, List.getElem?_drop, Array.length_toList]
            grind
          rw [e1]
          exact zfe hm2 hc1 _
        . simp only [ho'len, List.size_toArray, hsplen]; exact hm3
        . simp only [ho'len, List.size_toArray, hsplen]; exact hm4 hrow
        . have := hm5 hrow
          simp only [h4, h5, List.size_toArray, hsplen]
          exact this
      cases hd : o.dst with
      | none => simpa [Eff.app, St.dels, St.puts, Act.put] using hst
      | some d => simpa [Eff.app, St.dels, St.puts] using hst.set d (v := .dead) trivial
end
section
variable {X : Ctx} {ρ : Nat -> RI} {s : St} {a : Act} {w : World}
theorem Frm.alloc (h : Frm X w) (o : Obj) : Frm X (w.alloc o) :=
  ⟨h.os, h.tape, h.output, by have := h.size; simp; omega, fun k hk hm => by rw [heap_alloc_old w o k (Nat.lt_of_lt_of_le hk h.size)]; exact h.block k hk hm⟩
theorem Sim.lt (h : Sim X ρ s a w) {id : Nat} {x : Ob} (hx : s.get id = some x) (hb : hasB ρ id x) : (ρ id).blk < w.heap.size := by
  rcases (h.ob id x hx).mem with ⟨h1, h2, _⟩ | ⟨vs, ty, cap, h1, _⟩
  . rcases hb with hb | hb
    . rw [h1] at hb; cases hb
    . exact absurd h2 hb
  . exact (Array.getElem?_eq_some_iff.1 h1).1
theorem Sim.alloc (h : Sim X ρ s a w) (o : Obj) : Sim X ρ s a (w.alloc o) :=
  h.world (fun _ _ hx hb => heap_alloc_old w o _ (h.lt hx hb)) (h.fr.alloc o)
theorem zkc {o : Oper} {id : Nat} {x : Ob} {v : V} {val : Value} {vs : Array Value} {ty : TypeId} {r : RI} {rd : List Nat} {Q : Exit -> Act -> World -> Prop} (h : Sim X ρ s a w) (hm : s.men id = false)
    (hr : (execOp a.eval o).run X.P w = .ok (.value val) (w.alloc (.cells vs ty))) (hblk : r.blk = w.heap.size) (hro : RO X (upd ρ id r) (w.alloc (.cells vs ty)) id x) (hv : RV X (upd ρ id r) v val) :
    o.wp X.P a w (fun a' w' => ∃ ρ', Sim X ρ' ((⟨o.dst, v, [(id, x)], [], [id], rd⟩ : Eff).app s) a' w') Q := by
  have h2 := (h.alloc (.cells vs ty)).add id x r hm hro (fun _ => ⟨fun j y hy hb => by rw [hblk]; have := h.lt hy hb; omega, .inl (by rw [hblk]; exact h.fr.size)⟩)
  unfold Oper.wp
  rw [hr]
  refine ⟨upd ρ id r, ?_⟩
  cases hd : o.dst with
  | none => simpa [Eff.app, St.dels, St.puts, Act.put] using h2
  | some d => simpa [Eff.app, St.dels, St.puts] using h2.set d hv
theorem zcv {p : Nat -> Bool} {n : Nat} (h : anyN p [n] = false) : p n = false := by
  unfold anyN at h
  cases hp : p n with
  | true => rw [hp] at h; cases h
  | false => rfl
theorem zdk {l : List C} {vs : List Value} {id : Nat} {r : RI} (hm : ∀ j, anyC (C.men j) l = true -> j ≠ id) (h : RCs X ρ l vs) : RCs X (upd ρ id r) l vs :=
  zbQ (fun j hj => zbb (hm j hj)) h
theorem znk {t : TypeId} {ti : TI} {u : U} {x : Ob} (hp : PDok X.P X.pd) (hti : X.pd.ti t = some ti) (h : X.pd.newOb t u = some (true, x)) :
    x.o.cells = u.cells /\ u.cells.length = ti.size /\ x.row = false /\ (∀ e l, x.o = .vec e l -> l.length = x.n) /\ ¬ PIN <= x.ty := by
  unfold PD.newOb at h
  simp only [hti] at h
  cases ha : X.pd.arrLike t with
  | some p =>
    obtain ⟨n, e⟩ := p
    simp only [ha] at h
    obtain ⟨hsz, _⟩ := zfK hp ha hti
    cases u with
    | c _ => cases h
    | agg _ => cases h
    | box _ => cases h
    | vec f m =>
      simp only at h
      split at h
      . rename_i m' hm'
        obtain ⟨hfl, hlen, rfl⟩ := zdN hm'
        simp only [oi1, pi1] at h
        obtain ⟨hg, rfl⟩ := h
        obtain ⟨hg1, hg2⟩ := Bool.and_eq_true_iff.1 hg
        have e1 := Nat.beq_true hg2
        exact ⟨by simp [O.cells, U.cells, hfl], by rw [U.cells, zab, hlen, e1, hsz], rfl, fun e l h => by cases h; exact e1, Nat.not_le.2 (by simpa using hg1)⟩
      . cases h
  | none =>
    simp only [ha] at h
    obtain ⟨h0, h1⟩ := zaa h
    simp only [oi1, pi1, true_and] at h1
    subst h1
    obtain ⟨hg1, hg2⟩ := Bool.and_eq_true_iff.1 h0
    exact ⟨rfl, Nat.beq_true hg2, rfl, fun e l h => (by cases h), Nat.not_le.2 (by simpa using hg1)⟩
theorem zpC {x : Ob} {id : Nat} {r : RI} {vs : List Value} {ty : TypeId} (hrow : x.row = false) (hn : ∀ e l, x.o = .vec e l -> l.length = x.n) (hpin : ¬ PIN <= x.ty) (hblk : r.blk = w.heap.size) (hsz : r.sz = x.o.sz) (hlen : r.len = x.o.len)
    (hc : RCs X (upd ρ id r) x.o.cells vs) (hval : r.val = undef := by rfl) : RO X (upd ρ id r) (w.alloc (.cells vs.toArray ty)) id x := by
  have hl := zat hc
  refine ⟨by rw [zac]; exact hsz, by rw [zac]; exact hlen, fun _ _ e l he => ⟨hn e l he, by rw [zac]; exact hval⟩, (fun h => by rw [hrow] at h; cases h), .inr ⟨vs.toArray, ty, 0, ?_, ?_, by simp [hl], fun _ => ⟨by simp [hl], fun h => absurd h hpin⟩, (fun h => by rw [hrow] at h; cases h)⟩⟩
  . rw [zac, hblk]; exact heap_alloc_new w _
  . rw [hl, List.take_of_length_le (by simp)]; exact hc
theorem zlI {x : Ob} (h : 0 < x.o.cells.length) : 0 < x.o.len /\ 0 < x.o.sz := by
  cases hx : x.o with
  | lit l => rw [hx] at h; exact ⟨Nat.one_pos, h⟩
  | vec e l =>
    rw [hx, O.cells, zab] at h
    exact ⟨Nat.pos_of_mul_pos_right h, zaK e⟩
theorem zfi (v : Value) (z : C) (id : Nat) : (zgp v z).men id = false := by
  unfold zgp
  split <;> first | rfl | skip
  . cases zbA _ _ <;> rfl
  . cases zbA _ _ <;> rfl
  . cases zbA _ _ <;> rfl
  . split
    . cases (Nat.beq _ 0 && Nat.beq _ 0) <;> rfl
    . rfl
theorem zlJ (vs : List Value) (zs : List C) (id : Nat) : anyC (C.men id) (zfb vs zs) = false := by
  induction vs generalizing zs with
  | nil => cases zs <;> rfl
  | cons v vs ih => cases zs with
    | nil => rfl
    | cons z zs => simp [zfb, anyC, zfi, ih]
theorem men_cells {u : U} {id : Nat} (h : ∀ l, u ≠ .box l) : u.men id = anyC (C.men id) u.cells := by
  cases u with
  | c x => simp only [U.men, U.cells, anyC]; cases x.men id <;> rfl
  | agg l => rfl
  | vec e l => simp only [U.men, U.cells, zbi]
  | box l => exact absurd rfl (h l)
theorem zwu {pd : PD} {t : TypeId} {cs : List C} {u : U} {id : Nat} (h : pd.mkU t cs = some u) (hm : anyC (C.men id) cs = false) : u.men id = false := by
  obtain ⟨ti, _, h2, h3⟩ := zi9 h
  rw [men_cells, h2]
  . exact hm
  . intro l he
    subst he
    rcases h3 with ⟨_, ⟨l, h⟩ | ⟨e, l, h⟩⟩ | ⟨_, c, h, _⟩ <;> cases h
theorem zgD (pd : PD) (t : TypeId) (v : Value) (id : Nat) : (pd.ofVal t v).men id = false := by
  unfold PD.ofVal
  cases pd.ti t with
  | none =>
    simp only
    split
    . exact zfi _ _ _
    . rfl
    . rfl
  | some ti =>
    simp only
    split
    . cases (ti.k.agg && Nat.beq _ _) with
      | false => rfl
      | true =>
        simp only [cond_true]
        split
        . rename_i u hu
          exact zwu hu (zlJ _ _ _)
        . rfl
    . split
      . exact zfi _ _ _
      . rfl
theorem zvq {t : TypeId} {x : Operand} {id : Nat} (hm : s.men id = false) : (X.pd.ev t s x).men id = false := by
  cases x with
  | tmp i =>
    simp only [PD.ev, List.getD_eq_getElem?_getD]
    cases hi : s.tm[i]? with
    | none => rfl
    | some v => exact zng hi hm
  | const v => exact zgD _ _ _ _
  | global g => rfl
  | func f => rfl
theorem zkd {u : U} (h : u.solid = true) : ∀ l, u ≠ .box l := by
  intro l e; subst e; cases h
theorem ztm {o : Oper} (hp : PDok X.P X.pd) (t : TypeId) (x : Operand) (ho : o.op = .box t x) {u : U} {y : Ob} {id : Nat} {rd : List Nat} {ti : TI} (hti : X.pd.ti t = some ti) (hpos : 0 < ti.size)
    (hu : X.pd.ev t s x = .u u) (hsol : u.solid = true) (hy : X.pd.newOb t u = some (true, y)) : Does X o s ⟨o.dst, .u (.c (.ptr id 0 0)), [(id, y)], [], [id], rd⟩ := by
  intro ρ a w Q h hnew
  have hm := zcv hnew
  have hv := zck h t x
  rw [hu] at hv
  obtain ⟨hc1, _⟩ := zjb hv hsol
  obtain ⟨h1, h2, h3, h4, h5⟩ := znk hp hti hy
  have hmen : anyC (C.men id) u.cells = false := by
    rw [← men_cells (zkd hsol)]
    have := zvq (X := X) (t := t) (x := x) hm
    rw [hu] at this
    exact this
  have hpp := zlI (x := y) (by rw [h1, h2]; exact hpos)
  refine zkc (r := ⟨w.heap.size, undef, y.o.sz, y.o.len⟩) (vs := (a.eval x).cells) (ty := t) (val := .pointer (some ⟨w.heap.size, 0, none⟩)) h hm ?_ rfl ?_ ?_
  . simp [execOp, ho, Instr.box, newVar, newRow, newObj]; rfl
  . have := zpC (ρ := ρ) (id := id) (w := w) (ty := t) (r := ⟨w.heap.size, undef, y.o.sz, y.o.len⟩) (vs := (a.eval x).cells.toList) h3 h4 h5 rfl rfl rfl (by
      rw [h1]
      refine zdk (fun j hj e => ?_) hc1
      subst e
      rw [hmen] at hj; cases hj)
    simpa using this
  . show RC X _ (.ptr id 0 0) _
    simp only [RC, zac]
    exact ⟨hpp.1, hpp.2, by simp⟩
theorem zch (e : El) (n : Nat) (x : e.T) : flat e (List.replicate n x) = (List.replicate n (e.toC x)).flatten := by
  induction n with
  | zero => rfl
  | succ n ih => simp [List.replicate_succ, flat, ih]
theorem zvr {id : Nat} {r : RI} {e : El} {l : List e.T} {vs : Array Value} {cap : Nat} {ty : TypeId} (hblk : r.blk = w.heap.size) (hsz : r.sz = e.size) (hlen : r.len = l.length)
    (hval : r.val = .slice (some ⟨w.heap.size, 0, none⟩) l.length cap) (hcap : l.length <= cap) (hmax : cap <= maxLen) (hvs : vs.size = cap * e.size) (hc : RCs X (upd ρ id r) (flat e l) (vs.toList.take (l.length * e.size))) :
    RO X (upd ρ id r) (w.alloc (.cells vs ty)) id ⟨true, 0, ty, .vec e l⟩ := by
  refine ⟨by rw [zac]; exact hsz, by rw [zac]; exact hlen, (fun h => by cases h), fun _ => ⟨⟨e, l, rfl⟩, rfl⟩, .inr ⟨vs, ty, cap, ?_, ?_, ?_, (fun h => by cases h), fun _ => ⟨rfl, ?_, hcap, hmax, hvs⟩⟩⟩
  . rw [zac, hblk]; exact heap_alloc_new w _
  . simp only [O.cells, zab]; exact hc
  . simp only [O.cells, zab, hvs]; exact Nat.mul_le_mul_right _ hcap
  . rw [zac, hblk]; exact hval
theorem znl {id : Nat} {r : RI} {e : El} {ty : TypeId} (hsz : r.sz = e.size) (hlen : r.len = 0) (hval : r.val = .slice none 0 0) : RO X (upd ρ id r) w id ⟨true, 0, ty, .vec e []⟩ :=
  ⟨by rw [zac]; exact hsz, by rw [zac]; exact hlen, (fun h => by cases h), fun _ => ⟨⟨e, [], rfl⟩, rfl⟩, .inl ⟨rfl, by rw [zac]; exact hval, rfl⟩⟩
theorem znm {o : Oper} (x : Operand) (ho : o.op = .move x \/ o.op = .assign x) (hx : x = .const (.slice none 0 0)) {e : El} {ty : TypeId} {id : Nat} {rd : List Nat} :
    Does X o s ⟨o.dst, .u (.c (.row id)), [(id, ⟨true, 0, ty, .vec e []⟩)], [], [id], rd⟩ := by
  intro ρ a w Q h hnew
  have hm := zcv hnew
  have h2 := h.add id ⟨true, 0, ty, .vec e []⟩ ⟨0, .slice none 0 0, e.size, 0⟩ hm (znl rfl rfl rfl) (fun hb => by
    rcases hb with hb | hb
    . cases hb
    . rw [zac] at hb; exact absurd rfl hb)
  unfold Oper.wp
  rw [show (execOp a.eval o).run X.P w = .ok (.value (.slice none 0 0)) w from by rcases ho with ho | ho <;> simp [execOp, ho, hx, Act.eval]]
  refine ⟨upd ρ id ⟨0, .slice none 0 0, e.size, 0⟩, ?_⟩
  cases hd : o.dst with
  | none => simpa [Eff.app, St.dels, St.puts, Act.put] using h2
  | some d =>
    have := h2.set d (v := .u (.c (.row id))) (x := .slice none 0 0) (show RC X _ (.row id) _ from ⟨by rw [zac], none, 0, 0, rfl⟩)
    simpa [Eff.app, St.dels, St.puts] using this
theorem zcw {cs : List C} {vs : List Value} (h : RCs X ρ cs vs) (n : Nat) : RCs X ρ (List.replicate n cs).flatten (List.replicate n vs).flatten := by
  induction n with
  | zero => trivial
  | succ n ih => simp only [List.replicate_succ, List.flatten_cons]; exact zcy h ih
theorem zgd (z : Array Value) (n : Nat) : ((Array.range (n * z.size)).map (z[· % z.size]!)).toList = (List.replicate n z.toList).flatten := by
  apply List.ext_getElem?
  intro j
  simp only [Array.toList_map, Array.toList_range, List.getElem?_map]
  induction n generalizing j with
  | zero => simp
  | succ n ih =>
    simp only [List.replicate_succ, List.flatten_cons, List.getElem?_append, Array.length_toList]
    by_cases hj : j < z.size
    . rw [List.getElem?_range (by rw [Nat.succ_mul]; omega)]
      simp [hj, Nat.mod_eq_of_lt hj, getElem!_pos]
    . rw [if_neg hj, ← ih (j - z.size)]
      by_cases h2 : j < (n + 1) * z.size
      . have h3 : j - z.size < n * z.size := by rw [Nat.succ_mul] at h2; omega
        rw [List.getElem?_range h2, List.getElem?_range h3]
        have : (j - z.size) % z.size = j % z.size := by rw [← Nat.mod_eq_sub_mod (by omega)]
        simp [this]
      . have h3 : ¬ j - z.size < n * z.size := by rw [Nat.succ_mul] at h2; omega
        rw [List.getElem?_eq_none (by simp; omega), List.getElem?_eq_none (by simp; omega)]
theorem zcX {P : Program} {pd : PD} (hp : PDok P pd) {et : TypeId} {e : El} {ei : TI} (hei : pd.ti et = some ei) (hel : pd.el et = some e) :
    ∃ i z, P.info? et = some i /\ i.size = e.size /\ i.bytes = ei.bytes /\ i.zero = some z /\ zhV z.cells.toList (e.toC e.zero) /\ z.cells.size = e.size := by
  obtain ⟨ti, h1, h2, h3⟩ := hp.el _ _ hel
  rw [hei] at h1
  cases h1
  have hTI := hp.ti _ _ hei
  obtain ⟨i, z, h4, h5, h6, h7, h8, _⟩ := hTI.info
  rw [h3] at h8
  refine ⟨i, z, h4, by rw [h5, h2], h6, h7, h8, ?_⟩
  have := zat (X := ⟨P, pd, default, fun _ => False, fun _ => (0, 0, 0, 0), fun _ => True⟩) (ρ := fun _ => ⟨0, undef, 0, 0⟩) (zcK h8)
  rw [za2] at this
  simpa using this.symm
theorem zge (h : Sim X ρ s a w) (n : Operand) {k : Int} (hn : lenI (X.pd.ev 3 s n).c? = some k) : ∃ kd, a.eval n = .int kd k := by
  unfold lenI at hn
  split at hn
  . rename_i q hq
    cases hn
    exact ⟨_, zap (X := X) (ρ := ρ) (c := .int _) rfl (ev_c h hq)⟩
  . rename_i q hq
    cases hn
    exact ⟨_, zap (X := X) (ρ := ρ) (c := .u8 _) rfl (ev_c h hq)⟩
  . cases hn
theorem zpD {o : Oper} (hp : PDok X.P X.pd) (t : TypeId) (n m : Operand) (ho : o.op = .makeSlice t n m) {et : TypeId} {e : El} {ei : TI} {sz by' : Nat} {zz : List C} {k : Int} {id : Nat} {rd : List Nat}
    (ht : X.pd.ti t = some ⟨.slice et, sz, by', zz⟩) (hei : X.pd.ti et = some ei) (hel : X.pd.el et = some e) (hn : lenI (X.pd.ev 3 s n).c? = some k) (hm : lenI (X.pd.ev 3 s m).c? = some k)
    (h0 : 0 <= k) (hb0 : 0 < ei.bytes) (hb : k.toNat * ei.bytes <= 140737488355328) : Does X o s ⟨o.dst, .u (.c (.row id)), [(id, ⟨true, 0, et, .vec e (List.replicate k.toNat e.zero)⟩)], [], [id], rd⟩ := by
  intro ρ a w Q h hnew
  have hmen := zcv hnew
  obtain ⟨kn, e1⟩ := zge h n hn
  obtain ⟨km, e2⟩ := zge h m hm
  have hk := (hp.ti _ _ ht).kind
  obtain ⟨i, z, hi1, hi2, hi3, hi4, hz, hzs⟩ := zcX hp hei hel
  obtain ⟨c, rfl⟩ := Int.eq_ofNat_of_zero_le h0
  simp only [Int.toNat_natCast] at hb ⊢
  have hc : c <= 140737488355328 := Nat.le_trans (Nat.le_mul_of_pos_right c hb0) hb
  have hw : IntKind.i64.wrap (c : Int) = c := by rw [IntKind.wrap_i64]; omega
  have hbi : (i.bytes : Int) * c <= 2 ^ 48 := by
    have h1 : (c : Int) * ei.bytes <= 140737488355328 := by have := hb; omega
    rw [hi3, Int.mul_comm]
    omega
  have hrun : (execOp a.eval o).run X.P w = .ok (.value (.slice (some ⟨w.heap.size, 0, none⟩) c c)) (w.alloc (.cells ((Array.range (c * i.size)).map (z.cells[· % z.cells.size]!)) et)) := by
    have hroom : ¬ (c * i.bytes > roomBytes) := by rw [hi3]; simp only [roomBytes]; omega
    simp only [execOp, ho, e1, e2, Instr.makeSlice, Sem.run_bind, run_underlying hk, Result.andThen_ok, asInt, asIntOf, Sem.run_pure, typeInfo, run_program, hi1, hw]
    rw [show ((decide ((c : Int) < 0) || decide (↑i.bytes * (c : Int) > 2 ^ 48) || decide ((c : Int) < 0) || decide ((c : Int) > c)) : Bool) = false from by simp; omega]
    simp only [Bool.false_eq_true, if_false, askRoom, Int.toNat_natCast, if_neg hroom, Sem.run_bind, Sem.run_pure, Result.andThen_ok, sizeOf, typeInfo, run_program, hi1]
    by_cases hcz : c * i.size = 0
    . rw [if_pos hcz, hcz]
      have e0 : ∀ f : Nat -> Value, Array.map f (Array.range 0) = #[] := fun f => by simp
      simp only [Sem.run_bind, Sem.run_pure, Result.andThen_ok, e0]
      rfl
    . rw [if_neg hcz]
      simp only [Sem.run_bind, Sem.run_pure, zeroValue, typeInfo, run_program, hi1, hi4, Result.andThen_ok]
      rfl
  refine zkc (r := ⟨w.heap.size, .slice (some ⟨w.heap.size, 0, none⟩) c c, e.size, c⟩) h hmen hrun rfl ?_ ?_
  . refine zvr (cap := c) rfl rfl (by simp) (by simp) (by simp) (by simp only [maxLen]; omega) (by simp [hi2]) ?_
    rw [List.length_replicate, ← hi2, hi2, ← hzs, zgd, List.take_of_length_le (by simp), zch]
    exact zcw (zcK hz) c
  . exact (show RC X _ (.row id) _ from ⟨by rw [zac], _, _, _, rfl⟩)
theorem zjf {o : Oper} (hp : PDok X.P X.pd) (t : TypeId) (n m : Operand) (ho : o.op = .makeSlice t n m) {et : TypeId} {e : El} {ei : TI} {sz by' : Nat} {zz : List C} {k : Int} {id : Nat} {rd : List Nat}
    (ht : X.pd.ti t = some ⟨.slice et, sz, by', zz⟩) (hei : X.pd.ti et = some ei) (hel : X.pd.el et = some e) (hn : lenI (X.pd.ev 3 s n).c? = some k) (hm : lenI (X.pd.ev 3 s m).c? = some k)
    (h0 : 0 <= k) (hb0 : 0 < ei.bytes) (hb : k.toNat * ei.bytes <= 140737488355328) : Does X o s ⟨o.dst, .u (.c (.slc id 0 k.toNat k.toNat)), [(id, ⟨false, 0, 0, .vec e (List.replicate k.toNat e.zero)⟩)], [], [id], rd⟩ := by
  intro ρ a w Q h hnew
  have hmen := zcv hnew
  obtain ⟨kn, e1⟩ := zge h n hn
  obtain ⟨km, e2⟩ := zge h m hm
  have hk := (hp.ti _ _ ht).kind
  obtain ⟨i, z, hi1, hi2, hi3, hi4, hz, hzs⟩ := zcX hp hei hel
  obtain ⟨c, rfl⟩ := Int.eq_ofNat_of_zero_le h0
  simp only [Int.toNat_natCast] at hb ⊢
  have hc : c <= 140737488355328 := Nat.le_trans (Nat.le_mul_of_pos_right c hb0) hb
  have hw : IntKind.i64.wrap (c : Int) = c := by rw [IntKind.wrap_i64]; omega
  have hbi : (i.bytes : Int) * c <= 2 ^ 48 := by
    have h1 : (c : Int) * ei.bytes <= 140737488355328 := by have := hb; omega
    rw [hi3, Int.mul_comm]
    omega
  have hrun : (execOp a.eval o).run X.P w = .ok (.value (.slice (some ⟨w.heap.size, 0, none⟩) c c)) (w.alloc (.cells ((Array.range (c * i.size)).map (z.cells[· % z.cells.size]!)) et)) := by
    have hroom : ¬ (c * i.bytes > roomBytes) := by rw [hi3]; simp only [roomBytes]; omega
    simp only [execOp, ho, e1, e2, Instr.makeSlice, Sem.run_bind, run_underlying hk, Result.andThen_ok, asInt, asIntOf, Sem.run_pure, typeInfo, run_program, hi1, hw]
    rw [show ((decide ((c : Int) < 0) || decide (↑i.bytes * (c : Int) > 2 ^ 48) || decide ((c : Int) < 0) || decide ((c : Int) > c)) : Bool) = false from by simp; omega]
    simp only [Bool.false_eq_true, if_false, askRoom, Int.toNat_natCast, if_neg hroom, Sem.run_bind, Sem.run_pure, Result.andThen_ok, sizeOf, typeInfo, run_program, hi1]
    by_cases hcz : c * i.size = 0
    . rw [if_pos hcz, hcz]
      have e0 : ∀ f : Nat -> Value, Array.map f (Array.range 0) = #[] := fun f => by simp
      simp only [Sem.run_bind, Sem.run_pure, Result.andThen_ok, e0]
      rfl
    . rw [if_neg hcz]
      simp only [Sem.run_bind, Sem.run_pure, zeroValue, typeInfo, run_program, hi1, hi4, Result.andThen_ok]
      rfl
  refine zkc (r := ⟨w.heap.size, undef, e.size, c⟩) h hmen hrun rfl ?_ ?_
  . have hcells : RCs X (upd ρ id ⟨w.heap.size, undef, e.size, c⟩) (O.vec e (List.replicate c e.zero)).cells (((Array.range (c * i.size)).map (z.cells[· % z.cells.size]!)).toList.take (O.vec e (List.replicate c e.zero)).cells.length) := by
      simp only [O.cells, zab]
      rw [List.length_replicate, ← hi2, hi2, ← hzs, zgd, List.take_of_length_le (by simp), zch]
      exact zcw (zcK hz) c
    have hle : (O.vec e (List.replicate c e.zero)).cells.length <= ((Array.range (c * i.size)).map (z.cells[· % z.cells.size]!)).size := by
      simp [O.cells, zab, hi2]
    exact ⟨by rw [zac]; rfl, by rw [zac]; simp [O.len], (fun _ h => absurd rfl h), (fun h => by cases h), .inr ⟨_, et, 0, by rw [zac]; exact heap_alloc_new w _, hcells, hle, (fun _ => ⟨hle, fun h => absurd h (show ¬ PIN <= 0 by decide)⟩), (fun h => by cases h)⟩⟩
  . show RC X _ (.slc id 0 c c) _
    simp only [RC, zac]
    exact ⟨Nat.le_refl _, by simp only [maxLen]; omega, by omega, by simp⟩
end
section
variable {X : Ctx} {ρ : Nat -> RI} {s : St} {a : Act} {w : World}
theorem zbT {pd : PD} {P : Program} (hp : PDok P pd) {t : TypeId} {e : El} (h : pd.elIs t e = true) : ∃ ti, pd.ti t = some ti /\ ti.size = e.size /\ pd.el t = some e := by
  unfold PD.elIs at h
  split at h
  . rename_i g hg
    have := zfd h
    subst this
    obtain ⟨ti, h1, h2, _⟩ := hp.el _ _ hg
    exact ⟨ti, h1, h2, hg⟩
  . cases h
theorem zcl {pd : PD} {P : Program} (hp : PDok P pd) {t : TypeId} {e : El} (h : pd.slIs t e = true) : ∃ et ei, P.underlying t = some (.slice et) /\ pd.ti et = some ei /\ ei.size = e.size /\ pd.el et = some e := by
  unfold PD.slIs at h
  split at h
  . rename_i et sz by' z h1
    obtain ⟨ei, h2, h3, h4⟩ := zbT hp h
    exact ⟨et, ei, (hp.ti _ _ h1).kind, h2, h3, h4⟩
  . cases h
theorem beq4 {x y z u : Bool} (h : (x && (y && (z && u))) = true) : x = true /\ y = true /\ z = true /\ u = true := by
  simpa [Bool.and_eq_true] using h
theorem zcF {n : Int} {m : Nat} (h : (leI 0 n && ltI n m) = true) : ∃ k : Nat, n = k /\ k < m := by
  simp only [leI, ltI, Bool.and_eq_true, decide_eq_true_eq] at h
  exact ⟨n.toNat, by omega, by omega⟩
theorem zb4 {id : Nat} {n : Nat} {ty : TypeId} {e : El} {l : List e.T} (h : RO X ρ w id ⟨true, n, ty, .vec e l⟩) :
    ((ρ id).val = .slice none 0 0 /\ l = []) \/ ∃ cap, (ρ id).val = .slice (some ⟨(ρ id).blk, 0, none⟩) l.length cap /\ l.length <= cap /\ cap <= maxLen := by
  rcases h.mem with ⟨_, h2, h3⟩ | ⟨vs, ty, cap, _, _, _, _, h5⟩
  . left
    refine ⟨h2, ?_⟩
    have := zab e l
    simp only [O.cells] at h3
    rw [h3] at this
    have hp := zaK e
    cases l with
    | nil => rfl
    | cons x l => simp [Nat.add_mul] at this; omega
  . exact .inr ⟨cap, (h5 rfl).2.1, (h5 rfl).2.2.1, (h5 rfl).2.2.2.1⟩
theorem zaY {t et : TypeId} {ei : TI} {P : Program} (hu : P.underlying t = some (.slice et)) (hei : TIok P et ei) (b off len cap : Nat) (j : IntKind) (k : Nat) (hk : k < len) (w : World) :
    (Instr.indexAt t (.slice (some ⟨b, off, none⟩) len cap) (.int j k)).run P w = .ok (.pointer (some ⟨b, off + k * ei.size, none⟩)) w := by
  have h1 : (0 : Int) <= (k : Int) /\ (k : Int) < (len : Int) := by omega
  simp [Instr.indexAt, asIntOf, run_underlying hu, h1, TI.size_run hei, zaT]
  intro h; omega
theorem zcG {t et : TypeId} {m : Nat} {ei : TI} {P : Program} (hu : P.underlying t = some (.array m et)) (hei : TIok P et ei) (b off : Nat) (j : IntKind) (k : Nat) (hk : k < m) (w : World) :
    (Instr.indexAt t (.pointer (some ⟨b, off, none⟩)) (.int j k)).run P w = .ok (.pointer (some ⟨b, off + k * ei.size, none⟩)) w := by
  have h1 : (0 : Int) <= (k : Int) /\ (k : Int) < (m : Int) := by omega
  simp [Instr.indexAt, Instr.sureAddr, asIntOf, run_underlying hu, h1, TI.size_run hei, zaT]
  intro h; omega
theorem ztn {o : Oper} (hp : PDok X.P X.pd) (t : TypeId) (x y : Operand) (ho : o.op = .indexAddr t x y) {c d : C} {n : Int} {rd : List Nat}
    (hx : (X.pd.ev t s x).c? = some c) (hy : (X.pd.ev 3 s y).int? = some n) (hi : X.pd.idx t s c n = some (true, d)) : Does X o s ⟨o.dst, .u (.c d), [], [], [], rd⟩ := by
  intro ρ a w Q h _
  have hv := ev_c h hx
  obtain ⟨j, hn⟩ := znh h hy
  have key : ∀ {b off : Nat}, RC X ρ d (.pointer (some ⟨b, off, none⟩)) -> (Instr.indexAt t (a.eval x) (a.eval y)).run X.P w = .ok (.pointer (some ⟨b, off, none⟩)) w ->
      o.wp X.P a w (fun a' w' => ∃ ρ', Sim X ρ' ((⟨o.dst, .u (.c d), [], [], [], rd⟩ : Eff).app s) a' w') Q := fun hrc hrun => by
    refine zaW h ?_ (show RV X ρ (.u (.c d)) _ from hrc)
    simp [execOp, ho, hrun]
  rw [hn] at key
  unfold PD.idx at hi
  split at hi
  . rename_i id i sub
    obtain ⟨hi1, hi2, hv⟩ := hv
    rw [hv] at key
    split at hi
    . rename_i m e sz by' z y' ht hg
      split at hi
      . rename_i ei hei
        have hro := h.ob _ _ hg
        have hu := (hp.ti _ _ ht).kind.1
        have hTI := hp.ti _ _ hei
        cases hb : (y'.o.isVec X.pd e && (Nat.beq sub 0 && (Nat.beq i 0 && (Nat.ble m y'.n && !y'.row)))) with
        | true =>
          rw [hb] at hi
          simp only [cond_true, oi1, pi1] at hi
          obtain ⟨hg2, rfl⟩ := hi
          obtain ⟨k, rfl, hk⟩ := zcF hg2
          simp only [Bool.and_eq_true, Bool.not_eq_true'] at hb
          obtain ⟨hb1, hb2, hb3, hb4, hb5⟩ := hb
          have e1 := Nat.beq_true hb2
          have e2 := Nat.beq_true hb3
          subst e1; subst e2
          have e3 : m <= y'.n := by simpa [Nat.ble_eq] using hb4
          unfold O.isVec at hb1
          split at hb1
          . rename_i f l hf
            obtain ⟨ti2, h1, h2, h3⟩ := zbT hp hb1
            rw [hei] at h1; cases h1
            have hsz := hro.sz
            have hlen := hro.len
            rw [hf] at hsz hlen
            simp only [O.sz, O.len] at hsz hlen
            have hl := hro.nl hb5 (by omega) f l hf
            have hrun := zcG hu hTI (ρ id).blk (0 * (ρ id).sz + 0) j k hk w
            refine key ?_ hrun
            simp only [RC, Int.toNat_natCast]
            refine ⟨by omega, by rw [hsz]; exact zaK f, ?_⟩
            rw [hsz, h2]; simp
          . cases hb1
        | false =>
          rw [hb] at hi
          obtain ⟨hc1, hc2⟩ := zaa hi
          simp only [oi1, pi1] at hc2
          obtain ⟨hg2, rfl⟩ := hc2
          obtain ⟨k, rfl, hk⟩ := zcF hg2
          simp only [Bool.and_eq_true] at hc1
          have e1 : sub + m * ei.size <= y'.o.sz := by simpa [Nat.ble_eq] using hc1.1
          have e2 : 0 < ei.size := by simpa [Nat.blt_eq] using hc1.2
          have hrun := zcG hu hTI (ρ id).blk (i * (ρ id).sz + sub) j k hk w
          refine key ?_ hrun
          simp only [RC, Int.toNat_natCast]
          have : (k + 1) * ei.size <= m * ei.size := Nat.mul_le_mul_right _ hk
          rw [Nat.add_mul, Nat.one_mul] at this
          refine ⟨hi1, by rw [hro.sz]; omega, by rw [Nat.add_assoc]⟩
      . cases hi
    . cases hi
  . rename_i f l i sub
    obtain ⟨hi1, hi2, b, off, hv, hok, g, hg1, hg2⟩ := hv
    rw [hv] at key
    split at hi
    . rename_i m e sz by' z ht
      split at hi
      . rename_i ei hei
        have hu := (hp.ti _ _ ht).kind.1
        have hTI := hp.ti _ _ hei
        obtain ⟨hc1, hc2⟩ := zaa hi
        simp only [oi1, pi1] at hc2
        obtain ⟨hgd, rfl⟩ := hc2
        obtain ⟨k, rfl, hk⟩ := zcF hgd
        simp only [Bool.and_eq_true] at hc1
        have e1 : sub + m * ei.size <= f.size := by simpa [Nat.ble_eq] using hc1.1
        have e2 : 0 < ei.size := by simpa [Nat.blt_eq] using hc1.2
        have hrun := zcG hu hTI b (off + (i * f.size + sub)) j k hk w
        refine key ?_ hrun
        simp only [RC, Int.toNat_natCast]
        have : (k + 1) * ei.size <= m * ei.size := Nat.mul_le_mul_right _ hk
        rw [Nat.add_mul, Nat.one_mul] at this
        exact ⟨hi1, by omega, b, off, by congr 3; omega, hok, g, hg1, hg2⟩
      . cases hi
    . cases hi
  . rename_i id
    obtain ⟨hv, _⟩ := hv
    split at hi
    . rename_i n' ty e l hg
      obtain ⟨hc1, hc2⟩ := zaa hi
      obtain ⟨et, ei, hu, hei, hsz, _⟩ := zcl hp hc1
      simp only [oi1, pi1] at hc2
      obtain ⟨hgd, rfl⟩ := hc2
      obtain ⟨k, rfl, hk⟩ := zcF hgd
      have hro := h.ob _ _ hg
      rcases zb4 hro with ⟨_, rfl⟩ | ⟨cap, h1, _⟩
      . simp at hk
      . rw [hv, h1] at key
        have hrun := zaY hu (hp.ti _ _ hei) (ρ id).blk 0 l.length cap j k hk w
        refine key ?_ hrun
        simp only [RC, Int.toNat_natCast]
        have e1 := hro.sz
        have e2 := hro.len
        simp only [O.sz, O.len] at e1 e2
        exact ⟨by omega, by rw [e1]; exact zaK e, by rw [e1, hsz]; simp⟩
    . cases hi
  . rename_i id i m
    obtain ⟨hlen, cap, hcap, hmax, _, hv⟩ := hv
    split at hi
    . rename_i rw' n' ty e l hg
      obtain ⟨hc1, hc2⟩ := zaa hi
      obtain ⟨et, ei, hu, hei, hsz, _⟩ := zcl hp hc1
      simp only [oi1, pi1] at hc2
      obtain ⟨hgd, rfl⟩ := hc2
      obtain ⟨k, rfl, hk⟩ := zcF hgd
      rcases hv with hv | ⟨hm0, _⟩
      . rw [hv] at key
        have hro := h.ob _ _ hg
        have hrun := zaY hu (hp.ti _ _ hei) (ρ id).blk (i * (ρ id).sz) m cap j k hk w
        refine key ?_ hrun
        simp only [RC, Int.toNat_natCast]
        have e1 := hro.sz
        simp only [O.sz] at e1
        exact ⟨by omega, by rw [e1]; exact zaK e, by rw [e1, hsz, Nat.add_mul]; simp⟩
      . omega
    . cases hi
  . rename_i id i m cc
    obtain ⟨hcap, hmax, hlen, hv⟩ := hv
    split at hi
    . rename_i rw' n' ty e l hg
      obtain ⟨hc1, hc2⟩ := zaa hi
      obtain ⟨et, ei, hu, hei, hsz, _⟩ := zcl hp hc1
      simp only [oi1, pi1] at hc2
      obtain ⟨hgd, rfl⟩ := hc2
      obtain ⟨k, rfl, hk⟩ := zcF hgd
      rw [hv] at key
      have hro := h.ob _ _ hg
      have hrun := zaY hu (hp.ti _ _ hei) (ρ id).blk (i * (ρ id).sz) m cc j k hk w
      refine key ?_ hrun
      simp only [RC, Int.toNat_natCast]
      have e1 := hro.sz
      simp only [O.sz] at e1
      exact ⟨by omega, by rw [e1]; exact zaK e, by rw [e1, hsz, Nat.add_mul]; simp⟩
    . cases hi
  . rename_i e l
    obtain ⟨hc1, hc2⟩ := zaa hi
    obtain ⟨et, ei, hu, hei, hsz, _⟩ := zcl hp hc1
    simp only [oi1, pi1] at hc2
    obtain ⟨hgd, rfl⟩ := hc2
    obtain ⟨k, rfl, hk⟩ := zcF hgd
    have hv : Holds X.w0 X.ok (.ro e l) (a.eval x) := hv
    generalize a.eval x = vx at hv key
    cases hv with
    | sc h => cases h
    | ro f h1 h2 h3 h4 h5 =>
      rename_i b off cap
      have hrun := zaY hu (hp.ti _ _ hei) b off l.length cap j k hk w
      refine key ?_ hrun
      simp only [RC, Int.toNat_natCast]
      exact ⟨hk, zaK e, b, off, by rw [hsz]; simp, h3, f, h4, h5⟩
    | emp => simp at hk
  . rename_i l
    obtain ⟨hc1, hc2⟩ := zaa hi
    unfold PD.slTn at hc1
    split at hc1
    case h_2 => cases hc1
    rename_i et sz by' z ht
    unfold PD.isTn at hc1
    split at hc1
    case h_2 => cases hc1
    rename_i fs by2 z2 het
    have hu := (hp.ti _ _ ht).kind
    simp only [oi1, pi1] at hc2
    obtain ⟨hgd, rfl⟩ := hc2
    obtain ⟨k, rfl, hk⟩ := zcF hgd
    have hv : Holds X.w0 X.ok (.rt l) (a.eval x) := hv
    generalize a.eval x = vx at hv key
    cases hv with
    | sc h => cases h
    | rt f h1 h2 h3 h4 h5 =>
      rename_i b off cap
      have hrun := zaY hu (hp.ti _ _ het) b off l.length cap j k hk w
      refine key ?_ hrun
      simp only [RC, Int.toNat_natCast]
      exact ⟨hk, by decide, b, off, by simp, h3, f, h4, h5⟩
    | rtemp => simp at hk
  . rename_i id off f m
    obtain ⟨hl1, hl2, hl3, hv⟩ := hv
    rw [hv] at key
    split at hi
    . rename_i et sz by' z rw' n' ty l ht hg
      split at hi
      . rename_i ei hei
        obtain ⟨hc1, hc2⟩ := zaa hi
        simp only [oi1, pi1] at hc2
        obtain ⟨hgd, rfl⟩ := hc2
        obtain ⟨k, rfl, hk⟩ := zcF hgd
        simp only [Bool.and_eq_true] at hc1
        have e1 : off + m * ei.size <= l.length := by simpa [Nat.ble_eq] using hc1.2
        have e2 : 0 < ei.size := by simpa [Nat.blt_eq] using hc1.1
        have hu := (hp.ti _ _ ht).kind
        have hro := h.ob _ _ hg
        have hsz := hro.sz
        simp only [O.sz] at hsz
        have hrun := zaY hu (hp.ti _ _ hei) (ρ id).blk off m m j k hk w
        refine key ?_ hrun
        simp only [RC, Int.toNat_natCast]
        have : (k + 1) * ei.size <= m * ei.size := Nat.mul_le_mul_right _ hk
        rw [Nat.add_mul, Nat.one_mul] at this
        exact ⟨by omega, by rw [hsz]; omega, by simp⟩
      . cases hi
    . cases hi
  . cases hi
theorem zfj {o : Oper} (hp : PDok X.P X.pd) (t : TypeId) (x : Operand) (f : Nat) (ho : o.op = .fieldAddr t x f) {fs : List (Nat × TypeId)} {sz by' : Nat} {z : List C} {off : Nat} {ft : TypeId} {rd : List Nat}
    (ht : X.pd.ti t = some ⟨.struct fs, sz, by', z⟩) (hf : fs[f]? = some (off, ft)) {fi : TI} (hfi : X.pd.ti ft = some fi) (hpos : 0 < fi.size) {c d : C} (hx : (X.pd.ev 0 s x).c? = some c)
    (hd : (∃ id i sub y, c = .ptr id i sub /\ d = .ptr id i (sub + off) /\ s.get id = some y /\ sub + off < y.o.sz) \/ (∃ e l i sub, c = .rop e l i sub /\ d = .rop e l i (sub + off) /\ sub + off < e.size) \/ ∃ l i sub, c = .rtp l i sub /\ d = .rtp l i (sub + off) /\ sub + off < 3) :
    Does X o s ⟨o.dst, .u (.c d), [], [], [], rd⟩ := by
  intro ρ a w Q h _
  have hv := ev_c h hx
  obtain ⟨⟨fields, hu, hfs, _⟩, _⟩ := (hp.ti _ _ ht).kind
  have hfield : ∃ fd : Field, fields[f]? = some fd /\ fd.offset = off /\ fd.type = ft := by
    rw [← hfs] at hf
    simp only [List.getElem?_map, Array.getElem?_toList] at hf
    cases hq : fields[f]? with
    | none => rw [hq] at hf; cases hf
    | some fd => rw [hq] at hf; simp at hf; exact ⟨fd, rfl, hf.1, hf.2⟩
  obtain ⟨fd, hfd, hoff, hty⟩ := hfield
  have run : ∀ b o', (Instr.fieldAt t (.pointer (some ⟨b, o', none⟩)) f).run X.P w = .ok (.pointer (some ⟨b, o' + off, none⟩)) w := fun b o' => by
    have h0 : fi.size ≠ 0 := by omega
    simp [Instr.fieldAt, Instr.sureAddr, run_underlying hu, hfd, fieldPlace, hty, TI.size_run (hp.ti _ _ hfi), h0, hoff, zaT]
  rcases hd with ⟨id, i, sub, y, rfl, rfl, hg, hlt⟩ | ⟨e, l, i, sub, rfl, rfl, hlt⟩ | ⟨l, i, sub, rfl, rfl, hlt⟩
  . obtain ⟨h1, h2, h3⟩ := hv
    refine zaW h (x := .pointer (some ⟨(ρ id).blk, i * (ρ id).sz + sub + off, none⟩)) ?_ (show RC X ρ (.ptr id i (sub + off)) _ from ⟨h1, by rw [(h.ob _ _ hg).sz]; exact hlt, by rw [Nat.add_assoc]⟩)
    simp [execOp, ho, h3, run]
  . obtain ⟨h1, h2, b, off', h3, h4, g, h5, h6⟩ := hv
    refine zaW h (x := .pointer (some ⟨b, off' + (i * e.size + sub) + off, none⟩)) ?_ (show RC X ρ (.rop e l i (sub + off)) _ from ⟨h1, hlt, b, off', by congr 3; omega, h4, g, h5, h6⟩)
    simp [execOp, ho, h3, run]
  . obtain ⟨h1, h2, b, off', h3, h4, g, h5, h6⟩ := hv
    refine zaW h (x := .pointer (some ⟨b, off' + (i * 3 + sub) + off, none⟩)) ?_ (show RC X ρ (.rtp l i (sub + off)) _ from ⟨h1, hlt, b, off', by congr 3; omega, h4, g, h5, h6⟩)
    simp [execOp, ho, h3, run]
end
end Go.Proofs.Ytgimohchocjgcaa.V
