import Derived.Test.YtgimohchocjgcaaVOP
import Derived.Test.YtgimohchocjgcaaVTM
set_option linter.unusedVariables false
set_option linter.unusedSimpArgs false
namespace Go.Proofs.Ytgimohchocjgcaa.V
section
open Go.ChangeShapes Go.WideShapes Go.ChangeAt Go.RowKit
deriving instance DecidableEq for CS
def elCS : El -> List CS
  | .u64 => [.u64]
  | .u32 => [.u32]
  | .u8 => [.u8]
  | .int => [.int]
  | .bool => [.bool]
  | .fr => [.u64, .u64, .u64, .u64]
  | .row => [.u64, .u64, .u64, .u64, .u64, .u64, .u64, .u64, .u64, .u64, .u64, .u64, .u64, .u64, .u64, .u64, .u64, .u64, .u64, .u64, .u64, .u64, .u64, .u64, .u64, .u64, .u64, .u64, .u64, .u64, .u64, .u64, .int, .int, .int]
  | .pair => [.int, .int]
  | .step => [.int, .int, .int, .int, .u64, .u64, .u64, .u64, .u64, .u64, .u64, .u64, .u64, .u64, .u64, .u64, .u64, .u64, .u64, .u64, .u64, .u64, .u64, .u64]
theorem zqz (e : El) : (elCS e).length = e.size := by cases e <;> rfl
theorem zqA : ∀ (e : El) (y : TCs (elCS e)), ∃ x : e.T, e.toC x = zcq (elCS e) y
  | .u64, y => ⟨y.1, rfl⟩
  | .u32, y => ⟨y.1, rfl⟩
  | .u8, y => ⟨y.1, rfl⟩
  | .int, y => ⟨y.1, rfl⟩
  | .bool, y => ⟨y.1, rfl⟩
  | .fr, y => ⟨(⟨y.1, y.2.1, y.2.2.1, y.2.2.2.1⟩ : Fr), rfl⟩
  | .row, y => ⟨(⟨⟨y.1, y.2.1, y.2.2.1, y.2.2.2.1⟩, ⟨y.2.2.2.2.1, y.2.2.2.2.2.1, y.2.2.2.2.2.2.1, y.2.2.2.2.2.2.2.1⟩, ⟨y.2.2.2.2.2.2.2.2.1, y.2.2.2.2.2.2.2.2.2.1, y.2.2.2.2.2.2.2.2.2.2.1, y.2.2.2.2.2.2.2.2.2.2.2.1⟩, ⟨y.2.2.2.2.2.2.2.2.2.2.2.2.1, y.2.2.2.2.2.2.2.2.2.2.2.2.2.1, y.2.2.2.2.2.2.2.2.2.2.2.2.2.2.1, y.2.2.2.2.2.2.2.2.2.2.2.2.2.2.2.1⟩, ⟨y.2.2.2.2.2.2.2.2.2.2.2.2.2.2.2.2.1, y.2.2.2.2.2.2.2.2.2.2.2.2.2.2.2.2.2.1, y.2.2.2.2.2.2.2.2.2.2.2.2.2.2.2.2.2.2.1, y.2.2.2.2.2.2.2.2.2.2.2.2.2.2.2.2.2.2.2.1⟩, ⟨y.2.2.2.2.2.2.2.2.2.2.2.2.2.2.2.2.2.2.2.2.1, y.2.2.2.2.2.2.2.2.2.2.2.2.2.2.2.2.2.2.2.2.2.1, y.2.2.2.2.2.2.2.2.2.2.2.2.2.2.2.2.2.2.2.2.2.2.1, y.2.2.2.2.2.2.2.2.2.2.2.2.2.2.2.2.2.2.2.2.2.2.2.1⟩, ⟨y.2.2.2.2.2.2.2.2.2.2.2.2.2.2.2.2.2.2.2.2.2.2.2.2.1, y.2.2.2.2.2.2.2.2.2.2.2.2.2.2.2.2.2.2.2.2.2.2.2.2.2.1, y.2.2.2.2.2.2.2.2.2.2.2.2.2.2.2.2.2.2.2.2.2.2.2.2.2.2.1, y.2.2.2.2.2.2.2.2.2.2.2.2.2.2.2.2.2.2.2.2.2.2.2.2.2.2.2.1⟩, ⟨y.2.2.2.2.2.2.2.2.2.2.2.2.2.2.2.2.2.2.2.2.2.2.2.2.2.2.2.2.1, y.2.2.2.2.2.2.2.2.2.2.2.2.2.2.2.2.2.2.2.2.2.2.2.2.2.2.2.2.2.1, y.2.2.2.2.2.2.2.2.2.2.2.2.2.2.2.2.2.2.2.2.2.2.2.2.2.2.2.2.2.2.1, y.2.2.2.2.2.2.2.2.2.2.2.2.2.2.2.2.2.2.2.2.2.2.2.2.2.2.2.2.2.2.2.1⟩, y.2.2.2.2.2.2.2.2.2.2.2.2.2.2.2.2.2.2.2.2.2.2.2.2.2.2.2.2.2.2.2.2.1, y.2.2.2.2.2.2.2.2.2.2.2.2.2.2.2.2.2.2.2.2.2.2.2.2.2.2.2.2.2.2.2.2.2.1, y.2.2.2.2.2.2.2.2.2.2.2.2.2.2.2.2.2.2.2.2.2.2.2.2.2.2.2.2.2.2.2.2.2.2.1⟩ : Row), rfl⟩
  | .pair, y => ⟨(⟨y.1, y.2.1⟩ : Pr), rfl⟩
  | .step, y => ⟨(⟨y.1, y.2.1, y.2.2.1, y.2.2.2.1, ⟨y.2.2.2.2.1, y.2.2.2.2.2.1, y.2.2.2.2.2.2.1, y.2.2.2.2.2.2.2.1⟩, ⟨y.2.2.2.2.2.2.2.2.1, y.2.2.2.2.2.2.2.2.2.1, y.2.2.2.2.2.2.2.2.2.2.1, y.2.2.2.2.2.2.2.2.2.2.2.1⟩, ⟨y.2.2.2.2.2.2.2.2.2.2.2.2.1, y.2.2.2.2.2.2.2.2.2.2.2.2.2.1, y.2.2.2.2.2.2.2.2.2.2.2.2.2.2.1, y.2.2.2.2.2.2.2.2.2.2.2.2.2.2.2.1⟩, ⟨y.2.2.2.2.2.2.2.2.2.2.2.2.2.2.2.2.1, y.2.2.2.2.2.2.2.2.2.2.2.2.2.2.2.2.2.1, y.2.2.2.2.2.2.2.2.2.2.2.2.2.2.2.2.2.2.1, y.2.2.2.2.2.2.2.2.2.2.2.2.2.2.2.2.2.2.2.1⟩, ⟨y.2.2.2.2.2.2.2.2.2.2.2.2.2.2.2.2.2.2.2.2.1, y.2.2.2.2.2.2.2.2.2.2.2.2.2.2.2.2.2.2.2.2.2.1, y.2.2.2.2.2.2.2.2.2.2.2.2.2.2.2.2.2.2.2.2.2.2.1, y.2.2.2.2.2.2.2.2.2.2.2.2.2.2.2.2.2.2.2.2.2.2.2.1⟩⟩ : Stp), rfl⟩
theorem zgk : ∀ (l m : List CS) (y : TCs l) (z : TCs m), ∃ w : TCs (l ++ m), zcq (l ++ m) w = zcq l y ++ zcq m z
  | [], m, _, z => ⟨z, rfl⟩
  | c :: l, m, y, z => by
    obtain ⟨w, hw⟩ := zgk l m y.2 z
    exact ⟨(y.1, w), by simp only [List.cons_append, zcq]; rw [hw]⟩
def zkt (l : List CS) : Nat -> List CS
  | 0 => []
  | n + 1 => l ++ zkt l n
def zoO (g : TypeId -> Option (List CS)) (sz : TypeId -> Nat) : List Field -> Nat -> Option (List CS)
  | [], _ => some []
  | f :: fs, off => match g f.type with
    | some l => cond (Nat.beq f.offset off && Nat.beq (sz f.type) l.length) (match zoO g sz fs (off + l.length) with | some m => some (l ++ m) | none => none) none
    | none => none
def shp (P : Program) (els : List (Nat × El)) : Nat -> TypeId -> Option (List CS)
  | 0, _ => none
  | k + 1, t => match P.underlying t with
    | some .bool => some [.bool]
    | some (.int .u64) => some [.u64]
    | some (.int .u32) => some [.u32]
    | some (.int .u8) => some [.u8]
    | some (.int .i64) => some [.int]
    | some .string => some [.str]
    | some (.slice e) => match look e els, shp P els k e with
      | some el, some l => cond (decide (l = elCS el) && Nat.beq (P.cellsOf e) l.length) (some [.ro el]) none
      | _, _ => none
    | some (.struct fs) => match zoO (shp P els k) P.cellsOf fs.toList 0 with
      | some l => cond (Nat.beq (P.cellsOf t) l.length) (some l) none
      | none => none
    | some (.array n e) => match shp P els k e with
      | some l => cond (Nat.beq (P.cellsOf e) l.length && Nat.beq (P.cellsOf t) (n * l.length)) (some (zkt l n)) none
      | none => none
    | _ => none
theorem zhh {w : World} {ok : Nat -> Prop} : ∀ {l : List C} {vs : List Value}, zbk w ok l vs -> ∀ (j : Nat) (c : C), l[j]? = some c -> ∃ v, vs[j]? = some v /\ Holds w ok c v
  | [], [], _, j, c, h => by simp at h
  | a :: l, v :: vs, h, 0, c, hc => by simp at hc; subst hc; exact ⟨v, rfl, h.1⟩
  | a :: l, v :: vs, h, j + 1, c, hc => by
    obtain ⟨x, h1, h2⟩ := zhh h.2 j c (by simpa using hc)
    exact ⟨x, by simpa using h1, h2⟩
  | [], _ :: _, h, _, _, _ => h.elim
  | _ :: _, [], h, _, _, _ => h.elim
theorem zeL {w : World} {ok : Nat -> Prop} : ∀ {l m : List C} {vs ws : List Value}, zbk w ok l vs -> zbk w ok m ws -> zbk w ok (l ++ m) (vs ++ ws)
  | [], m, [], ws, _, h => h
  | c :: l, m, v :: vs, ws, h, g => ⟨h.1, zeL h.2 g⟩
  | [], _, _ :: _, _, h, _ => h.elim
  | _ :: _, _, [], _, h, _ => h.elim
theorem zli {α : Type} (cs : List α) (off a b : Nat) : (cs.drop off).take (a + b) = (cs.drop off).take a ++ (cs.drop (off + a)).take b := by
  rw [List.take_add, List.drop_drop]
section
variable {P : Program} {els : List (Nat × El)} {W : World} {H : Type} {enc : TypeId × Value -> H}
abbrev Okb (W : World) : Nat -> Prop := fun b => b < W.heap.size
def zoP (P : Program) (W : World) {H : Type} (enc : TypeId × Value -> H) (t : TypeId) (l : List CS) : Prop :=
  ∀ (fuel : Nat) (cs : List Value) (x : DataW H × List MemPlace), DataW.trod enc P W 0 (fun _ => true) true fuel t cs = some x -> ∃ y : TCs l, zbk W (Okb W) (zcq l y) cs
theorem zeZ {g : TypeId -> Option (List CS)} (hg : ∀ t l, g t = some l -> zoP P W enc t l) {m : Nat} {cs : List Value} : ∀ (fs : List Field) (off : Nat) (l : List CS), zoO g P.cellsOf fs off = some l ->
    (∀ f ∈ fs, ∃ x, DataW.trod enc P W 0 (fun _ => true) true m f.type ((cs.drop f.offset).take (P.cellsOf f.type)) = some x) -> ∃ y : TCs l, zbk W (Okb W) (zcq l y) ((cs.drop off).take l.length)
  | [], off, l, h, _ => by
    simp only [zoO, Option.some.injEq] at h
    subst h
    exact ⟨(), trivial⟩
  | f :: fs, off, l, h, hx => by
    simp only [zoO] at h
    split at h
    . rename_i l1 h1
      obtain ⟨hc, h⟩ := zaa h
      simp only [Bool.and_eq_true] at hc
      have e1 := Nat.beq_true hc.1
      have e2 := Nat.beq_true hc.2
      split at h
      . rename_i l2 h2
        cases h
        obtain ⟨x, hx1⟩ := hx f (by simp)
        obtain ⟨y, hy⟩ := hg _ _ h1 _ _ _ hx1
        obtain ⟨z, hz⟩ := zeZ hg fs _ _ h2 (fun f hf => hx f (by simp [hf]))
        obtain ⟨w, hw⟩ := zgk l1 l2 y z
        refine ⟨w, ?_⟩
        rw [hw, List.length_append, zli]
        rw [e1, e2] at hy
        exact zeL hy hz
      . cases h
    . cases h
theorem zgl {e : TypeId} {l : List CS} (hg : zoP P W enc e l) {m sz : Nat} (hs : sz = l.length) {cs : List Value} : ∀ (n i : Nat),
    (∀ j, j < n -> ∃ x, DataW.trod enc P W 0 (fun _ => true) true m e ((cs.drop ((i + j) * sz)).take sz) = some x) -> ∃ y : TCs (zkt l n), zbk W (Okb W) (zcq (zkt l n) y) ((cs.drop (i * sz)).take (n * sz))
  | 0, i, _ => ⟨(), by rw [Nat.zero_mul, List.take_zero]; trivial⟩
  | n + 1, i, h => by
    obtain ⟨x, hx⟩ := h 0 (by omega)
    obtain ⟨y, hy⟩ := hg _ _ _ hx
    obtain ⟨z, hz⟩ := zgl hg hs n (i + 1) (fun j hj => by
      obtain ⟨x, hx⟩ := h (j + 1) (by omega)
      exact ⟨x, by rw [show i + 1 + j = i + (j + 1) by omega]; exact hx⟩)
    obtain ⟨w, hw⟩ := zgk l (zkt l n) y z
    refine ⟨w, ?_⟩
    rw [show zcq (zkt l (n + 1)) w = zcq l y ++ zcq (zkt l n) z from hw, show (n + 1) * sz = sz + n * sz by rw [Nat.succ_mul, Nat.add_comm], zli]
    rw [Nat.add_zero] at hy
    refine zeL hy ?_
    rw [show i * sz + sz = (i + 1) * sz by rw [Nat.succ_mul]]
    exact hz
theorem zq6 {a : Addr} (hs : a.spot = none) (i : Nat) : a.add i = ⟨a.block, a.off + i, none⟩ := by
  obtain ⟨b, off, spot⟩ := a
  simp only at hs
  subst hs
  unfold Addr.add
  split
  . rename_i h; subst h; rfl
  . rfl
theorem zoQ {a : Addr} {v : Value} (h : W.cell? a = some v) : a.spot = none /\ a.block < W.heap.size := by
  unfold World.cell? at h
  split at h
  . rename_i cs _ _ hb
    refine ⟨?_, (Array.getElem?_eq_some_iff.1 hb).1⟩
    cases hs : a.spot with
    | none => rfl
    | some q => rw [hs] at h; simp at h
  . cases h
theorem zml (e : El) (l : List e.T) (j : Nat) (c : C) (h : (flat e l)[j]? = some c) : ∃ i k x, j = i * e.size + k /\ k < e.size /\ l[i]? = some x /\ (e.toC x)[k]? = some c := by
  induction l generalizing j with
  | nil => simp [flat] at h
  | cons x l ih =>
    simp only [flat] at h
    have hl := zaI e x
    by_cases hj : j < e.size
    . rw [List.getElem?_append_left (by omega)] at h
      exact ⟨0, j, x, by simp, hj, rfl, h⟩
    . rw [List.getElem?_append_right (by omega), hl] at h
      obtain ⟨i, k, y, h1, h2, h3, h4⟩ := ih _ h
      exact ⟨i + 1, k, y, by rw [Nat.succ_mul]; omega, h2, by simpa using h3, h4⟩
theorem zku {t e : TypeId} {el : El} (ht : P.underlying t = some (.slice e)) (hc : P.cellsOf e = el.size) (hg : zoP P W enc e (elCS el)) : zoP P W enc t [.ro el] := by
  intro fuel cs x h
  rcases DataW.trod_slice ht h with ⟨rfl, _⟩ | ⟨a, len, cap, elems, rest, n, _, rfl, _, hb, hl, hm, hlen, hel, _, _⟩
  . exact ⟨(([] : List el.T), ()), .emp, trivial⟩
  . cases hn : len with
    | zero => exact ⟨(([] : List el.T), ()), .emp, trivial⟩
    | succ len' =>
      have hpos := zaA el
      have each : ∀ i, i < len -> ∃ (vs : List Value) (x : el.T), vs.length = el.size /\ (∀ k, k < el.size -> W.cell? ((a.add (i * el.size)).add k) = vs[k]?) /\ zbk W (Okb W) (el.toC x) vs := by
        intro i hi
        have h1 := hel i hi
        rw [hc] at h1
        obtain ⟨y, hy⟩ : ∃ y, elems[i]? = some y := ⟨_, List.getElem?_eq_getElem (by omega)⟩
        rw [hy, Option.bind_eq_some_iff] at h1
        obtain ⟨vs, h2, h3⟩ := h1
        obtain ⟨_, h4, h5⟩ := World.cells?_some h2
        obtain ⟨z, hz⟩ := hg _ _ _ h3
        obtain ⟨q, hq⟩ := zqA el z
        exact ⟨vs, q, h4, h5, by rw [hq]; exact hz⟩
      have hspot : a.spot = none /\ a.block < W.heap.size := by
        obtain ⟨vs, q, h1, h2, _⟩ := each 0 (by omega)
        obtain ⟨v, hv⟩ : ∃ v, vs[0]? = some v := ⟨_, List.getElem?_eq_getElem (by omega)⟩
        have h3 := h2 0 hpos
        rw [hv] at h3
        exact zoQ (a := a) (by simpa [Addr.add] using h3)
      obtain ⟨b, off, spot⟩ := a
      obtain ⟨hs, hbk⟩ := hspot
      simp only at hs hbk
      subst hs
      have each' : ∀ i, i < len -> ∃ (x : el.T) (vs : List Value), vs.length = el.size /\ (∀ k, k < el.size -> W.cell? ⟨b, off + i * el.size + k, none⟩ = vs[k]?) /\ zbk W (Okb W) (el.toC x) vs := by
        intro i hi
        obtain ⟨vs, q, h1, h2, h3⟩ := each i hi
        refine ⟨q, vs, h1, fun k hk => ?_, h3⟩
        have h4 := h2 k hk
        rw [zq6 (a := ⟨b, off, none⟩) rfl, zq6 rfl] at h4
        exact h4
      have hx : ∃ f : Nat -> el.T, ∀ i, i < len -> ∃ vs : List Value, vs.length = el.size /\ (∀ k, k < el.size -> W.cell? ⟨b, off + i * el.size + k, none⟩ = vs[k]?) /\ zbk W (Okb W) (el.toC (f i)) vs := by
        refine ⟨fun i => if h : i < len then Classical.choose (each' i h) else el.zero, fun i hi => ?_⟩
        simp only [dif_pos hi]
        exact Classical.choose_spec (each' i hi)
      obtain ⟨f, hf⟩ := hx
      have hlen2 : ((List.range len).map f).length = len := by simp
      have key : ∀ (j : Nat) (c : C), (flat el ((List.range len).map f))[j]? = some c -> ∃ v, W.cell? ⟨b, off + j, none⟩ = some v /\ Holds W (Okb W) c v := by
        intro j c hj
        obtain ⟨i, k, y, h1, h2, h3, h4⟩ := zml el _ j c hj
        have hi : i < len := by have := (List.getElem?_eq_some_iff.1 h3).1; simpa using this
        have hy : y = f i := by
          rw [List.getElem?_map, List.getElem?_range hi] at h3
          simpa using h3.symm
        obtain ⟨vs, g1, g2, g3⟩ := hf i hi
        obtain ⟨v, g4, g5⟩ := zhh g3 k c (by rw [← hy]; exact h4)
        refine ⟨v, ?_, g5⟩
        rw [h1, ← Nat.add_assoc, g2 k h2, g4]
      refine ⟨((List.range len).map f, ()), ?_, trivial⟩
      have := Holds.ro (w := W) (ok := Okb W) (e := el) (l := (List.range len).map f) (b := b) (off := off) (cap := cap) (fun j => (W.cell? ⟨b, off + j, none⟩).getD undef) (by rw [hlen2]; exact hl) hm hbk (fun j c hj => ?_) (fun j c hj => ?_)
      . rw [hlen2] at this
        rw [← hn]
        exact this
      . obtain ⟨v, h1, _⟩ := key j c hj
        simp only [h1, Option.getD_some]
      . obtain ⟨v, h1, h2⟩ := key j c hj
        simp only [h1, Option.getD_some]
        exact h2
theorem zlj (els : List (Nat × El)) : ∀ (k : Nat) (t : TypeId) (l : List CS), shp P els k t = some l -> zoP P W enc t l
  | 0, t, l, h => by cases h
  | k + 1, t, l, h => by
    have ih := zlj els k
    unfold shp at h
    split at h
    . rename_i hu
      cases h
      intro fuel cs x hx
      obtain ⟨b, rfl, _⟩ := DataW.trod_bool hu hx
      exact ⟨(b, ()), .sc rfl, trivial⟩
    . rename_i hu
      cases h
      intro fuel cs x hx
      obtain ⟨n, rfl, _, hw⟩ := DataW.trod_int hu hx
      have := bounds_u64 hw
      refine ⟨(UInt64.ofNat n.toNat, ()), .sc ?_, trivial⟩
      simp only [CS.enc, C.val, Option.some.injEq, Value.int.injEq, true_and]
      rw [UInt64.toNat_ofNat']
      omega
    . rename_i hu
      cases h
      intro fuel cs x hx
      obtain ⟨n, rfl, _, hw⟩ := DataW.trod_int hu hx
      have := bounds_u32 hw
      refine ⟨(UInt32.ofNat n.toNat, ()), .sc ?_, trivial⟩
      simp only [CS.enc, C.val, Option.some.injEq, Value.int.injEq, true_and]
      rw [UInt32.toNat_ofNat']
      omega
    . rename_i hu
      cases h
      intro fuel cs x hx
      obtain ⟨n, rfl, _, hw⟩ := DataW.trod_int hu hx
      have := bounds_u8 hw
      refine ⟨(UInt8.ofNat n.toNat, ()), .sc ?_, trivial⟩
      simp only [CS.enc, C.val, Option.some.injEq, Value.int.injEq, true_and]
      rw [UInt8.toNat_ofNat']
      omega
    . rename_i hu
      cases h
      intro fuel cs x hx
      obtain ⟨n, rfl, _, _⟩ := DataW.trod_int hu hx
      exact ⟨(n, ()), .sc rfl, trivial⟩
    . rename_i hu
      cases h
      intro fuel cs x hx
      obtain ⟨s, rfl, _, _⟩ := DataW.trod_string hu hx
      exact ⟨(s.data.toList, ()), .sc rfl, trivial⟩
    . rename_i e hu
      split at h
      . rename_i el l1 he hl1
        obtain ⟨hc, h⟩ := zaa h
        cases h
        simp only [Bool.and_eq_true, decide_eq_true_eq] at hc
        have e2 := Nat.beq_true hc.2
        rw [hc.1] at hl1 e2
        rw [zqz] at e2
        exact zku hu e2 (ih _ _ hl1)
      . cases h
    . rename_i fs hu
      split at h
      . rename_i l1 hl1
        obtain ⟨hc, h⟩ := zaa h
        cases h
        have e2 := Nat.beq_true hc
        intro fuel cs x hx
        obtain ⟨xs, n, _, _, h3, h4, h5⟩ := DataW.trod_struct hu hx
        obtain ⟨y, hy⟩ := zeZ (P := P) (W := W) (enc := enc) ih (m := n) (cs := cs) fs.toList 0 _ hl1 (fun f hf => by
          obtain ⟨i, hi, hfi⟩ := List.mem_iff_getElem.1 hf
          have h6 := h5 i f (by rw [← Array.getElem?_toList, List.getElem?_eq_getElem hi, hfi])
          have hi2 : i < xs.length := by rw [h4]; simpa using hi
          rw [List.getElem?_eq_getElem hi2] at h6
          exact ⟨_, h6⟩)
        refine ⟨y, ?_⟩
        rw [List.drop_zero, List.take_of_length_le (by omega)] at hy
        exact hy
      . cases h
    . rename_i n e hu
      split at h
      . rename_i l1 hl1
        obtain ⟨hc, h⟩ := zaa h
        cases h
        simp only [Bool.and_eq_true] at hc
        have e1 := Nat.beq_true hc.1
        have e2 := Nat.beq_true hc.2
        intro fuel cs x hx
        obtain ⟨xs, m, _, _, h3, h4, h5⟩ := DataW.trod_array hu hx
        obtain ⟨y, hy⟩ := zgl (ih _ _ hl1) (m := m) (sz := l1.length) rfl (cs := cs) n 0 (fun j hj => by
          have h6 := h5 j hj
          rw [e1] at h6
          have hi2 : j < xs.length := by omega
          rw [List.getElem?_eq_getElem hi2] at h6
          rw [Nat.zero_add]
          exact ⟨_, h6⟩)
        refine ⟨y, ?_⟩
        rw [Nat.zero_mul, List.drop_zero, List.take_of_length_le (by omega)] at hy
        exact hy
      . cases h
    . cases h
end
structure KQ where
  k : K
  q : k.T -> Prop
def TKQ : (l : List KQ) -> TKs (l.map KQ.k) -> Prop
  | [], _ => True
  | a :: l, x => a.q x.1 /\ TKQ l x.2
def zoR (P : Program) (a : KQ) (t : TypeId) : Prop :=
  ∀ (H : Type) (enc : TypeId × Value -> H) (W : World) (base : Nat) (v : Value) (d : DataW H) (p : List MemPlace), Value.okWide P W .any base t v -> DataW.Trod enc P W 0 (fun _ => true) true t v d p ->
    ∃ x : a.k.T, a.q x /\ zgE W (fun b => b < W.heap.size) (a.k.enc x) v
def zi8 (P : Program) : List KQ -> List TypeId -> Prop
  | [], [] => True
  | k :: ks, t :: ts => zoR P k t /\ zi8 P ks ts
  | _, _ => False
theorem zgm {P : Program} {H : Type} {enc : TypeId × Value -> H} {W : World} {base : Nat} : ∀ {ks : List KQ} {ts : List TypeId} {vs : List Value} {ds : List (DataW H)} {p : List MemPlace}, zi8 P ks ts -> DataW.TrodAll enc P W 0 (fun _ => true) true ts vs ds p ->
    (∀ (j : Nat) t v, ts[j]? = some t -> vs[j]? = some v -> Value.okWide P W .any base t v) -> ∃ x : TKs (ks.map KQ.k), TKQ ks x /\ zaV W (fun b => b < W.heap.size) (zec (ks.map KQ.k) x) vs
  | [], [], [], [], _, _, _, _ => ⟨(), trivial, trivial⟩
  | k :: ks, t :: ts, v :: vs, d :: ds, p, ho, ht, hv => by
    obtain ⟨p1, q1, h1, h2, _⟩ := ht
    obtain ⟨x, hx0, hx⟩ := ho.1 H enc W base v d p1 (hv 0 t v rfl rfl) h1
    obtain ⟨y, hy0, hy⟩ := zgm ho.2 h2 fun j t v hj hw => hv (j + 1) t v (by simpa using hj) (by simpa using hw)
    exact ⟨(x, y), ⟨hx0, hy0⟩, hx, hy⟩
  | [], _ :: _, _, _, _, ho, _, _ => ho.elim
  | _ :: _, [], _, _, _, ho, _, _ => ho.elim
  | [], [], _ :: _, _, _, _, ht, _ => by cases ht
  | [], [], [], _ :: _, _, _, ht, _ => by cases ht
  | _ :: _, _ :: _, [], _, _, _, ht, _ => by cases ht
  | _ :: _, _ :: _, _ :: _, [], _, _, ht, _ => by cases ht
def KQ.any (k : K) : KQ := ⟨k, fun _ => True⟩
theorem zoS {P : Program} {k : K} {t : TypeId} (h : zv0 P k t) : zoR P (KQ.any k) t := fun H enc W base v d p hv ht => by
  obtain ⟨x, hx⟩ := h H enc W base v d p hv ht
  exact ⟨x, trivial, hx⟩
def isAgg : TypeDesc -> Bool
  | .struct _ => true
  | .array _ _ => true
  | _ => false
theorem zmm {P : Program} {els : List (Nat × El)} {t e : TypeId} {el : El} (k : Nat) (hu : P.underlying t = some (.slice e)) (hs : shp P els k t = some [.ro el]) : zv0 P (K.ro el) t := fun H enc W base v d p hv ht => by
  obtain ⟨ad, n, c, rfl⟩ := okWide_slice hu hv
  obtain ⟨fuel, hf⟩ := ht
  obtain ⟨y, hy⟩ := zlj (W := W) (enc := enc) els k t _ hs _ _ _ hf
  exact ⟨y.1, hy.1⟩
def KQ.vec (e : El) (n : Nat) : KQ := ⟨K.vec e, fun l => l.length = n⟩
theorem zmn {P : Program} {pd : PD} (hp : PDok P pd) {env : Nat -> Option Sg} (henv : ∀ f g, env f = some g -> SgOK P pd.els f g) {n : FuncId} {fn : Func} (hf : P.funcs[n]? = some fn) (hname : fn.name ≠ "runtime.NumGoroutine")
    (ps : List K) (f : TKs ps -> Option (TKs [K.bool])) (N : Nat) (tab : List (Nat × Head)) (d : Nat)
    (hrun : ∀ x, zib pd env fn (zb1 [K.bool]) (mkLp pd env (zbQ pd fn (zb1 [K.bool])) N tab d) (zec ps x) = f x)
    (x : TKs ps) (hx : f x = some (true, ())) (w : World) (vs : List Value) (ok : Nat -> Prop) (hok : ∀ b, ok b -> b < w.heap.size) (hh : zaV w ok (zec ps x) vs) :
    Calls P n vs.toArray w fun e w' => e = .returned (.bool true) /\ Kept w w' := by
  have h := zpA (P := P) (pd := pd) hp henv hf hname ⟨TKs [K.bool], 0, fun us => zib pd env fn (zb1 [K.bool]) (mkLp pd env (zbQ pd fn (zb1 [K.bool])) N tab d) us, fun r => zlU (zec [K.bool] r)⟩ rfl (zb1 [K.bool])
    (fun us r h => by rw [zbx h]) N tab d (fun us r h => h) (us := zec ps x) (r := (true, ())) ((hrun x).trans hx) w vs ok hok hh
  refine h.mono fun e w' he => ?_
  cases e with
  | returned v =>
    obtain ⟨⟨gs, cs, h1, h2⟩, h3⟩ := he
    refine ⟨?_, h3⟩
    cases h1 with
    | c h4 =>
      cases h4
      cases h2 with
      | sc h5 _ => simp only [C.val, Option.some.injEq] at h5; subst h5; rfl
  | panicked ch => exact he.elim
  | outgrown => exact he.elim
end
section
open Go.ChangeShapes Go.WideShapes Go.ChangeAt Go.RowKit
theorem oq81 : zoR Try.prog (KQ.any (K.ro .step)) 81 := zoS (zmm (els := pd.els) 7 Try.underlying81 (by kernel_rfl))
end
section
def KQ.ro (e : El) : KQ := ⟨K.ro e, fun l => (show List e.T from l).length < 9223372036854775808⟩
end
end Go.Proofs.Ytgimohchocjgcaa.V
