import Derived.Test.YtgimohchocjgcaaVOP
import Derived.Test.YtgimohchocjgcaaVTL
set_option linter.unusedVariables false
set_option linter.unusedSimpArgs false
namespace Go.Proofs.Ytgimohchocjgcaa.V
section
open Go.ChangeShapes Go.WideShapes Go.ChangeAt Go.RowKit
deriving instance DecidableEq for CS
def elCS : El -> List CS
  | .u64 => [.u64]
  | .u32 => [.u32]
  | .u8 => [.u8]
  | .int => [.int]
  | .bool => [.bool]
  | .fr => [.u64, .u64, .u64, .u64]
  | .row => [.u64, .u64, .u64, .u64, .u64, .u64, .u64, .u64, .u64, .u64, .u64, .u64, .u64, .u64, .u64, .u64, .u64, .u64, .u64, .u64, .u64, .u64, .u64, .u64, .u64, .u64, .u64, .u64, .u64, .u64, .u64, .u64, .int, .int, .int]
  | .pair => [.int, .int]
  | .step => [.int, .int, .int, .int, .u64, .u64, .u64, .u64, .u64, .u64, .u64, .u64, .u64, .u64, .u64, .u64, .u64, .u64, .u64, .u64, .u64, .u64, .u64, .u64]
theorem zoW (e : El) : (elCS e).length = e.size := by cases e <;> rfl
theorem zjn : ∀ (e : El) (y : TCs (elCS e)), ∃ x : e.T, e.toC x = zbh (elCS e) y
  | .u64, y => ⟨y.1, rfl⟩
  | .u32, y => ⟨y.1, rfl⟩
  | .u8, y => ⟨y.1, rfl⟩
  | .int, y => ⟨y.1, rfl⟩
  | .bool, y => ⟨y.1, rfl⟩
  | .fr, y => ⟨(⟨y.1, y.2.1, y.2.2.1, y.2.2.2.1⟩ : Fr), rfl⟩
  | .row, y => ⟨(⟨⟨y.1, y.2.1, y.2.2.1, y.2.2.2.1⟩, ⟨y.2.2.2.2.1, y.2.2.2.2.2.1, y.2.2.2.2.2.2.1, y.2.2.2.2.2.2.2.1⟩, ⟨y.2.2.2.2.2.2.2.2.1, y.2.2.2.2.2.2.2.2.2.1, y.2.2.2.2.2.2.2.2.2.2.1, y.2.2.2.2.2.2.2.2.2.2.2.1⟩, ⟨y.2.2.2.2.2.2.2.2.2.2.2.2.1, y.2.2.2.2.2.2.2.2.2.2.2.2.2.1, y.2.2.2.2.2.2.2.2.2.2.2.2.2.2.1, y.2.2.2.2.2.2.2.2.2.2.2.2.2.2.2.1⟩, ⟨y.2.2.2.2.2.2.2.2.2.2.2.2.2.2.2.2.1, y.2.2.2.2.2.2.2.2.2.2.2.2.2.2.2.2.2.1, y.2.2.2.2.2.2.2.2.2.2.2.2.2.2.2.2.2.2.1, y.2.2.2.2.2.2.2.2.2.2.2.2.2.2.2.2.2.2.2.1⟩, ⟨y.2.2.2.2.2.2.2.2.2.2.2.2.2.2.2.2.2.2.2.2.1, y.2.2.2.2.2.2.2.2.2.2.2.2.2.2.2.2.2.2.2.2.2.1, y.2.2.2.2.2.2.2.2.2.2.2.2.2.2.2.2.2.2.2.2.2.2.1, y.2.2.2.2.2.2.2.2.2.2.2.2.2.2.2.2.2.2.2.2.2.2.2.1⟩, ⟨y.2.2.2.2.2.2.2.2.2.2.2.2.2.2.2.2.2.2.2.2.2.2.2.2.1, y.2.2.2.2.2.2.2.2.2.2.2.2.2.2.2.2.2.2.2.2.2.2.2.2.2.1, y.2.2.2.2.2.2.2.2.2.2.2.2.2.2.2.2.2.2.2.2.2.2.2.2.2.2.1, y.2.2.2.2.2.2.2.2.2.2.2.2.2.2.2.2.2.2.2.2.2.2.2.2.2.2.2.1⟩, ⟨y.2.2.2.2.2.2.2.2.2.2.2.2.2.2.2.2.2.2.2.2.2.2.2.2.2.2.2.2.1, y.2.2.2.2.2.2.2.2.2.2.2.2.2.2.2.2.2.2.2.2.2.2.2.2.2.2.2.2.2.1, y.2.2.2.2.2.2.2.2.2.2.2.2.2.2.2.2.2.2.2.2.2.2.2.2.2.2.2.2.2.2.1, y.2.2.2.2.2.2.2.2.2.2.2.2.2.2.2.2.2.2.2.2.2.2.2.2.2.2.2.2.2.2.2.1⟩, y.2.2.2.2.2.2.2.2.2.2.2.2.2.2.2.2.2.2.2.2.2.2.2.2.2.2.2.2.2.2.2.2.1, y.2.2.2.2.2.2.2.2.2.2.2.2.2.2.2.2.2.2.2.2.2.2.2.2.2.2.2.2.2.2.2.2.2.1, y.2.2.2.2.2.2.2.2.2.2.2.2.2.2.2.2.2.2.2.2.2.2.2.2.2.2.2.2.2.2.2.2.2.2.1⟩ : Row), rfl⟩
  | .pair, y => ⟨(⟨y.1, y.2.1⟩ : Pr), rfl⟩
  | .step, y => ⟨(⟨y.1, y.2.1, y.2.2.1, y.2.2.2.1, ⟨y.2.2.2.2.1, y.2.2.2.2.2.1, y.2.2.2.2.2.2.1, y.2.2.2.2.2.2.2.1⟩, ⟨y.2.2.2.2.2.2.2.2.1, y.2.2.2.2.2.2.2.2.2.1, y.2.2.2.2.2.2.2.2.2.2.1, y.2.2.2.2.2.2.2.2.2.2.2.1⟩, ⟨y.2.2.2.2.2.2.2.2.2.2.2.2.1, y.2.2.2.2.2.2.2.2.2.2.2.2.2.1, y.2.2.2.2.2.2.2.2.2.2.2.2.2.2.1, y.2.2.2.2.2.2.2.2.2.2.2.2.2.2.2.1⟩, ⟨y.2.2.2.2.2.2.2.2.2.2.2.2.2.2.2.2.1, y.2.2.2.2.2.2.2.2.2.2.2.2.2.2.2.2.2.1, y.2.2.2.2.2.2.2.2.2.2.2.2.2.2.2.2.2.2.1, y.2.2.2.2.2.2.2.2.2.2.2.2.2.2.2.2.2.2.2.1⟩, ⟨y.2.2.2.2.2.2.2.2.2.2.2.2.2.2.2.2.2.2.2.2.1, y.2.2.2.2.2.2.2.2.2.2.2.2.2.2.2.2.2.2.2.2.2.1, y.2.2.2.2.2.2.2.2.2.2.2.2.2.2.2.2.2.2.2.2.2.2.1, y.2.2.2.2.2.2.2.2.2.2.2.2.2.2.2.2.2.2.2.2.2.2.2.1⟩⟩ : Stp), rfl⟩
theorem zff : ∀ (l m : List CS) (y : TCs l) (z : TCs m), ∃ w : TCs (l ++ m), zbh (l ++ m) w = zbh l y ++ zbh m z
  | [], m, _, z => ⟨z, rfl⟩
  | c :: l, m, y, z => by
    obtain ⟨w, hw⟩ := zff l m y.2 z
    exact ⟨(y.1, w), by simp only [List.cons_append, zbh]; rw [hw]⟩
def zec (l : List CS) : Nat -> List CS
  | 0 => []
  | n + 1 => l ++ zec l n
def zm5 (g : TypeId -> Option (List CS)) (sz : TypeId -> Nat) : List Field -> Nat -> Option (List CS)
  | [], _ => some []
  | f :: fs, off => match g f.type with
    | some l => cond (Nat.beq f.offset off && Nat.beq (sz f.type) l.length) (match zm5 g sz fs (off + l.length) with | some m => some (l ++ m) | none => none) none
    | none => none
def shp (P : Program) (els : List (Nat × El)) : Nat -> TypeId -> Option (List CS)
  | 0, _ => none
  | k + 1, t => match P.underlying t with
    | some .bool => some [.bool]
    | some (.int .u64) => some [.u64]
    | some (.int .u32) => some [.u32]
    | some (.int .u8) => some [.u8]
    | some (.int .i64) => some [.int]
    | some .string => some [.str]
    | some (.slice e) => match look e els, shp P els k e with
      | some el, some l => cond (decide (l = elCS el) && Nat.beq (P.cellsOf e) l.length) (some [.ro el]) none
      | _, _ => none
    | some (.struct fs) => match zm5 (shp P els k) P.cellsOf fs.toList 0 with
      | some l => cond (Nat.beq (P.cellsOf t) l.length) (some l) none
      | none => none
    | some (.array n e) => match shp P els k e with
      | some l => cond (Nat.beq (P.cellsOf e) l.length && Nat.beq (P.cellsOf t) (n * l.length)) (some (zec l n)) none
      | none => none
    | _ => none
theorem zf7 {w : World} {ok : Nat -> Prop} : ∀ {l : List C} {vs : List Value}, zbd w ok l vs -> ∀ (j : Nat) (c : C), l[j]? = some c -> ∃ v, vs[j]? = some v /\ Holds w ok c v
  | [], [], _, j, c, h => by simp at h
  | a :: l, v :: vs, h, 0, c, hc => by simp at hc; subst hc; exact ⟨v, rfl, h.1⟩
  | a :: l, v :: vs, h, j + 1, c, hc => by
    obtain ⟨x, h1, h2⟩ := zf7 h.2 j c (by simpa using hc)
    exact ⟨x, by simpa using h1, h2⟩
  | [], _ :: _, h, _, _, _ => h.elim
  | _ :: _, [], h, _, _, _ => h.elim
theorem zdZ {w : World} {ok : Nat -> Prop} : ∀ {l m : List C} {vs ws : List Value}, zbd w ok l vs -> zbd w ok m ws -> zbd w ok (l ++ m) (vs ++ ws)
  | [], m, [], ws, _, h => h
  | c :: l, m, v :: vs, ws, h, g => ⟨h.1, zdZ h.2 g⟩
  | [], _, _ :: _, _, h, _ => h.elim
  | _ :: _, _, [], _, h, _ => h.elim
theorem zjo {α : Type} (cs : List α) (off a b : Nat) : (cs.drop off).take (a + b) = (cs.drop off).take a ++ (cs.drop (off + a)).take b := by
  rw [List.take_add, List.drop_drop]
section
variable {P : Program} {els : List (Nat × El)} {W : World} {H : Type} {enc : TypeId × Value -> H}
abbrev Okb (W : World) : Nat -> Prop := fun b => b < W.heap.size
def zm6 (P : Program) (W : World) {H : Type} (enc : TypeId × Value -> H) (t : TypeId) (l : List CS) : Prop :=
  ∀ (fuel : Nat) (cs : List Value) (x : DataW H × List MemPlace), DataW.trod enc P W 0 (fun _ => true) true fuel t cs = some x -> ∃ y : TCs l, zbd W (Okb W) (zbh l y) cs
theorem zea {g : TypeId -> Option (List CS)} (hg : ∀ t l, g t = some l -> zm6 P W enc t l) {m : Nat} {cs : List Value} : ∀ (fs : List Field) (off : Nat) (l : List CS), zm5 g P.cellsOf fs off = some l ->
    (∀ f ∈ fs, ∃ x, DataW.trod enc P W 0 (fun _ => true) true m f.type ((cs.drop f.offset).take (P.cellsOf f.type)) = some x) -> ∃ y : TCs l, zbd W (Okb W) (zbh l y) ((cs.drop off).take l.length)
  | [], off, l, h, _ => by
    simp only [zm5, Option.some.injEq] at h
    subst h
    exact ⟨(), trivial⟩
  | f :: fs, off, l, h, hx => by
    simp only [zm5] at h
    split at h
    . rename_i l1 h1
      obtain ⟨hc, h⟩ := zab h
      simp only [Bool.and_eq_true] at hc
      have e1 := Nat.beq_true hc.1
      have e2 := Nat.beq_true hc.2
      split at h
      . rename_i l2 h2
        cases h
        obtain ⟨x, hx1⟩ := hx f (by simp)
        obtain ⟨y, hy⟩ := hg _ _ h1 _ _ _ hx1
        obtain ⟨z, hz⟩ := zea hg fs _ _ h2 (fun f hf => hx f (by simp [hf]))
        obtain ⟨w, hw⟩ := zff l1 l2 y z
        refine ⟨w, ?_⟩
        rw [hw, List.length_append, zjo]
        rw [e1, e2] at hy
        exact zdZ hy hz
      . cases h
    . cases h
theorem zfg {e : TypeId} {l : List CS} (hg : zm6 P W enc e l) {m sz : Nat} (hs : sz = l.length) {cs : List Value} : ∀ (n i : Nat),
    (∀ j, j < n -> ∃ x, DataW.trod enc P W 0 (fun _ => true) true m e ((cs.drop ((i + j) * sz)).take sz) = some x) -> ∃ y : TCs (zec l n), zbd W (Okb W) (zbh (zec l n) y) ((cs.drop (i * sz)).take (n * sz))
  | 0, i, _ => ⟨(), by rw [Nat.zero_mul, List.take_zero]; trivial⟩
  | n + 1, i, h => by
    obtain ⟨x, hx⟩ := h 0 (by omega)
    obtain ⟨y, hy⟩ := hg _ _ _ hx
    obtain ⟨z, hz⟩ := zfg hg hs n (i + 1) (fun j hj => by
      obtain ⟨x, hx⟩ := h (j + 1) (by omega)
      exact ⟨x, by rw [show i + 1 + j = i + (j + 1) by omega]; exact hx⟩)
    obtain ⟨w, hw⟩ := zff l (zec l n) y z
    refine ⟨w, ?_⟩
    rw [show zbh (zec l (n + 1)) w = zbh l y ++ zbh (zec l n) z from hw, show (n + 1) * sz = sz + n * sz by rw [Nat.succ_mul, Nat.add_comm], zjo]
    rw [Nat.add_zero] at hy
    refine zdZ hy ?_
    rw [show i * sz + sz = (i + 1) * sz by rw [Nat.succ_mul]]
    exact hz
theorem zpm {a : Addr} (hs : a.spot = none) (i : Nat) : a.add i = ⟨a.block, a.off + i, none⟩ := by
  obtain ⟨b, off, spot⟩ := a
  simp only at hs
  subst hs
  unfold Addr.add
  split
  . rename_i h; subst h; rfl
  . rfl
theorem zm7 {a : Addr} {v : Value} (h : W.cell? a = some v) : a.spot = none /\ a.block < W.heap.size := by
  unfold World.cell? at h
  split at h
  . rename_i cs _ _ hb
    refine ⟨?_, (Array.getElem?_eq_some_iff.1 hb).1⟩
    cases hs : a.spot with
    | none => rfl
    | some q => rw [hs] at h; simp at h
  . cases h
theorem zkw (e : El) (l : List e.T) (j : Nat) (c : C) (h : (flat e l)[j]? = some c) : ∃ i k x, j = i * e.size + k /\ k < e.size /\ l[i]? = some x /\ (e.toC x)[k]? = some c := by
  induction l generalizing j with
  | nil => simp [flat] at h
  | cons x l ih =>
    simp only [flat] at h
    have hl := zat e x
    by_cases hj : j < e.size
    . rw [List.getElem?_append_left (by omega)] at h
      exact ⟨0, j, x, by simp, hj, rfl, h⟩
    . rw [List.getElem?_append_right (by omega), hl] at h
      obtain ⟨i, k, y, h1, h2, h3, h4⟩ := ih _ h
      exact ⟨i + 1, k, y, by rw [Nat.succ_mul]; omega, h2, by simpa using h3, h4⟩
theorem ziK {t e : TypeId} {el : El} (ht : P.underlying t = some (.slice e)) (hc : P.cellsOf e = el.size) (hg : zm6 P W enc e (elCS el)) : zm6 P W enc t [.ro el] := by
  intro fuel cs x h
  rcases DataW.trod_slice ht h with ⟨rfl, _⟩ | ⟨a, len, cap, elems, rest, n, _, rfl, _, hb, hl, hm, hlen, hel, _, _⟩
  . exact ⟨(([] : List el.T), ()), .emp, trivial⟩
  . cases hn : len with
    | zero => exact ⟨(([] : List el.T), ()), .emp, trivial⟩
    | succ len' =>
      have hpos := zak el
      have each : ∀ i, i < len -> ∃ (vs : List Value) (x : el.T), vs.length = el.size /\ (∀ k, k < el.size -> W.cell? ((a.add (i * el.size)).add k) = vs[k]?) /\ zbd W (Okb W) (el.toC x) vs := by
        intro i hi
        have h1 := hel i hi
        rw [hc] at h1
        obtain ⟨y, hy⟩ : ∃ y, elems[i]? = some y := ⟨_, List.getElem?_eq_getElem (by omega)⟩
        rw [hy, Option.bind_eq_some_iff] at h1
        obtain ⟨vs, h2, h3⟩ := h1
        obtain ⟨_, h4, h5⟩ := World.cells?_some h2
        obtain ⟨z, hz⟩ := hg _ _ _ h3
        obtain ⟨q, hq⟩ := zjn el z
        exact ⟨vs, q, h4, h5, by rw [hq]; exact hz⟩
      have hspot : a.spot = none /\ a.block < W.heap.size := by
        obtain ⟨vs, q, h1, h2, _⟩ := each 0 (by omega)
        obtain ⟨v, hv⟩ : ∃ v, vs[0]? = some v := ⟨_, List.getElem?_eq_getElem (by omega)⟩
        have h3 := h2 0 hpos
        rw [hv] at h3
        exact zm7 (a := a) (by simpa [Addr.add] using h3)
      obtain ⟨b, off, spot⟩ := a
      obtain ⟨hs, hbk⟩ := hspot
      simp only at hs hbk
      subst hs
      have each' : ∀ i, i < len -> ∃ (x : el.T) (vs : List Value), vs.length = el.size /\ (∀ k, k < el.size -> W.cell? ⟨b, off + i * el.size + k, none⟩ = vs[k]?) /\ zbd W (Okb W) (el.toC x) vs := by
        intro i hi
        obtain ⟨vs, q, h1, h2, h3⟩ := each i hi
        refine ⟨q, vs, h1, fun k hk => ?_, h3⟩
        have h4 := h2 k hk
        rw [zpm (a := ⟨b, off, none⟩) rfl, zpm rfl] at h4
        exact h4
      have hx : ∃ f : Nat -> el.T, ∀ i, i < len -> ∃ vs : List Value, vs.length = el.size /\ (∀ k, k < el.size -> W.cell? ⟨b, off + i * el.size + k, none⟩ = vs[k]?) /\ zbd W (Okb W) (el.toC (f i)) vs := by
        refine ⟨fun i => if h : i < len then Classical.choose (each' i h) else el.zero, fun i hi => ?_⟩
        simp only [dif_pos hi]
        exact Classical.choose_spec (each' i hi)
      obtain ⟨f, hf⟩ := hx
      have hlen2 : ((List.range len).map f).length = len := by simp
      have key : ∀ (j : Nat) (c : C), (flat el ((List.range len).map f))[j]? = some c -> ∃ v, W.cell? ⟨b, off + j, none⟩ = some v /\ Holds W (Okb W) c v := by
        intro j c hj
        obtain ⟨i, k, y, h1, h2, h3, h4⟩ := zkw el _ j c hj
        have hi : i < len := by have := (List.getElem?_eq_some_iff.1 h3).1; simpa using this
        have hy : y = f i := by
          rw [List.getElem?_map, List.getElem?_range hi] at h3
          simpa using h3.symm
        obtain ⟨vs, g1, g2, g3⟩ := hf i hi
        obtain ⟨v, g4, g5⟩ := zf7 g3 k c (by rw [← hy]; exact h4)
        refine ⟨v, ?_, g5⟩
        rw [h1, ← Nat.add_assoc, g2 k h2, g4]
      refine ⟨((List.range len).map f, ()), ?_, trivial⟩
      have := Holds.ro (w := W) (ok := Okb W) (e := el) (l := (List.range len).map f) (b := b) (off := off) (cap := cap) (fun j => (W.cell? ⟨b, off + j, none⟩).getD undef) (by rw [hlen2]; exact hl) hm hbk (fun j c hj => ?_) (fun j c hj => ?_)
      . rw [hlen2] at this
        rw [← hn]
        exact this
      . obtain ⟨v, h1, _⟩ := key j c hj
        simp only [h1, Option.getD_some]
      . obtain ⟨v, h1, h2⟩ := key j c hj
        simp only [h1, Option.getD_some]
        exact h2
theorem zjp (els : List (Nat × El)) : ∀ (k : Nat) (t : TypeId) (l : List CS), shp P els k t = some l -> zm6 P W enc t l
  | 0, t, l, h => by cases h
  | k + 1, t, l, h => by
    have ih := zjp els k
    unfold shp at h
    split at h
    . rename_i hu
      cases h
      intro fuel cs x hx
      obtain ⟨b, rfl, _⟩ := DataW.trod_bool hu hx
      exact ⟨(b, ()), .sc rfl, trivial⟩
    . rename_i hu
      cases h
      intro fuel cs x hx
      obtain ⟨n, rfl, _, hw⟩ := DataW.trod_int hu hx
      have := bounds_u64 hw
      refine ⟨(UInt64.ofNat n.toNat, ()), .sc ?_, trivial⟩
      simp only [CS.enc, C.val, Option.some.injEq, Value.int.injEq, true_and]
      rw [UInt64.toNat_ofNat']
      omega
    . rename_i hu
      cases h
      intro fuel cs x hx
      obtain ⟨n, rfl, _, hw⟩ := DataW.trod_int hu hx
      have := bounds_u32 hw
      refine ⟨(UInt32.ofNat n.toNat, ()), .sc ?_, trivial⟩
      simp only [CS.enc, C.val, Option.some.injEq, Value.int.injEq, true_and]
      rw [UInt32.toNat_ofNat']
      omega
    . rename_i hu
      cases h
      intro fuel cs x hx
      obtain ⟨n, rfl, _, hw⟩ := DataW.trod_int hu hx
      have := bounds_u8 hw
      refine ⟨(UInt8.ofNat n.toNat, ()), .sc ?_, trivial⟩
      simp only [CS.enc, C.val, Option.some.injEq, Value.int.injEq, true_and]
      rw [UInt8.toNat_ofNat']
      omega
    . rename_i hu
      cases h
      intro fuel cs x hx
      obtain ⟨n, rfl, _, _⟩ := DataW.trod_int hu hx
      exact ⟨(n, ()), .sc rfl, trivial⟩
    . rename_i hu
      cases h
      intro fuel cs x hx
      obtain ⟨s, rfl, _, _⟩ := DataW.trod_string hu hx
      exact ⟨(s.data.toList, ()), .sc rfl, trivial⟩
    . rename_i e hu
      split at h
      . rename_i el l1 he hl1
        obtain ⟨hc, h⟩ := zab h
        cases h
        simp only [Bool.and_eq_true, decide_eq_true_eq] at hc
        have e2 := Nat.beq_true hc.2
        rw [hc.1] at hl1 e2
        rw [zoW] at e2
        exact ziK hu e2 (ih _ _ hl1)
      . cases h
    . rename_i fs hu
      split at h
      . rename_i l1 hl1
        obtain ⟨hc, h⟩ := zab h
        cases h
        have e2 := Nat.beq_true hc
        intro fuel cs x hx
        obtain ⟨xs, n, _, _, h3, h4, h5⟩ := DataW.trod_struct hu hx
        obtain ⟨y, hy⟩ := zea (P := P) (W := W) (enc := enc) ih (m := n) (cs := cs) fs.toList 0 _ hl1 (fun f hf => by
          obtain ⟨i, hi, hfi⟩ := List.mem_iff_getElem.1 hf
          have h6 := h5 i f (by rw [← Array.getElem?_toList, List.getElem?_eq_getElem hi, hfi])
          have hi2 : i < xs.length := by rw [h4]; simpa using hi
          rw [List.getElem?_eq_getElem hi2] at h6
          exact ⟨_, h6⟩)
        refine ⟨y, ?_⟩
        rw [List.drop_zero, List.take_of_length_le (by omega)] at hy
        exact hy
      . cases h
    . rename_i n e hu
      split at h
      . rename_i l1 hl1
        obtain ⟨hc, h⟩ := zab h
        cases h
        simp only [Bool.and_eq_true] at hc
        have e1 := Nat.beq_true hc.1
        have e2 := Nat.beq_true hc.2
        intro fuel cs x hx
        obtain ⟨xs, m, _, _, h3, h4, h5⟩ := DataW.trod_array hu hx
        obtain ⟨y, hy⟩ := zfg (ih _ _ hl1) (m := m) (sz := l1.length) rfl (cs := cs) n 0 (fun j hj => by
          have h6 := h5 j hj
          rw [e1] at h6
          have hi2 : j < xs.length := by omega
          rw [List.getElem?_eq_getElem hi2] at h6
          rw [Nat.zero_add]
          exact ⟨_, h6⟩)
        refine ⟨y, ?_⟩
        rw [Nat.zero_mul, List.drop_zero, List.take_of_length_le (by omega)] at hy
        exact hy
      . cases h
    . cases h
end
structure KQ where
  k : K
  q : k.T -> Prop
def TKQ : (l : List KQ) -> TKs (l.map KQ.k) -> Prop
  | [], _ => True
  | a :: l, x => a.q x.1 /\ TKQ l x.2
def zfh (P : Program) (a : KQ) (t : TypeId) : Prop :=
  ∀ (H : Type) (enc : TypeId × Value -> H) (W : World) (base : Nat) (v : Value) (d : DataW H) (p : List MemPlace), Value.okWide P W .any base t v -> DataW.Trod enc P W 0 (fun _ => true) true t v d p ->
    ∃ x : a.k.T, a.q x /\ zfA W (fun b => b < W.heap.size) (a.k.enc x) v
def zhN (P : Program) : List KQ -> List TypeId -> Prop
  | [], [] => True
  | k :: ks, t :: ts => zfh P k t /\ zhN P ks ts
  | _, _ => False
theorem zfi {P : Program} {H : Type} {enc : TypeId × Value -> H} {W : World} {base : Nat} : ∀ {ks : List KQ} {ts : List TypeId} {vs : List Value} {ds : List (DataW H)} {p : List MemPlace}, zhN P ks ts -> DataW.TrodAll enc P W 0 (fun _ => true) true ts vs ds p ->
    (∀ (j : Nat) t v, ts[j]? = some t -> vs[j]? = some v -> Value.okWide P W .any base t v) -> ∃ x : TKs (ks.map KQ.k), TKQ ks x /\ zaL W (fun b => b < W.heap.size) (ze2 (ks.map KQ.k) x) vs
  | [], [], [], [], _, _, _, _ => ⟨(), trivial, trivial⟩
  | k :: ks, t :: ts, v :: vs, d :: ds, p, ho, ht, hv => by
    obtain ⟨p1, q1, h1, h2, _⟩ := ht
    obtain ⟨x, hx0, hx⟩ := ho.1 H enc W base v d p1 (hv 0 t v rfl rfl) h1
    obtain ⟨y, hy0, hy⟩ := zfi ho.2 h2 fun j t v hj hw => hv (j + 1) t v (by simpa using hj) (by simpa using hw)
    exact ⟨(x, y), ⟨hx0, hy0⟩, hx, hy⟩
  | [], _ :: _, _, _, _, ho, _, _ => ho.elim
  | _ :: _, [], _, _, _, ho, _, _ => ho.elim
  | [], [], _ :: _, _, _, _, ht, _ => by cases ht
  | [], [], [], _ :: _, _, _, ht, _ => by cases ht
  | _ :: _, _ :: _, [], _, _, _, ht, _ => by cases ht
  | _ :: _, _ :: _, _ :: _, [], _, _, ht, _ => by cases ht
def KQ.any (k : K) : KQ := ⟨k, fun _ => True⟩
theorem zm8 {P : Program} {k : K} {t : TypeId} (h : zqU P k t) : zfh P (KQ.any k) t := fun H enc W base v d p hv ht => by
  obtain ⟨x, hx⟩ := h H enc W base v d p hv ht
  exact ⟨x, trivial, hx⟩
def isAgg : TypeDesc -> Bool
  | .struct _ => true
  | .array _ _ => true
  | _ => false
theorem zkx {P : Program} {W : World} {base : Nat} {t : TypeId} {v : Value} {u : TypeDesc} (hu : P.underlying t = some u) (ha : isAgg u = true) (h : Value.okWide P W .any base t v) : ∃ cs, v = .agg cs := by
  unfold Value.okWide at h
  rw [hu] at h
  cases u <;> simp [isAgg] at ha
  . obtain ⟨cs, h, _⟩ := h; exact ⟨cs, h⟩
  . obtain ⟨cs, h, _⟩ := h; exact ⟨cs, h⟩
theorem zky {P : Program} {els : List (Nat × El)} {a : KQ} {t : TypeId} {u : TypeDesc} {l : List CS} (k : Nat) (hu : P.underlying t = some u) (ha : isAgg u = true) (hs : shp P els k t = some l)
    (hc : ∀ y : TCs l, ∃ x : a.k.T, a.q x /\ (a.k.enc x = .agg (zbh l y) \/ ∃ e m, a.k.enc x = .vec e m /\ flat e m = zbh l y)) : zfh P a t := fun H enc W base v d p hv ht => by
  obtain ⟨cs, rfl⟩ := zkx hu ha hv
  obtain ⟨fuel, hf⟩ := ht
  obtain ⟨y, hy⟩ := zjp (W := W) (enc := enc) els k t l hs _ _ _ hf
  obtain ⟨x, hx, h | ⟨e, m, h1, h2⟩⟩ := hc y
  . exact ⟨x, hx, by rw [h]; exact ⟨cs, rfl, hy⟩⟩
  . exact ⟨x, hx, by rw [h1]; exact ⟨cs, rfl, by rw [h2]; exact hy⟩⟩
theorem zjq (e : El) : ∀ (n : Nat) (y : TCs (zec (elCS e) n)), ∃ l : List e.T, l.length = n /\ flat e l = zbh (zec (elCS e) n) y
  | 0, _ => ⟨[], rfl, rfl⟩
  | n + 1, y => by
    have split : ∀ (l m : List CS) (y : TCs (l ++ m)), ∃ (a : TCs l) (b : TCs m), zbh (l ++ m) y = zbh l a ++ zbh m b := by
      intro l m
      induction l with
      | nil => intro y; exact ⟨(), y, rfl⟩
      | cons c l ih =>
        intro y
        obtain ⟨a, b, h⟩ := ih y.2
        exact ⟨(y.1, a), b, by simp only [List.cons_append, zbh]; rw [h]⟩
    obtain ⟨a, b, h⟩ := split (elCS e) (zec (elCS e) n) y
    obtain ⟨x, hx⟩ := zjn e a
    obtain ⟨l, h1, h2⟩ := zjq e n b
    refine ⟨x :: l, by simp [h1], ?_⟩
    rw [show zbh (zec (elCS e) (n + 1)) y = _ from h, flat, hx, h2]
def KQ.vec (e : El) (n : Nat) : KQ := ⟨K.vec e, fun l => l.length = n⟩
theorem zf8 {P : Program} {els : List (Nat × El)} {t : TypeId} {u : TypeDesc} {e : El} {n : Nat} (k : Nat) (hu : P.underlying t = some u) (ha : isAgg u = true) (hs : shp P els k t = some (zec (elCS e) n)) : zfh P (KQ.vec e n) t :=
  zky k hu ha hs fun y => by
    obtain ⟨l, h1, h2⟩ := zjq e n y
    exact ⟨l, h1, Or.inr ⟨e, l, rfl, h2⟩⟩
theorem zkz {P : Program} {pd : PD} (hp : PDok P pd) {env : Nat -> Option Sg} (henv : ∀ f g, env f = some g -> SgOK P pd.els f g) {n : FuncId} {fn : Func} (hf : P.funcs[n]? = some fn) (hname : fn.name ≠ "runtime.NumGoroutine")
    (ps : List K) (f : TKs ps -> Option (TKs [K.bool])) (N : Nat) (tab : List (Nat × Head)) (d : Nat)
    (hrun : ∀ x, zgV pd env fn (zcD [K.bool]) (mkLp pd env (zbp pd fn (zcD [K.bool])) N tab d) (ze2 ps x) = f x)
    (x : TKs ps) (hx : f x = some (true, ())) (w : World) (vs : List Value) (ok : Nat -> Prop) (hok : ∀ b, ok b -> b < w.heap.size) (hh : zaL w ok (ze2 ps x) vs) :
    Calls P n vs.toArray w fun e w' => e = .returned (.bool true) /\ Kept w w' := by
  have h := znS (P := P) (pd := pd) hp henv hf hname ⟨TKs [K.bool], 0, fun us => zgV pd env fn (zcD [K.bool]) (mkLp pd env (zbp pd fn (zcD [K.bool])) N tab d) us, fun r => zj6 (ze2 [K.bool] r)⟩ rfl (zcD [K.bool])
    (fun us r h => by rw [zdt h]) N tab d (fun us r h => h) (us := ze2 ps x) (r := (true, ())) ((hrun x).trans hx) w vs ok hok hh
  refine h.mono fun e w' he => ?_
  cases e with
  | returned v =>
    obtain ⟨⟨gs, cs, h1, h2⟩, h3⟩ := he
    refine ⟨?_, h3⟩
    cases h1 with
    | c h4 =>
      cases h4
      cases h2 with
      | sc h5 _ => simp only [C.val, Option.some.injEq] at h5; subst h5; rfl
  | panicked ch => exact he.elim
  | outgrown => exact he.elim
end
section
open Go.ChangeShapes Go.WideShapes Go.ChangeAt Go.RowKit
theorem oq24 : zfh Try.prog (KQ.any (K.ro .u8)) 24 := zm8 zqV
theorem oq28 : zfh Try.prog (KQ.vec .u32 8) 28 := zf8 (els := pd.els) 5 Try.underlying28 rfl (by kernel_rfl)
theorem oq29 : zfh Try.prog (KQ.vec .u8 64) 29 := zf8 (els := pd.els) 5 Try.underlying29 rfl (by kernel_rfl)
end
section
def KQ.ro (e : El) : KQ := ⟨K.ro e, fun l => (show List e.T from l).length < 9223372036854775808⟩
end
end Go.Proofs.Ytgimohchocjgcaa.V
