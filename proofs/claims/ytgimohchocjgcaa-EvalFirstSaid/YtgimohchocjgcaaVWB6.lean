import Derived.Test.YtgimohchocjgcaaVK5
import Derived.Test.YtgimohchocjgcaaVWA2
import Derived.KernelRfl
set_option linter.unusedVariables false
set_option linter.unusedSimpArgs false
namespace Go.Proofs.Ytgimohchocjgcaa.V
section
def ziZ (N : Nat) (A_7 : Bool -> Int -> Int -> (List Row) -> (List Pr) -> (List Int) -> Option (List Int × Unit)) (A_10 : Bool -> Int -> Int -> Int -> (List Row) -> (List Pr) -> (List Int) -> Option (List Int × Unit)) (again5 : Bool) (i6 ob0_0 ob0_1 : Int) (ob0_2 : List Row) (ob0_3 : List Pr) (l3o : List Int) : Option (List Int × Unit) :=
  cond ((ltI i6 (↑ob0_3.length : Int))) (must (leI (0 : Int) i6 && ltI i6 (↑ob0_3.length : Int)) (must (leI (0 : Int) i6 && ltI i6 (↑ob0_3.length : Int)) (must (leI (0 : Int) (Pr.x (List.getD ob0_3 i6.toNat (Pr.mk (0 : Int) (0 : Int)))) && ltI (Pr.x (List.getD ob0_3 i6.toNat (Pr.mk (0 : Int) (0 : Int)))) (↑l3o.length : Int)) (must (leI (0 : Int) (Pr.y (List.getD ob0_3 i6.toNat (Pr.mk (0 : Int) (0 : Int)))) && ltI (Pr.y (List.getD ob0_3 i6.toNat (Pr.mk (0 : Int) (0 : Int)))) (↑l3o.length : Int)) (cond again5 (must (leI (0 : Int) (Pr.x (List.getD ob0_3 i6.toNat (Pr.mk (0 : Int) (0 : Int)))) && ltI (Pr.x (List.getD ob0_3 i6.toNat (Pr.mk (0 : Int) (0 : Int)))) (↑l3o.length : Int)) (must (leI (0 : Int) (Pr.y (List.getD ob0_3 i6.toNat (Pr.mk (0 : Int) (0 : Int)))) && ltI (Pr.y (List.getD ob0_3 i6.toNat (Pr.mk (0 : Int) (0 : Int)))) (↑(List.length (setL l3o (Int.toNat (Pr.x (List.getD ob0_3 i6.toNat (Pr.mk (0 : Int) (0 : Int))))) (mnI (List.getD l3o (Int.toNat (Pr.x (List.getD ob0_3 i6.toNat (Pr.mk (0 : Int) (0 : Int))))) (0 : Int)) (List.getD l3o (Int.toNat (Pr.y (List.getD ob0_3 i6.toNat (Pr.mk (0 : Int) (0 : Int))))) (0 : Int))))) : Int)) (A_10 true ((wr (i6 + (1 : Int)))) ob0_0 ob0_1 ob0_2 ob0_3 (setL (setL l3o (Int.toNat (Pr.x (List.getD ob0_3 i6.toNat (Pr.mk (0 : Int) (0 : Int))))) (mnI (List.getD l3o (Int.toNat (Pr.x (List.getD ob0_3 i6.toNat (Pr.mk (0 : Int) (0 : Int))))) (0 : Int)) (List.getD l3o (Int.toNat (Pr.y (List.getD ob0_3 i6.toNat (Pr.mk (0 : Int) (0 : Int))))) (0 : Int)))) (Int.toNat (Pr.y (List.getD ob0_3 i6.toNat (Pr.mk (0 : Int) (0 : Int))))) (mnI (List.getD l3o (Int.toNat (Pr.x (List.getD ob0_3 i6.toNat (Pr.mk (0 : Int) (0 : Int))))) (0 : Int)) (List.getD l3o (Int.toNat (Pr.y (List.getD ob0_3 i6.toNat (Pr.mk (0 : Int) (0 : Int))))) (0 : Int))))))) (must (leI (0 : Int) (Pr.x (List.getD ob0_3 i6.toNat (Pr.mk (0 : Int) (0 : Int)))) && ltI (Pr.x (List.getD ob0_3 i6.toNat (Pr.mk (0 : Int) (0 : Int)))) (↑l3o.length : Int)) (cond (!eqI (List.getD l3o (Int.toNat (Pr.x (List.getD ob0_3 i6.toNat (Pr.mk (0 : Int) (0 : Int))))) (0 : Int)) (mnI (List.getD l3o (Int.toNat (Pr.x (List.getD ob0_3 i6.toNat (Pr.mk (0 : Int) (0 : Int))))) (0 : Int)) (List.getD l3o (Int.toNat (Pr.y (List.getD ob0_3 i6.toNat (Pr.mk (0 : Int) (0 : Int))))) (0 : Int)))) (must (leI (0 : Int) (Pr.x (List.getD ob0_3 i6.toNat (Pr.mk (0 : Int) (0 : Int)))) && ltI (Pr.x (List.getD ob0_3 i6.toNat (Pr.mk (0 : Int) (0 : Int)))) (↑l3o.length : Int)) (must (leI (0 : Int) (Pr.y (List.getD ob0_3 i6.toNat (Pr.mk (0 : Int) (0 : Int)))) && ltI (Pr.y (List.getD ob0_3 i6.toNat (Pr.mk (0 : Int) (0 : Int)))) (↑(List.length (setL l3o (Int.toNat (Pr.x (List.getD ob0_3 i6.toNat (Pr.mk (0 : Int) (0 : Int))))) (mnI (List.getD l3o (Int.toNat (Pr.x (List.getD ob0_3 i6.toNat (Pr.mk (0 : Int) (0 : Int))))) (0 : Int)) (List.getD l3o (Int.toNat (Pr.y (List.getD ob0_3 i6.toNat (Pr.mk (0 : Int) (0 : Int))))) (0 : Int))))) : Int)) (A_10 true ((wr (i6 + (1 : Int)))) ob0_0 ob0_1 ob0_2 ob0_3 (setL (setL l3o (Int.toNat (Pr.x (List.getD ob0_3 i6.toNat (Pr.mk (0 : Int) (0 : Int))))) (mnI (List.getD l3o (Int.toNat (Pr.x (List.getD ob0_3 i6.toNat (Pr.mk (0 : Int) (0 : Int))))) (0 : Int)) (List.getD l3o (Int.toNat (Pr.y (List.getD ob0_3 i6.toNat (Pr.mk (0 : Int) (0 : Int))))) (0 : Int)))) (Int.toNat (Pr.y (List.getD ob0_3 i6.toNat (Pr.mk (0 : Int) (0 : Int))))) (mnI (List.getD l3o (Int.toNat (Pr.x (List.getD ob0_3 i6.toNat (Pr.mk (0 : Int) (0 : Int))))) (0 : Int)) (List.getD l3o (Int.toNat (Pr.y (List.getD ob0_3 i6.toNat (Pr.mk (0 : Int) (0 : Int))))) (0 : Int))))))) (must (leI (0 : Int) (Pr.y (List.getD ob0_3 i6.toNat (Pr.mk (0 : Int) (0 : Int)))) && ltI (Pr.y (List.getD ob0_3 i6.toNat (Pr.mk (0 : Int) (0 : Int)))) (↑l3o.length : Int)) (must (leI (0 : Int) (Pr.x (List.getD ob0_3 i6.toNat (Pr.mk (0 : Int) (0 : Int)))) && ltI (Pr.x (List.getD ob0_3 i6.toNat (Pr.mk (0 : Int) (0 : Int)))) (↑l3o.length : Int)) (must (leI (0 : Int) (Pr.y (List.getD ob0_3 i6.toNat (Pr.mk (0 : Int) (0 : Int)))) && ltI (Pr.y (List.getD ob0_3 i6.toNat (Pr.mk (0 : Int) (0 : Int)))) (↑(List.length (setL l3o (Int.toNat (Pr.x (List.getD ob0_3 i6.toNat (Pr.mk (0 : Int) (0 : Int))))) (mnI (List.getD l3o (Int.toNat (Pr.x (List.getD ob0_3 i6.toNat (Pr.mk (0 : Int) (0 : Int))))) (0 : Int)) (List.getD l3o (Int.toNat (Pr.y (List.getD ob0_3 i6.toNat (Pr.mk (0 : Int) (0 : Int))))) (0 : Int))))) : Int)) (A_10 (!eqI (List.getD l3o (Int.toNat (Pr.y (List.getD ob0_3 i6.toNat (Pr.mk (0 : Int) (0 : Int))))) (0 : Int)) (mnI (List.getD l3o (Int.toNat (Pr.x (List.getD ob0_3 i6.toNat (Pr.mk (0 : Int) (0 : Int))))) (0 : Int)) (List.getD l3o (Int.toNat (Pr.y (List.getD ob0_3 i6.toNat (Pr.mk (0 : Int) (0 : Int))))) (0 : Int)))) ((wr (i6 + (1 : Int)))) ob0_0 ob0_1 ob0_2 ob0_3 (setL (setL l3o (Int.toNat (Pr.x (List.getD ob0_3 i6.toNat (Pr.mk (0 : Int) (0 : Int))))) (mnI (List.getD l3o (Int.toNat (Pr.x (List.getD ob0_3 i6.toNat (Pr.mk (0 : Int) (0 : Int))))) (0 : Int)) (List.getD l3o (Int.toNat (Pr.y (List.getD ob0_3 i6.toNat (Pr.mk (0 : Int) (0 : Int))))) (0 : Int)))) (Int.toNat (Pr.y (List.getD ob0_3 i6.toNat (Pr.mk (0 : Int) (0 : Int))))) (mnI (List.getD l3o (Int.toNat (Pr.x (List.getD ob0_3 i6.toNat (Pr.mk (0 : Int) (0 : Int))))) (0 : Int)) (List.getD l3o (Int.toNat (Pr.y (List.getD ob0_3 i6.toNat (Pr.mk (0 : Int) (0 : Int))))) (0 : Int))))))))))))))) (A_7 again5 ob0_0 ob0_1 ob0_2 ob0_3 l3o)
def zeW (N : Nat) (A_7 : Bool -> Int -> Int -> (List Row) -> (List Pr) -> (List Int) -> Option (List Int × Unit)) (n : Nat) (again5 : Bool) (i6 ob0_0 ob0_1 : Int) (ob0_2 : List Row) (ob0_3 : List Pr) (l3o : List Int) : Option (List Int × Unit) :=
  zam (fun A x => ziZ N A_7 (fun again5 i6 ob0_0 ob0_1 ob0_2 ob0_3 l3o => A (((), ((), (again5, (i6, ())))), ((ob0_0, (ob0_1, (ob0_2, (ob0_3, ())))), (l3o, ())))) x.1.2.2.1 x.1.2.2.2.1 x.2.1.1 x.2.1.2.1 x.2.1.2.2.1 x.2.1.2.2.2.1 x.2.2.1) n (((), ((), (again5, (i6, ())))), ((ob0_0, (ob0_1, (ob0_2, (ob0_3, ())))), (l3o, ())))
theorem zfn (N : Nat) (A_7 : Bool -> Int -> Int -> (List Row) -> (List Pr) -> (List Int) -> Option (List Int × Unit)) (n : Nat) (again5 : Bool) (i6 ob0_0 ob0_1 : Int) (ob0_2 : List Row) (ob0_3 : List Pr) (l3o : List Int) : zeW N A_7 (n + 1) again5 i6 ob0_0 ob0_1 ob0_2 ob0_3 l3o = ziZ N A_7 (zeW N A_7 n) again5 i6 ob0_0 ob0_1 ob0_2 ob0_3 l3o := rfl
def zid (N : Nat) (A_7 : Bool -> Int -> Int -> (List Row) -> (List Pr) -> (List Int) -> Option (List Int × Unit)) (again5 : Bool) (ob0_0 ob0_1 : Int) (ob0_2 : List Row) (ob0_3 : List Pr) (l3o : List Int) : Option (List Int × Unit) :=
  cond again5 (zeW N A_7 N false (0 : Int) ob0_0 ob0_1 ob0_2 ob0_3 l3o) (some ((l3o, ())))
def zgS (N n : Nat) (again5 : Bool) (ob0_0 ob0_1 : Int) (ob0_2 : List Row) (ob0_3 : List Pr) (l3o : List Int) : Option (List Int × Unit) :=
  zam (fun A x => zid N (fun again5 ob0_0 ob0_1 ob0_2 ob0_3 l3o => A (((), ((), (again5, ()))), ((ob0_0, (ob0_1, (ob0_2, (ob0_3, ())))), (l3o, ())))) x.1.2.2.1 x.2.1.1 x.2.1.2.1 x.2.1.2.2.1 x.2.1.2.2.2.1 x.2.2.1) n (((), ((), (again5, ()))), ((ob0_0, (ob0_1, (ob0_2, (ob0_3, ())))), (l3o, ())))
theorem zcX (N n : Nat) (again5 : Bool) (ob0_0 ob0_1 : Int) (ob0_2 : List Row) (ob0_3 : List Pr) (l3o : List Int) : zgS N (n + 1) again5 ob0_0 ob0_1 ob0_2 ob0_3 l3o = zid N (zgS N n) again5 ob0_0 ob0_1 ob0_2 ob0_3 l3o := rfl
def zmK (N : Nat) (A_3 : Int -> Int -> Int -> (List Row) -> (List Pr) -> (List Int) -> Option (List Int × Unit)) (i4 ob0_0 ob0_1 : Int) (ob0_2 : List Row) (ob0_3 : List Pr) (l3o : List Int) : Option (List Int × Unit) :=
  cond ((ltI i4 ob0_1)) (must (leI (0 : Int) i4 && ltI i4 (↑l3o.length : Int)) (A_3 ((wr (i4 + (1 : Int)))) ob0_0 ob0_1 ob0_2 ob0_3 (setL l3o i4.toNat i4))) (zgS N N true ob0_0 ob0_1 ob0_2 ob0_3 l3o)
def zmL (N n : Nat) (i4 ob0_0 ob0_1 : Int) (ob0_2 : List Row) (ob0_3 : List Pr) (l3o : List Int) : Option (List Int × Unit) :=
  zam (fun A x => zmK N (fun i4 ob0_0 ob0_1 ob0_2 ob0_3 l3o => A (((), ((), (i4, ()))), ((ob0_0, (ob0_1, (ob0_2, (ob0_3, ())))), (l3o, ())))) x.1.2.2.1 x.2.1.1 x.2.1.2.1 x.2.1.2.2.1 x.2.1.2.2.2.1 x.2.2.1) n (((), ((), (i4, ()))), ((ob0_0, (ob0_1, (ob0_2, (ob0_3, ())))), (l3o, ())))
theorem zgT (N n : Nat) (i4 ob0_0 ob0_1 : Int) (ob0_2 : List Row) (ob0_3 : List Pr) (l3o : List Int) : zmL N (n + 1) i4 ob0_0 ob0_1 ob0_2 ob0_3 l3o = zmK N (zmL N n) i4 ob0_0 ob0_1 ob0_2 ob0_3 l3o := rfl
def q135 (N : Nat) (c0 v1 : Int) (v2 : List Row) (v3 : List Pr) : Option (List Int × Unit) :=
  must (leI (0 : Int) v1 && (eqI v1 v1 && leN (Int.toNat v1 * (8 : Nat)) (140737488355328 : Nat))) (zmL N N (0 : Int) c0 v1 v2 v3 (List.replicate v1.toNat (0 : Int)))
end
section
theorem zct (l : List Int) (i : Nat) (a : Int) (p : Nat) : (setL l i a).getD p 0 = if p = i /\ i < l.length then a else l.getD p 0 := by
  induction l generalizing i p with
  | nil => simp [setL]
  | cons x l ih =>
    cases i with
    | zero => cases p <;> simp [setL]
    | succ i =>
      cases p with
      | zero => simp [setL]
      | succ p =>
        have := ih i p
        simp only [List.getD_eq_getElem?_getD] at this
        simp [setL, this]
def smI : List Int -> Nat
  | [] => 0
  | x :: l => x.toNat + smI l
theorem zlJ (l : List Int) (i : Nat) (a : Int) (h : i < l.length) : smI (setL l i a) + (l.getD i 0).toNat = smI l + a.toNat := by
  induction l generalizing i with
  | nil => simp at h
  | cons x l ih =>
    cases i with
    | zero => simp [setL, smI]; omega
    | succ i =>
      have := ih i (by simpa using h)
      simp only [setL, smI, List.getD_cons_succ]
      omega
inductive Alike2 (S : List Pr) : Int -> Int -> Prop
  | refl (a : Int) : Alike2 S a a
  | pair {p : Pr} : p ∈ S -> Alike2 S p.x p.y
  | symm {a b : Int} : Alike2 S a b -> Alike2 S b a
  | trans {a b c : Int} : Alike2 S a b -> Alike2 S b c -> Alike2 S a c
def zby (S : List Pr) (V : Nat) : Prop := ∀ p ∈ S, (0 <= p.x /\ p.x < (V : Int)) /\ 0 <= p.y /\ p.y < (V : Int)
structure GoodC (S : List Pr) (V : Nat) (l : List Int) : Prop where
  len : l.length = V
  nn : ∀ i : Nat, i < V -> 0 <= l.getD i 0
  le : ∀ i : Nat, i < V -> l.getD i 0 <= (i : Int)
  al : ∀ i : Nat, i < V -> Alike2 S (i : Int) (l.getD i 0)
def FixC (S : List Pr) (l : List Int) : Prop := ∀ p ∈ S, l.getD p.x.toNat 0 = l.getD p.y.toNat 0
theorem zrg {S : List Pr} {V : Nat} {l : List Int} (hS : zby S V) (hf : FixC S l) {a b : Int} (h : Alike2 S a b) : l.getD a.toNat 0 = l.getD b.toNat 0 := by
  induction h with
  | refl => rfl
  | pair hp => exact hf _ hp
  | symm _ ih => exact ih.symm
  | trans _ _ h1 h2 => exact h1.trans h2
theorem znO {S : List Pr} {V : Nat} {l m : List Int} (hS : zby S V) (hl : GoodC S V l) (hm : GoodC S V m) (fl : FixC S l) (fm : FixC S m) : l = m := by
  have key : ∀ (l m : List Int), GoodC S V l -> GoodC S V m -> FixC S l -> ∀ i, i < V -> l.getD i 0 <= m.getD i 0 := by
    intro l m hl hm fl i hi
    have h1 := zrg hS fl (hm.al i hi)
    have h2 := hm.nn i hi
    have h3 := hm.le i hi
    have h4 := hl.le (m.getD i 0).toNat (by omega)
    rw [Int.toNat_natCast] at h1
    rw [h1]
    omega
  have hlen : l.length = m.length := by rw [hl.len, hm.len]
  refine List.ext_getElem hlen fun i h1 h2 => ?_
  have e1 : l.getD i 0 = l[i] := by simp [List.getD_eq_getElem?_getD, List.getElem?_eq_getElem h1]
  have e2 : m.getD i 0 = m[i] := by simp [List.getD_eq_getElem?_getD, List.getElem?_eq_getElem h2]
  have hi : i < V := by rw [← hl.len]; exact h1
  have := key l m hl hm fl i hi
  have := key m l hm hl fm i hi
  omega
theorem zi0 {S : List Pr} {V : Nat} {l : List Int} (h : GoodC S V l) {i : Nat} {a : Int} (hi : i < V) (h0 : 0 <= a) (h1 : a <= l.getD i 0) (h2 : Alike2 S (i : Int) a) : GoodC S V (setL l i a) := by
  refine ⟨by rw [zaP]; exact h.len, fun j hj => ?_, fun j hj => ?_, fun j hj => ?_⟩
  . rw [zct]
    split
    . exact h0
    . exact h.nn j hj
  . rw [zct]
    split
    . rename_i hc; rw [hc.1]; exact Int.le_trans h1 (h.le i hi)
    . exact h.le j hj
  . rw [zct]
    split
    . rename_i hc; rw [hc.1]; exact h2
    . exact h.al j hj
theorem zrh {S : List Pr} {V : Nat} {l : List Int} (h : GoodC S V l) {a : Int} (h0 : 0 <= a) (h1 : a < (V : Int)) : Alike2 S a (l.getD a.toNat 0) := by
  have := h.al a.toNat (by omega)
  rwa [Int.toNat_of_nonneg h0] at this
theorem zri {S : List Pr} {V : Nat} {l : List Int} (hS : zby S V) (h : GoodC S V l) {p : Pr} (hp : p ∈ S) :
    GoodC S V (setL (setL l p.x.toNat (mnI (l.getD p.x.toNat 0) (l.getD p.y.toNat 0))) p.y.toNat (mnI (l.getD p.x.toNat 0) (l.getD p.y.toNat 0))) /\
    smI (setL (setL l p.x.toNat (mnI (l.getD p.x.toNat 0) (l.getD p.y.toNat 0))) p.y.toNat (mnI (l.getD p.x.toNat 0) (l.getD p.y.toNat 0))) <= smI l /\
    (l.getD p.x.toNat 0 ≠ l.getD p.y.toNat 0 -> smI (setL (setL l p.x.toNat (mnI (l.getD p.x.toNat 0) (l.getD p.y.toNat 0))) p.y.toNat (mnI (l.getD p.x.toNat 0) (l.getD p.y.toNat 0))) < smI l) := by
  obtain ⟨⟨hx0, hx1⟩, hy0, hy1⟩ := hS p hp
  have hx : p.x.toNat < V := by omega
  have hy : p.y.toNat < V := by omega
  have ax := zrh h hx0 hx1
  have ay := zrh h hy0 hy1
  have ap : Alike2 S p.x p.y := .pair hp
  have cx : ((p.x.toNat : Nat) : Int) = p.x := Int.toNat_of_nonneg hx0
  have cy : ((p.y.toNat : Nat) : Int) = p.y := Int.toNat_of_nonneg hy0
  have nx := h.nn _ hx
  have ny := h.nn _ hy
  generalize hmin : mnI (l.getD p.x.toNat 0) (l.getD p.y.toNat 0) = m
  have hm : (m = l.getD p.x.toNat 0 \/ m = l.getD p.y.toNat 0) /\ m <= l.getD p.x.toNat 0 /\ m <= l.getD p.y.toNat 0 := by
    rw [← hmin]
    unfold mnI
    by_cases hlt : l.getD p.y.toNat 0 < l.getD p.x.toNat 0
    . rw [zad hlt, cond_true]; exact ⟨.inr rfl, by omega, by omega⟩
    . rw [zab hlt, cond_false]; exact ⟨.inl rfl, by omega, by omega⟩
  obtain ⟨hm1, hm2, hm3⟩ := hm
  have am : Alike2 S p.x m := by
    rcases hm1 with e | e
    . rw [e]; exact ax
    . rw [e]; exact ap.trans ay
  have g1 : GoodC S V (setL l p.x.toNat m) := zi0 h hx (by omega) hm2 (by rw [cx]; exact am)
  have hy2 : m <= (setL l p.x.toNat m).getD p.y.toNat 0 := by
    rw [zct]
    split
    . exact Int.le_refl _
    . exact hm3
  have g2 : GoodC S V (setL (setL l p.x.toNat m) p.y.toNat m) := zi0 g1 hy (by omega) hy2 (by rw [cy]; exact ap.symm.trans am)
  have s1 := zlJ l p.x.toNat m (by rw [h.len]; exact hx)
  have s2 := zlJ (setL l p.x.toNat m) p.y.toNat m (by rw [g1.len]; exact hy)
  have hv : (setL l p.x.toNat m).getD p.y.toNat 0 = m /\ p.y.toNat = p.x.toNat \/ (setL l p.x.toNat m).getD p.y.toNat 0 = l.getD p.y.toNat 0 := by
    rw [zct]
    split
    . rename_i hc; exact .inl ⟨rfl, hc.1⟩
    . exact .inr rfl
  refine ⟨g2, ?_, fun hne => ?_⟩
  . rcases hv with ⟨e, _⟩ | e <;> rw [e] at s2 <;> omega
  . rcases hv with ⟨e, e2⟩ | e
    . exact absurd (by rw [e2]) hne
    . rw [e] at s2
      omega
end
section
theorem zgU : ∀ (l : List Int) (i : Nat), setL l i (l.getD i 0) = l
  | [], i => by cases i <;> rfl
  | x :: l, 0 => rfl
  | x :: l, i + 1 => by
    show x :: setL l i (l.getD i 0) = x :: l
    rw [zgU l i]
theorem zmM (a : Int) : mnI a a = a := by
  unfold mnI
  rw [zab (by omega), cond_false]
def Turn (ag ag' : Bool) (l l' : List Int) : Prop := (ag' = ag /\ l' = l) \/ (ag' = true /\ smI l' < smI l)
theorem Turn.le {ag ag' : Bool} {l l' : List Int} (h : Turn ag ag' l l') : smI l' <= smI l := by
  rcases h with ⟨_, rfl⟩ | ⟨_, h⟩
  . exact Nat.le_refl _
  . omega
theorem Turn.trans {a b c : Bool} {l m k : List Int} (h1 : Turn a b l m) (h2 : Turn b c m k) : Turn a c l k := by
  rcases h2 with ⟨rfl, rfl⟩ | ⟨h, hlt⟩
  . exact h1
  . exact .inr ⟨h, by have := h1.le; omega⟩
def updP (l : List Int) (p : Pr) : List Int := setL (setL l p.x.toNat (mnI (l.getD p.x.toNat 0) (l.getD p.y.toNat 0))) p.y.toNat (mnI (l.getD p.x.toNat 0) (l.getD p.y.toNat 0))
theorem zcu {l : List Int} {p : Pr} (h : l.getD p.x.toNat 0 = l.getD p.y.toNat 0) : updP l p = l := by
  unfold updP
  rw [h, zmM, ← h, zgU, h, zgU]
theorem zlK {S : List Pr} {t : Nat} (h : t < S.length) (z : Pr) : S.getD t z ∈ S := by
  rw [List.getD_eq_getElem?_getD, List.getElem?_eq_getElem h]
  exact List.getElem_mem h
theorem zj1 {S : List Pr} {t : Nat} (h : t < S.length) (z : Pr) : S.drop t = S.getD t z :: S.drop (t + 1) := by
  rw [List.drop_eq_getElem_cons h]
  congr 1
  rw [List.getD_eq_getElem?_getD, List.getElem?_eq_getElem h]
  rfl
theorem zwA {S : List Pr} {V N n t : Nat} {l : List Int} {ag : Bool} {c0 v1 : Int} {v2 : List Row} {A : Int -> Int -> (List Row) -> (List Pr) -> (List Int) -> Option (List Int × Unit)} (hS : zby S V) (h : GoodC S V l) (ht : t < S.length) (hb : t < 9223372036854775807) :
    zdj N A (n + 1) ag S (S.length : Int) (t : Int) c0 v1 v2 S l = zdj N A n (ag || !eqI (l.getD (S.getD t ⟨0, 0⟩).x.toNat 0) (l.getD (S.getD t ⟨0, 0⟩).y.toNat 0)) S (S.length : Int) ((t + 1 : Nat) : Int) c0 v1 v2 S (updP l (S.getD t ⟨0, 0⟩)) := by
  obtain ⟨⟨x0, x1⟩, y0, y1⟩ := hS _ (zlK ht ⟨0, 0⟩)
  rw [zfm]
  unfold zeV
  rw [zad (by omega : (t : Int) < (S.length : Int)), cond_true, zaw, zay hb, Int.toNat_natCast, zaP, h.len, zaJ x0, zad x1, zaJ y0, zad y1]
  simp only [Bool.and_self, mst2]
  by_cases he : l.getD (S.getD t ⟨0, 0⟩).x.toNat 0 = l.getD (S.getD t ⟨0, 0⟩).y.toNat 0
  . rw [zaK he, Bool.not_true, cond_false, Bool.or_false, zcu he]
  . rw [zbh he, Bool.not_false, cond_true, Bool.or_true]
    rfl
theorem zwB {S : List Pr} {V N n t : Nat} {l : List Int} {ag : Bool} {c0 v1 : Int} {v2 : List Row} {A : Bool -> Int -> Int -> (List Row) -> (List Pr) -> (List Int) -> Option (List Int × Unit)} (hS : zby S V) (h : GoodC S V l) (ht : t < S.length) (hb : t < 9223372036854775807) :
    zeW N A (n + 1) ag (t : Int) c0 v1 v2 S l = zeW N A n (ag || !eqI (l.getD (S.getD t ⟨0, 0⟩).x.toNat 0) (l.getD (S.getD t ⟨0, 0⟩).y.toNat 0)) ((t + 1 : Nat) : Int) c0 v1 v2 S (updP l (S.getD t ⟨0, 0⟩)) := by
  obtain ⟨⟨x0, x1⟩, y0, y1⟩ := hS _ (zlK ht ⟨0, 0⟩)
  rw [zfn]
  unfold ziZ
  rw [zad (by omega : (t : Int) < (S.length : Int)), cond_true, zaw, zay hb, Int.toNat_natCast, zaP, h.len, zaJ x0, zad x1, zaJ y0, zad y1]
  simp only [Bool.and_self, mst2]
  cases ag with
  | true => rw [cond_true, Bool.true_or]; rfl
  | false =>
    rw [cond_false, Bool.false_or]
    by_cases he : l.getD (S.getD t ⟨0, 0⟩).x.toNat 0 = l.getD (S.getD t ⟨0, 0⟩).y.toNat 0
    . have hu := zcu he
      unfold updP at hu
      rw [hu, zcu he, ← he, zmM, zaK rfl, Bool.not_true, cond_false]
    . have hm : mnI (l.getD (S.getD t ⟨0, 0⟩).x.toNat 0) (l.getD (S.getD t ⟨0, 0⟩).y.toNat 0) = l.getD (S.getD t ⟨0, 0⟩).x.toNat 0 \/ mnI (l.getD (S.getD t ⟨0, 0⟩).x.toNat 0) (l.getD (S.getD t ⟨0, 0⟩).y.toNat 0) = l.getD (S.getD t ⟨0, 0⟩).y.toNat 0 := by
        unfold mnI
        cases ltI (l.getD (S.getD t ⟨0, 0⟩).y.toNat 0) (l.getD (S.getD t ⟨0, 0⟩).x.toNat 0)
        . exact .inl rfl
        . exact .inr rfl
      by_cases hx : l.getD (S.getD t ⟨0, 0⟩).x.toNat 0 = mnI (l.getD (S.getD t ⟨0, 0⟩).x.toNat 0) (l.getD (S.getD t ⟨0, 0⟩).y.toNat 0)
      . rw [zaK hx, Bool.not_true, cond_false, zbh he, zbh (show ¬ l.getD (S.getD t ⟨0, 0⟩).y.toNat 0 = mnI (l.getD (S.getD t ⟨0, 0⟩).x.toNat 0) (l.getD (S.getD t ⟨0, 0⟩).y.toNat 0) by omega)]
        rfl
      . rw [zbh hx, Bool.not_false, cond_true, zbh he]
        rfl
theorem zj2 {S : List Pr} {V t : Nat} {l : List Int} {ag : Bool} (hS : zby S V) (h : GoodC S V l) (ht : t < S.length) :
    GoodC S V (updP l (S.getD t ⟨0, 0⟩)) /\ Turn ag (ag || !eqI (l.getD (S.getD t ⟨0, 0⟩).x.toNat 0) (l.getD (S.getD t ⟨0, 0⟩).y.toNat 0)) l (updP l (S.getD t ⟨0, 0⟩)) /\
    (smI (updP l (S.getD t ⟨0, 0⟩)) < smI l \/ l.getD (S.getD t ⟨0, 0⟩).x.toNat 0 = l.getD (S.getD t ⟨0, 0⟩).y.toNat 0) := by
  obtain ⟨g1, g2, g3⟩ := zri hS h (zlK ht ⟨0, 0⟩)
  refine ⟨g1, ?_, ?_⟩
  . by_cases he : l.getD (S.getD t ⟨0, 0⟩).x.toNat 0 = l.getD (S.getD t ⟨0, 0⟩).y.toNat 0
    . exact .inl ⟨by rw [zaK he]; cases ag <;> rfl, zcu he⟩
    . exact .inr ⟨by rw [zbh he]; cases ag <;> rfl, g3 he⟩
  . by_cases he : l.getD (S.getD t ⟨0, 0⟩).x.toNat 0 = l.getD (S.getD t ⟨0, 0⟩).y.toNat 0
    . exact .inr he
    . exact .inl (g3 he)
theorem zi1 {S : List Pr} {V N : Nat} {c0 v1 : Int} {v2 : List Row} {A : Int -> Int -> (List Row) -> (List Pr) -> (List Int) -> Option (List Int × Unit)} (hS : zby S V) (hL : S.length < 1000000) :
    ∀ (k t n : Nat) (l : List Int) (ag : Bool), GoodC S V l -> t + k = S.length -> k < n ->
    ∃ ag' l', zdj N A n ag S (S.length : Int) (t : Int) c0 v1 v2 S l = zdX N A N ag' (V : Int) 0 c0 v1 v2 S l' /\ GoodC S V l' /\ Turn ag ag' l l' /\ (smI l' < smI l \/ ∀ p ∈ S.drop t, l.getD p.x.toNat 0 = l.getD p.y.toNat 0)
  | 0, t, n + 1, l, ag, h, ht, hn => by
    refine ⟨ag, l, ?_, h, .inl ⟨rfl, rfl⟩, .inr fun p hp => ?_⟩
    . rw [zfm]
      unfold zeV
      rw [zab (by omega), cond_false, h.len]
    . rw [List.drop_eq_nil_of_le (by omega)] at hp
      exact absurd hp (by simp)
  | k + 1, t, n + 1, l, ag, h, ht, hn => by
    have htl : t < S.length := by omega
    obtain ⟨g1, g2, g3⟩ := zj2 (ag := ag) hS h htl
    obtain ⟨ag', l', e, h', ht', hf⟩ := zi1 (N := N) (c0 := c0) (v1 := v1) (v2 := v2) (A := A) hS hL k (t + 1) n _ (ag || !eqI (l.getD (S.getD t ⟨0, 0⟩).x.toNat 0) (l.getD (S.getD t ⟨0, 0⟩).y.toNat 0)) g1 (by omega) (by omega)
    refine ⟨ag', l', ?_, h', g2.trans ht', ?_⟩
    . rw [zwA hS h htl (by omega)]; exact e
    . rcases g3 with g3 | g3
      . exact .inl (by have := ht'.le; omega)
      . rw [zcu g3] at hf
        rcases hf with hf | hf
        . exact .inl hf
        . refine .inr fun p hp => ?_
          rw [zj1 htl ⟨0, 0⟩] at hp
          rcases List.mem_cons.mp hp with rfl | hp
          . exact g3
          . exact hf p hp
theorem zi2 {S : List Pr} {V N : Nat} {c0 v1 : Int} {v2 : List Row} {A : Bool -> Int -> Int -> (List Row) -> (List Pr) -> (List Int) -> Option (List Int × Unit)} (hS : zby S V) (hL : S.length < 1000000) :
    ∀ (k t n : Nat) (l : List Int) (ag : Bool), GoodC S V l -> t + k = S.length -> k < n ->
    ∃ ag' l', zeW N A n ag (t : Int) c0 v1 v2 S l = A ag' c0 v1 v2 S l' /\ GoodC S V l' /\ Turn ag ag' l l' /\ (smI l' < smI l \/ ∀ p ∈ S.drop t, l.getD p.x.toNat 0 = l.getD p.y.toNat 0)
  | 0, t, n + 1, l, ag, h, ht, hn => by
    refine ⟨ag, l, ?_, h, .inl ⟨rfl, rfl⟩, .inr fun p hp => ?_⟩
    . rw [zfn]
      unfold ziZ
      rw [zab (by omega), cond_false]
    . rw [List.drop_eq_nil_of_le (by omega)] at hp
      exact absurd hp (by simp)
  | k + 1, t, n + 1, l, ag, h, ht, hn => by
    have htl : t < S.length := by omega
    obtain ⟨g1, g2, g3⟩ := zj2 (ag := ag) hS h htl
    obtain ⟨ag', l', e, h', ht', hf⟩ := zi2 (N := N) (c0 := c0) (v1 := v1) (v2 := v2) (A := A) hS hL k (t + 1) n _ (ag || !eqI (l.getD (S.getD t ⟨0, 0⟩).x.toNat 0) (l.getD (S.getD t ⟨0, 0⟩).y.toNat 0)) g1 (by omega) (by omega)
    refine ⟨ag', l', ?_, h', g2.trans ht', ?_⟩
    . rw [zwB hS h htl (by omega)]; exact e
    . rcases g3 with g3 | g3
      . exact .inl (by have := ht'.le; omega)
      . rw [zcu g3] at hf
        rcases hf with hf | hf
        . exact .inl hf
        . refine .inr fun p hp => ?_
          rw [zj1 htl ⟨0, 0⟩] at hp
          rcases List.mem_cons.mp hp with rfl | hp
          . exact g3
          . exact hf p hp
theorem zeu {S : List Pr} {V N : Nat} {c0 v1 : Int} {v2 : List Row} {A : Int -> Int -> (List Row) -> (List Pr) -> (List Int) -> Option (List Int × Unit)} (hS : zby S V) (hV : V < 1000000) :
    ∀ (k t n : Nat) (l : List Int) (ag : Bool), GoodC S V l -> t + k = V -> k < n ->
    ∃ ag' l', zdX N A n ag (V : Int) (t : Int) c0 v1 v2 S l = cond ag' (A c0 v1 v2 S l') (some (l', ())) /\ GoodC S V l' /\ Turn ag ag' l l'
  | 0, t, n + 1, l, ag, h, ht, hn => by
    refine ⟨ag, l, ?_, h, .inl ⟨rfl, rfl⟩⟩
    rw [zfl]
    unfold zeU
    rw [zab (by omega), cond_false]
  | k + 1, t, n + 1, l, ag, h, ht, hn => by
    have htl : t < V := by omega
    have n0 := h.nn t htl
    have n1 := h.le t htl
    have hx : (l.getD t 0).toNat < V := by omega
    have n2 := h.nn _ hx
    rw [zfl]
    unfold zeU
    rw [zad (by omega : (t : Int) < (V : Int)), cond_true, zaw, zay (by omega), Int.toNat_natCast, h.len, zaJ n0, zad (by omega : (t : Int) < (V : Int)), zad (by omega : l.getD t 0 < (V : Int))]
    simp only [Bool.and_self, mst2]
    by_cases hc : l.getD (l.getD t 0).toNat 0 < l.getD t 0
    . rw [zad hc, cond_true]
      have al1 := h.al t htl
      have al2 := h.al _ hx
      rw [Int.toNat_of_nonneg n0] at al2
      have g := zi0 h htl n2 (by omega) (al1.trans al2)
      obtain ⟨ag', l', e, h', ht'⟩ := zeu (N := N) (c0 := c0) (v1 := v1) (v2 := v2) (A := A) hS hV k (t + 1) n _ true g (by omega) (by omega)
      refine ⟨ag', l', e, h', ?_⟩
      have hs := zlJ l t (l.getD (l.getD t 0).toNat 0) (by rw [h.len]; exact htl)
      have := ht'.le
      refine .inr ⟨?_, by omega⟩
      rcases ht' with ⟨e1, _⟩ | ⟨e1, _⟩ <;> exact e1
    . rw [zab hc, cond_false]
      exact zeu (N := N) (c0 := c0) (v1 := v1) (v2 := v2) (A := A) hS hV k (t + 1) n _ ag h (by omega) (by omega)
theorem ztx {S : List Pr} {V N : Nat} {c0 v1 : Int} {v2 : List Row} (hS : zby S V) (hL : S.length < 1000000) (hV : V < 1000000) (hN1 : S.length < N) (hN2 : V < N) :
    ∀ (k n : Nat) (l : List Int), GoodC S V l -> smI l <= k -> k < n ->
    ∃ l', zba N n c0 v1 v2 S l = some (l', ()) /\ GoodC S V l' /\ FixC S l' := by
  intro k
  induction k with
  | zero =>
    intro n l h hk hn
    obtain ⟨n, rfl⟩ : ∃ m, n = m + 1 := ⟨n - 1, by omega⟩
    rw [zdG]
    unfold zcs
    obtain ⟨a1, l1, e1, h1, t1, f1⟩ := zi1 (N := N) (c0 := c0) (v1 := v1) (v2 := v2) (A := zba N n) hS hL S.length 0 N l false h (by omega) hN1
    obtain ⟨a2, l2, e2, h2, t2⟩ := zeu (N := N) (c0 := c0) (v1 := v1) (v2 := v2) (A := zba N n) hS hV V 0 N l1 a1 h1 (by omega) hN2
    rw [show (0 : Int) = ((0 : Nat) : Int) from rfl, e1, show (0 : Int) = ((0 : Nat) : Int) from rfl, e2]
    rcases t1.trans t2 with ⟨e, el⟩ | ⟨_, hlt⟩
    . rw [e, cond_false]
      refine ⟨l2, rfl, h2, ?_⟩
      rcases f1 with f1 | f1
      . omega
      . rw [List.drop_zero] at f1
        intro p hp
        rw [el]
        exact f1 p hp
    . omega
  | succ k ih =>
    intro n l h hk hn
    obtain ⟨n, rfl⟩ : ∃ m, n = m + 1 := ⟨n - 1, by omega⟩
    rw [zdG]
    unfold zcs
    obtain ⟨a1, l1, e1, h1, t1, f1⟩ := zi1 (N := N) (c0 := c0) (v1 := v1) (v2 := v2) (A := zba N n) hS hL S.length 0 N l false h (by omega) hN1
    obtain ⟨a2, l2, e2, h2, t2⟩ := zeu (N := N) (c0 := c0) (v1 := v1) (v2 := v2) (A := zba N n) hS hV V 0 N l1 a1 h1 (by omega) hN2
    rw [show (0 : Int) = ((0 : Nat) : Int) from rfl, e1, show (0 : Int) = ((0 : Nat) : Int) from rfl, e2]
    rcases t1.trans t2 with ⟨e, el⟩ | ⟨et, hlt⟩
    . rw [e, cond_false]
      refine ⟨l2, rfl, h2, ?_⟩
      rcases f1 with f1 | f1
      . have := t2.le
        rw [el] at this
        omega
      . rw [List.drop_zero] at f1
        intro p hp
        rw [el]
        exact f1 p hp
    . rw [et, cond_true]
      exact ih n l2 h2 (by omega) (by omega)
theorem zty {S : List Pr} {V N : Nat} {c0 v1 : Int} {v2 : List Row} (hS : zby S V) (hL : S.length < 1000000) (hN1 : S.length < N) :
    ∀ (k n : Nat) (l : List Int), GoodC S V l -> smI l <= k -> k + 1 < n ->
    ∃ l', zgS N n true c0 v1 v2 S l = some (l', ()) /\ GoodC S V l' /\ FixC S l' := by
  intro k
  induction k with
  | zero =>
    intro n l h hk hn
    obtain ⟨n, rfl⟩ : ∃ m, n = m + 1 + 1 := ⟨n - 2, by omega⟩
    rw [zcX]
    unfold zid
    rw [cond_true]
    obtain ⟨a1, l1, e1, h1, t1, f1⟩ := zi2 (N := N) (c0 := c0) (v1 := v1) (v2 := v2) (A := zgS N (n + 1)) hS hL S.length 0 N l false h (by omega) hN1
    rw [show (0 : Int) = ((0 : Nat) : Int) from rfl, e1]
    rcases t1 with ⟨e, el⟩ | ⟨_, hlt⟩
    . rw [e, zcX]
      unfold zid
      rw [cond_false]
      refine ⟨l1, rfl, h1, ?_⟩
      rcases f1 with f1 | f1
      . omega
      . rw [List.drop_zero] at f1
        intro p hp
        rw [el]
        exact f1 p hp
    . omega
  | succ k ih =>
    intro n l h hk hn
    obtain ⟨n, rfl⟩ : ∃ m, n = m + 1 + 1 := ⟨n - 2, by omega⟩
    rw [zcX]
    unfold zid
    rw [cond_true]
    obtain ⟨a1, l1, e1, h1, t1, f1⟩ := zi2 (N := N) (c0 := c0) (v1 := v1) (v2 := v2) (A := zgS N (n + 1)) hS hL S.length 0 N l false h (by omega) hN1
    rw [show (0 : Int) = ((0 : Nat) : Int) from rfl, e1]
    rcases t1 with ⟨e, el⟩ | ⟨et, hlt⟩
    . rw [e, zcX]
      unfold zid
      rw [cond_false]
      refine ⟨l1, rfl, h1, ?_⟩
      rcases f1 with f1 | f1
      . rw [el] at f1; omega
      . rw [List.drop_zero] at f1
        intro p hp
        rw [el]
        exact f1 p hp
    . rw [et]
      exact ih (n + 1) l1 h1 (by omega) (by omega)
def Own (V t : Nat) (l : List Int) : Prop := l.length = V /\ ∀ i : Nat, i < t -> l.getD i 0 = (i : Int)
theorem zmN {V t : Nat} {l : List Int} (h : Own V t l) (ht : t < V) : Own V (t + 1) (setL l t (t : Int)) := by
  refine ⟨by rw [zaP]; exact h.1, fun i hi => ?_⟩
  rw [zct]
  by_cases e : i = t
  . rw [if_pos ⟨e, by rw [h.1]; exact ht⟩, e]
  . rw [if_neg (fun hc => e hc.1)]
    exact h.2 i (by omega)
theorem zmO {S : List Pr} {V : Nat} {l : List Int} (h : Own V V l) : GoodC S V l :=
  ⟨h.1, fun i hi => by rw [h.2 i hi]; omega, fun i hi => by rw [h.2 i hi]; omega, fun i hi => by rw [h.2 i hi]; exact .refl _⟩
theorem zuz {S : List Pr} {V N : Nat} {c0 v1 : Int} {v2 : List Row} (hV : V < 1000000) :
    ∀ (k t n : Nat) (l : List Int), Own V t l -> t + k = V -> k < n ->
    ∃ l', zic N n (V : Int) (t : Int) c0 v1 v2 S l = zba N N c0 v1 v2 S l' /\ Own V V l'
  | 0, t, n + 1, l, h, ht, hn => by
    obtain rfl : t = V := by omega
    refine ⟨l, ?_, h⟩
    rw [zgR]
    unfold zib
    rw [zab (by omega), cond_false]
  | k + 1, t, n + 1, l, h, ht, hn => by
    rw [zgR]
    unfold zib
    rw [zad (by omega : (t : Int) < (V : Int)), cond_true, zaw, zay (by omega), Int.toNat_natCast, h.1, zad (by omega : (t : Int) < (V : Int))]
    simp only [Bool.and_self, mst2]
    exact zuz hV k (t + 1) n _ (zmN h (by omega)) (by omega) (by omega)
theorem zuA {S : List Pr} {V N : Nat} {c0 : Int} {v2 : List Row} (hV : V < 1000000) :
    ∀ (k t n : Nat) (l : List Int), Own V t l -> t + k = V -> k < n ->
    ∃ l', zmL N n (t : Int) c0 (V : Int) v2 S l = zgS N N true c0 (V : Int) v2 S l' /\ Own V V l'
  | 0, t, n + 1, l, h, ht, hn => by
    obtain rfl : t = V := by omega
    refine ⟨l, ?_, h⟩
    rw [zgT]
    unfold zmK
    rw [zab (by omega), cond_false]
  | k + 1, t, n + 1, l, h, ht, hn => by
    rw [zgT]
    unfold zmK
    rw [zad (by omega : (t : Int) < (V : Int)), cond_true, zaw, zay (by omega), Int.toNat_natCast, h.1, zad (by omega : (t : Int) < (V : Int))]
    simp only [Bool.and_self, mst2]
    exact zuA hV k (t + 1) n _ (zmN h (by omega)) (by omega) (by omega)
theorem zuB (B : Nat) : ∀ (l : List Int), (∀ i : Nat, i < l.length -> l.getD i 0 <= (B : Int)) -> smI l <= l.length * B
  | [], _ => by simp [smI]
  | x :: l, h => by
    have h0 := h 0 (by simp)
    have := zuB B l fun i hi => by
      have := h (i + 1) (by simpa using hi)
      simpa using this
    simp only [List.getD_cons_zero] at h0
    simp only [smI, List.length_cons, Nat.succ_mul]
    omega
theorem zrj {S : List Pr} {V : Nat} {l : List Int} (h : GoodC S V l) : smI l <= V * V := by
  have := zuB V l fun i hi => by
    rw [h.len] at hi
    have := h.le i hi
    omega
  rwa [h.len] at this
theorem znP {S : List Pr} {V N : Nat} {c0 : Int} {v2 : List Row} (hS : zby S V) (hL : S.length <= 1000) (hV : V <= 200) (hN : 100000 <= N) (hm : q119 N c0 (V : Int) v2 S = some (0, ())) :
    ∃ l, q134 N c0 (V : Int) v2 S = some (l, ()) /\ q135 N c0 (V : Int) v2 S = some (l, ()) /\ GoodC S V l /\ FixC S l := by
  have hr : Own V 0 (List.replicate V 0) := ⟨List.length_replicate, fun i hi => absurd hi (by omega)⟩
  have hVV : V * V <= 200 * 200 := Nat.mul_le_mul hV hV
  obtain ⟨l1, e1, o1⟩ := zuz (S := S) (N := N) (c0 := c0) (v1 := (V : Int)) (v2 := v2) (by omega) V 0 N _ hr (by omega) (by omega)
  obtain ⟨l2, e2, o2⟩ := zuA (S := S) (N := N) (c0 := c0) (v2 := v2) (by omega) V 0 N _ hr (by omega) (by omega)
  have g1 : GoodC S V l1 := zmO o1
  have g2 : GoodC S V l2 := zmO o2
  obtain ⟨m1, r1, h1, f1⟩ := ztx (N := N) (c0 := c0) (v1 := (V : Int)) (v2 := v2) hS (by omega) (by omega) (by omega) (by omega) (V * V) N l1 g1 (zrj g1) (by omega)
  obtain ⟨m2, r2, h2, f2⟩ := zty (N := N) (c0 := c0) (v1 := (V : Int)) (v2 := v2) hS (by omega) (by omega) (V * V) N l2 g2 (zrj g2) (by omega)
  obtain rfl := znO hS h1 h2 f1 f2
  refine ⟨m1, ?_, ?_, h1, f1⟩
  . unfold q134
    rw [hm]
    simp only [bsm]
    rw [zaK rfl, Bool.not_true, cond_false, zaw, zaK rfl, Int.toNat_natCast, zaG (by omega), List.length_replicate]
    simp only [Bool.and_self, mst2]
    exact e1.trans r1
  . unfold q135
    rw [zaw, zaK rfl, Int.toNat_natCast, zaG (by omega)]
    simp only [Bool.and_self, mst2]
    exact e2.trans r2
end
section
theorem zav (r : Row) : Row.mk r.q0 r.q1 r.q2 r.q3 r.q4 r.q5 r.q6 r.q7 r.w0 r.w1 r.w2 = r := rfl
theorem zax (s : Stp) : Stp.mk s.kind s.v0 s.v1 s.v2 s.q0 s.q1 s.q2 s.q3 s.q4 = s := rfl
theorem zaA : Row.mk Fr.zero Fr.zero Fr.zero Fr.zero Fr.zero Fr.zero Fr.zero Fr.zero 0 0 0 = zrow := rfl
def q218 (N : Nat) : Option (Fr × Unit) :=
  Option.bind (q173 N (1 : UInt64)) fun rr0 => some ((rr0.1, ()))
theorem zzx : p218 = q218 := by
  (repeat (apply funext; intro _))
  simp only [p218, q218, zmH, zag, zai, zaj, zah, zav, zax, zaX, zaA]
def zlL (N : Nat) (A_14 : Int -> Row -> (List Int) -> Option (List Row × Int × Unit)) (i7 : Int) (ob0 : Row) (ob1 : List Int) : Option (List Row × Int × Unit) :=
  cond ((ltI i7 (3 : Int))) (must (leI (0 : Int) i7 && ltI i7 (↑(3 : Nat) : Int)) (cond (eqI i7 (↑(0 : Nat) : Int)) (must (eqI i7 (↑(0 : Nat) : Int)) (A_14 ((wr ((↑(0 : Nat) : Int) + (1 : Int)))) (Row.mk (ob0.q0) (ob0.q1) (ob0.q2) (ob0.q3) (ob0.q4) (ob0.q5) (ob0.q6) (ob0.q7) (mxI (List.getD ob1 i7.toNat (0 : Int)) (-1 : Int)) ob0.w1 ob0.w2) ob1)) (cond (eqI i7 (↑((0 : Nat) + (1 : Nat)) : Int)) (must (eqI i7 (↑((0 : Nat) + (1 : Nat)) : Int)) (A_14 ((wr ((↑((0 : Nat) + (1 : Nat)) : Int) + (1 : Int)))) (Row.mk (ob0.q0) (ob0.q1) (ob0.q2) (ob0.q3) (ob0.q4) (ob0.q5) (ob0.q6) (ob0.q7) ob0.w0 (mxI (List.getD ob1 i7.toNat (0 : Int)) (-1 : Int)) ob0.w2) ob1)) (must (eqI i7 (↑((0 : Nat) + (1 : Nat) + (1 : Nat)) : Int)) (must (eqI i7 (↑((0 : Nat) + (1 : Nat) + (1 : Nat)) : Int)) (A_14 ((wr ((↑((0 : Nat) + (1 : Nat) + (1 : Nat)) : Int) + (1 : Int)))) (Row.mk (ob0.q0) (ob0.q1) (ob0.q2) (ob0.q3) (ob0.q4) (ob0.q5) (ob0.q6) (ob0.q7) ob0.w0 ob0.w1 (mxI (List.getD ob1 i7.toNat (0 : Int)) (-1 : Int))) ob1)))))) (some (([ob0], (0 : Int), ())))
theorem zrk : zlr = zlL := by
  (repeat (apply funext; intro _))
  simp only [zlr, zlL, hide_eq, zag, zai, zaj, zah, zav, zax, zaX, zaA]
def zlM (N n : Nat) (i7 : Int) (ob0 : Row) (ob1 : List Int) : Option (List Row × Int × Unit) :=
  zam (fun A x => zlL N (fun i7 ob0 ob1 => A (((), ((), (i7, ()))), (ob0, (ob1, ())))) x.1.2.2.1 x.2.1 x.2.2.1) n (((), ((), (i7, ()))), (ob0, (ob1, ())))
theorem zrl : zls = zlM := by
  (repeat (apply funext; intro _))
  simp only [zls, zlM, zrk, zag, zai, zaj, zah, zav, zax, zaX, zaA]
def zlN (N : Nat) (A_10 : Int -> Stp -> Row -> (List Int) -> Option (List Row × Int × Unit)) (i6 : Int) (ob0 : Stp) (ob1 : Row) (ob2 : List Int) : Option (List Row × Int × Unit) :=
  cond ((ltI i6 (5 : Int))) (cond (eqI i6 (↑(0 : Nat) : Int)) (must (eqI i6 (↑(0 : Nat) : Int)) (cond (eqI i6 (↑(0 : Nat) : Int)) (A_10 ((wr ((↑(0 : Nat) : Int) + (1 : Int)))) (ob0) (Row.mk (ob0.q0) (ob1.q1) (ob1.q2) (ob1.q3) (ob1.q4) (ob1.q5) (ob1.q6) (ob1.q7) ob1.w0 ob1.w1 ob1.w2) ob2) (cond (eqI i6 (↑((0 : Nat) + (1 : Nat)) : Int)) (none) (cond (eqI i6 (↑((0 : Nat) + (1 : Nat) + (1 : Nat)) : Int)) (none) (cond (eqI i6 (↑((0 : Nat) + (1 : Nat) + (1 : Nat) + (1 : Nat)) : Int)) (none) (cond (eqI i6 (↑((0 : Nat) + (1 : Nat) + (1 : Nat) + (1 : Nat) + (1 : Nat)) : Int)) (none) (cond (eqI i6 (↑((0 : Nat) + (1 : Nat) + (1 : Nat) + (1 : Nat) + (1 : Nat) + (1 : Nat)) : Int)) (none) (cond (eqI i6 (↑((0 : Nat) + (1 : Nat) + (1 : Nat) + (1 : Nat) + (1 : Nat) + (1 : Nat) + (1 : Nat)) : Int)) (none) (must (eqI i6 (↑((0 : Nat) + (1 : Nat) + (1 : Nat) + (1 : Nat) + (1 : Nat) + (1 : Nat) + (1 : Nat) + (1 : Nat)) : Int)) (none)))))))))) (cond (eqI i6 (↑((0 : Nat) + (1 : Nat)) : Int)) (must (eqI i6 (↑((0 : Nat) + (1 : Nat)) : Int)) (cond (eqI i6 (↑(0 : Nat) : Int)) (none) (cond (eqI i6 (↑((0 : Nat) + (1 : Nat)) : Int)) (A_10 ((wr ((↑((0 : Nat) + (1 : Nat)) : Int) + (1 : Int)))) (ob0) (Row.mk (ob1.q0) (ob0.q1) (ob1.q2) (ob1.q3) (ob1.q4) (ob1.q5) (ob1.q6) (ob1.q7) ob1.w0 ob1.w1 ob1.w2) ob2) (cond (eqI i6 (↑((0 : Nat) + (1 : Nat) + (1 : Nat)) : Int)) (none) (cond (eqI i6 (↑((0 : Nat) + (1 : Nat) + (1 : Nat) + (1 : Nat)) : Int)) (none) (cond (eqI i6 (↑((0 : Nat) + (1 : Nat) + (1 : Nat) + (1 : Nat) + (1 : Nat)) : Int)) (none) (cond (eqI i6 (↑((0 : Nat) + (1 : Nat) + (1 : Nat) + (1 : Nat) + (1 : Nat) + (1 : Nat)) : Int)) (none) (cond (eqI i6 (↑((0 : Nat) + (1 : Nat) + (1 : Nat) + (1 : Nat) + (1 : Nat) + (1 : Nat) + (1 : Nat)) : Int)) (none) (must (eqI i6 (↑((0 : Nat) + (1 : Nat) + (1 : Nat) + (1 : Nat) + (1 : Nat) + (1 : Nat) + (1 : Nat) + (1 : Nat)) : Int)) (none)))))))))) (cond (eqI i6 (↑((0 : Nat) + (1 : Nat) + (1 : Nat)) : Int)) (must (eqI i6 (↑((0 : Nat) + (1 : Nat) + (1 : Nat)) : Int)) (cond (eqI i6 (↑(0 : Nat) : Int)) (none) (cond (eqI i6 (↑((0 : Nat) + (1 : Nat)) : Int)) (none) (cond (eqI i6 (↑((0 : Nat) + (1 : Nat) + (1 : Nat)) : Int)) (A_10 ((wr ((↑((0 : Nat) + (1 : Nat) + (1 : Nat)) : Int) + (1 : Int)))) (ob0) (Row.mk (ob1.q0) (ob1.q1) (ob0.q2) (ob1.q3) (ob1.q4) (ob1.q5) (ob1.q6) (ob1.q7) ob1.w0 ob1.w1 ob1.w2) ob2) (cond (eqI i6 (↑((0 : Nat) + (1 : Nat) + (1 : Nat) + (1 : Nat)) : Int)) (none) (cond (eqI i6 (↑((0 : Nat) + (1 : Nat) + (1 : Nat) + (1 : Nat) + (1 : Nat)) : Int)) (none) (cond (eqI i6 (↑((0 : Nat) + (1 : Nat) + (1 : Nat) + (1 : Nat) + (1 : Nat) + (1 : Nat)) : Int)) (none) (cond (eqI i6 (↑((0 : Nat) + (1 : Nat) + (1 : Nat) + (1 : Nat) + (1 : Nat) + (1 : Nat) + (1 : Nat)) : Int)) (none) (must (eqI i6 (↑((0 : Nat) + (1 : Nat) + (1 : Nat) + (1 : Nat) + (1 : Nat) + (1 : Nat) + (1 : Nat) + (1 : Nat)) : Int)) (none)))))))))) (cond (eqI i6 (↑((0 : Nat) + (1 : Nat) + (1 : Nat) + (1 : Nat)) : Int)) (must (eqI i6 (↑((0 : Nat) + (1 : Nat) + (1 : Nat) + (1 : Nat)) : Int)) (cond (eqI i6 (↑(0 : Nat) : Int)) (none) (cond (eqI i6 (↑((0 : Nat) + (1 : Nat)) : Int)) (none) (cond (eqI i6 (↑((0 : Nat) + (1 : Nat) + (1 : Nat)) : Int)) (none) (cond (eqI i6 (↑((0 : Nat) + (1 : Nat) + (1 : Nat) + (1 : Nat)) : Int)) (A_10 ((wr ((↑((0 : Nat) + (1 : Nat) + (1 : Nat) + (1 : Nat)) : Int) + (1 : Int)))) (ob0) (Row.mk (ob1.q0) (ob1.q1) (ob1.q2) (ob0.q3) (ob1.q4) (ob1.q5) (ob1.q6) (ob1.q7) ob1.w0 ob1.w1 ob1.w2) ob2) (cond (eqI i6 (↑((0 : Nat) + (1 : Nat) + (1 : Nat) + (1 : Nat) + (1 : Nat)) : Int)) (none) (cond (eqI i6 (↑((0 : Nat) + (1 : Nat) + (1 : Nat) + (1 : Nat) + (1 : Nat) + (1 : Nat)) : Int)) (none) (cond (eqI i6 (↑((0 : Nat) + (1 : Nat) + (1 : Nat) + (1 : Nat) + (1 : Nat) + (1 : Nat) + (1 : Nat)) : Int)) (none) (must (eqI i6 (↑((0 : Nat) + (1 : Nat) + (1 : Nat) + (1 : Nat) + (1 : Nat) + (1 : Nat) + (1 : Nat) + (1 : Nat)) : Int)) (none)))))))))) (must (eqI i6 (↑((0 : Nat) + (1 : Nat) + (1 : Nat) + (1 : Nat) + (1 : Nat)) : Int)) (must (eqI i6 (↑((0 : Nat) + (1 : Nat) + (1 : Nat) + (1 : Nat) + (1 : Nat)) : Int)) (cond (eqI i6 (↑(0 : Nat) : Int)) (none) (cond (eqI i6 (↑((0 : Nat) + (1 : Nat)) : Int)) (none) (cond (eqI i6 (↑((0 : Nat) + (1 : Nat) + (1 : Nat)) : Int)) (none) (cond (eqI i6 (↑((0 : Nat) + (1 : Nat) + (1 : Nat) + (1 : Nat)) : Int)) (none) (cond (eqI i6 (↑((0 : Nat) + (1 : Nat) + (1 : Nat) + (1 : Nat) + (1 : Nat)) : Int)) (A_10 ((wr ((↑((0 : Nat) + (1 : Nat) + (1 : Nat) + (1 : Nat) + (1 : Nat)) : Int) + (1 : Int)))) (ob0) (Row.mk (ob1.q0) (ob1.q1) (ob1.q2) (ob1.q3) (ob0.q4) (ob1.q5) (ob1.q6) (ob1.q7) ob1.w0 ob1.w1 ob1.w2) ob2) (cond (eqI i6 (↑((0 : Nat) + (1 : Nat) + (1 : Nat) + (1 : Nat) + (1 : Nat) + (1 : Nat)) : Int)) (none) (cond (eqI i6 (↑((0 : Nat) + (1 : Nat) + (1 : Nat) + (1 : Nat) + (1 : Nat) + (1 : Nat) + (1 : Nat)) : Int)) (none) (must (eqI i6 (↑((0 : Nat) + (1 : Nat) + (1 : Nat) + (1 : Nat) + (1 : Nat) + (1 : Nat) + (1 : Nat) + (1 : Nat)) : Int)) (none))))))))))))))) (zlM N N (0 : Int) (ob1) ob2)
theorem zrm : zlt = zlN := by
  (repeat (apply funext; intro _))
  simp only [zlt, zlN, hide_eq, zrl, zag, zai, zaj, zah, zav, zax, zaX, zaA]
def zi3 (N n : Nat) (i6 : Int) (ob0 : Stp) (ob1 : Row) (ob2 : List Int) : Option (List Row × Int × Unit) :=
  zam (fun A x => zlN N (fun i6 ob0 ob1 ob2 => A (((), ((), ((), (i6, ())))), (ob0, (ob1, (ob2, ()))))) x.1.2.2.2.1 x.2.1 x.2.2.1 x.2.2.2.1) n (((), ((), ((), (i6, ())))), (ob0, (ob1, (ob2, ()))))
theorem zrn : zlu = zi3 := by
  (repeat (apply funext; intro _))
  simp only [zlu, zi3, zrm, zag, zai, zaj, zah, zav, zax, zaX, zaA]
def q197 (N : Nat) (s0 : Stp) : Option (List Row × Int × Unit) :=
  cond ((eqI s0.kind (1 : Int))) (cond ((eqI s0.kind (1 : Int))) (some (([], (0 : Int), ()))) (cond ((eqI s0.kind (2 : Int))) (zi3 N N (0 : Int) (s0) (Row.mk (Fr.zero) (Fr.zero) (Fr.zero) (Fr.zero) (Fr.zero) (Fr.zero) (Fr.zero) (Fr.zero) (-1 : Int) (-1 : Int) (-1 : Int)) ([Stp.v0 s0, Stp.v1 s0, Stp.v2 s0])) (cond ((eqI s0.kind (3 : Int))) (Option.bind (q218 N) fun rr7 => some (([Row.mk (Fr.zero) (Fr.zero) (Fr.zero) (Fr.zero) (Fr.zero) (rr7.1) (Fr.zero) (Fr.zero) s0.v0 (-1 : Int) (-1 : Int)], (0 : Int), ()))) (cond ((eqI s0.kind (4 : Int))) (Option.bind (q218 N) fun rr6 => some (([Row.mk (Fr.zero) (Fr.zero) (Fr.zero) (Fr.zero) (Fr.zero) (Fr.zero) (rr6.1) (Fr.zero) s0.v0 (-1 : Int) s0.v2], (0 : Int), ()))) (cond ((eqI s0.kind (7 : Int))) (Option.bind (q218 N) fun rr5 => some (([Row.mk (Fr.zero) (rr5.1) (Fr.zero) (Fr.zero) (Fr.zero) (Fr.zero) (Fr.zero) (Fr.zero) s0.v0 (-1 : Int) (-1 : Int)], (0 : Int), ()))) (cond ((eqI s0.kind (5 : Int))) (Option.bind (q218 N) fun rr4 => some (([Row.mk (Fr.zero) (Fr.zero) (Fr.zero) (Fr.zero) (Fr.zero) (Fr.zero) (Fr.zero) (rr4.1) s0.v0 s0.v1 (-1 : Int), Row.mk (Fr.zero) (Fr.zero) (Fr.zero) (Fr.zero) (Fr.zero) (Fr.zero) (Fr.zero) (Fr.zero) s0.v2 (-1 : Int) (-1 : Int)], (0 : Int), ()))) (some (([], (11 : Int), ()))))))))) (cond ((eqI s0.kind (6 : Int))) (some (([], (0 : Int), ()))) (cond ((eqI s0.kind (2 : Int))) (zi3 N N (0 : Int) (s0) (Row.mk (Fr.zero) (Fr.zero) (Fr.zero) (Fr.zero) (Fr.zero) (Fr.zero) (Fr.zero) (Fr.zero) (-1 : Int) (-1 : Int) (-1 : Int)) ([Stp.v0 s0, Stp.v1 s0, Stp.v2 s0])) (cond ((eqI s0.kind (3 : Int))) (Option.bind (q218 N) fun rr3 => some (([Row.mk (Fr.zero) (Fr.zero) (Fr.zero) (Fr.zero) (Fr.zero) (rr3.1) (Fr.zero) (Fr.zero) s0.v0 (-1 : Int) (-1 : Int)], (0 : Int), ()))) (cond ((eqI s0.kind (4 : Int))) (Option.bind (q218 N) fun rr2 => some (([Row.mk (Fr.zero) (Fr.zero) (Fr.zero) (Fr.zero) (Fr.zero) (Fr.zero) (rr2.1) (Fr.zero) s0.v0 (-1 : Int) s0.v2], (0 : Int), ()))) (cond ((eqI s0.kind (7 : Int))) (Option.bind (q218 N) fun rr1 => some (([Row.mk (Fr.zero) (rr1.1) (Fr.zero) (Fr.zero) (Fr.zero) (Fr.zero) (Fr.zero) (Fr.zero) s0.v0 (-1 : Int) (-1 : Int)], (0 : Int), ()))) (cond ((eqI s0.kind (5 : Int))) (Option.bind (q218 N) fun rr0 => some (([Row.mk (Fr.zero) (Fr.zero) (Fr.zero) (Fr.zero) (Fr.zero) (Fr.zero) (Fr.zero) (rr0.1) s0.v0 s0.v1 (-1 : Int), Row.mk (Fr.zero) (Fr.zero) (Fr.zero) (Fr.zero) (Fr.zero) (Fr.zero) (Fr.zero) (Fr.zero) s0.v2 (-1 : Int) (-1 : Int)], (0 : Int), ()))) (some (([], (11 : Int), ())))))))))
theorem zzy : p197 = q197 := by
  (repeat (apply funext; intro _))
  simp only [p197, q197, hide_eq, zrn, zzx, zag, zai, zaj, zah, zav, zax, zaX, zaA]
end
end Go.Proofs.Ytgimohchocjgcaa.V
