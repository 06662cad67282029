import Derived.Test.YtgimohchocjgcaaVWB3
import Derived.KernelRfl
import Derived.Test.YtgimohchocjgcaaVK5
set_option linter.unusedVariables false
set_option linter.unusedSimpArgs false
namespace Go.Proofs.Ytgimohchocjgcaa.V
section
theorem zhs : ∀ (l : List Int) (i : Nat), setL l i (l.getD i 0) = l
 | [], i => by cases i <;> rfl
 | x :: l, 0 => rfl
 | x :: l, i + 1 => by
  show x :: setL l i (l.getD i 0) = x :: l
  rw [zhs l i]
theorem znM (a : Int) : mnI a a = a := by
 unfold mnI
 rw [zaa (by omega), cond_false]
def Turn (ag ag' : Bool) (l l' : List Int) : Prop := (ag' = ag /\ l' = l) \/ (ag' = true /\ smI l' < smI l)
theorem Turn.le {ag ag' : Bool} {l l' : List Int} (h : Turn ag ag' l l') : smI l' <= smI l := by
 rcases h with ⟨_, rfl⟩ | ⟨_, h⟩
 ·exact Nat.le_refl _
 ·omega
theorem Turn.trans {a b c : Bool} {l m k : List Int} (h1 : Turn a b l m) (h2 : Turn b c m k) : Turn a c l k := by
 rcases h2 with ⟨rfl, rfl⟩ | ⟨h, hlt⟩
 ·exact h1
 ·exact .inr ⟨h, by have := h1.le; omega⟩
def updP (l : List Int) (p : Pr) : List Int := setL (setL l p.x.toNat (mnI (l.getD p.x.toNat 0) (l.getD p.y.toNat 0))) p.y.toNat (mnI (l.getD p.x.toNat 0) (l.getD p.y.toNat 0))
theorem zcF {l : List Int} {p : Pr} (h : l.getD p.x.toNat 0 = l.getD p.y.toNat 0) : updP l p = l := by
 unfold updP
 rw [h, znM, ← h, zhs, h, zhs]
theorem zmJ {S : List Pr} {t : Nat} (h : t < S.length) (z : Pr) : S.getD t z ∈ S := by
 rw [List.getD_eq_getElem?_getD, List.getElem?_eq_getElem h]
 exact List.getElem_mem h
theorem zkL {S : List Pr} {t : Nat} (h : t < S.length) (z : Pr) : S.drop t = S.getD t z :: S.drop (t + 1) := by
 rw [List.drop_eq_getElem_cons h]
 congr 1
 rw [List.getD_eq_getElem?_getD, List.getElem?_eq_getElem h]
 rfl
theorem zy5 {S : List Pr} {V N n t : Nat} {l : List Int} {ag : Bool} {c0 v1 : Int} {v2 : List Row} {A : Int -> Int -> (List Row) -> (List Pr) -> (List Int) -> Option (List Int × Unit)} (hS : zbK S V) (h : GoodC S V l) (ht : t < S.length) (hb : t < 9223372036854775807) :
  zdx N A (n + 1) ag S (S.length : Int) (t : Int) c0 v1 v2 S l = zdx N A n (ag || !eqI (l.getD (S.getD t ⟨0, 0⟩).x.toNat 0) (l.getD (S.getD t ⟨0, 0⟩).y.toNat 0)) S (S.length : Int) ((t + 1 : Nat) : Int) c0 v1 v2 S (updP l (S.getD t ⟨0, 0⟩)) := by
 obtain ⟨⟨x0, x1⟩, y0, y1⟩ := hS _ (zmJ ht ⟨0, 0⟩)
 rw [zfQ]
 unfold zfl
 rw [zab (by omega : (t : Int) < (S.length : Int)), cond_true, zas, zar hb, Int.toNat_natCast, zaQ, h.len, zaA x0, zab x1, zaA y0, zab y1]
 simp only [Bool.and_self, mst2]
 by_cases he : l.getD (S.getD t ⟨0, 0⟩).x.toNat 0 = l.getD (S.getD t ⟨0, 0⟩).y.toNat 0
 ·rw [zax he, Bool.not_true, cond_false, Bool.or_false, zcF he]
 ·rw [zaV he, Bool.not_false, cond_true, Bool.or_true]
  rfl
theorem zy6 {S : List Pr} {V N n t : Nat} {l : List Int} {ag : Bool} {c0 v1 : Int} {v2 : List Row} {A : Bool -> Int -> Int -> (List Row) -> (List Pr) -> (List Int) -> Option (List Int × Unit)} (hS : zbK S V) (h : GoodC S V l) (ht : t < S.length) (hb : t < 9223372036854775807) :
  zdy N A (n + 1) ag (t : Int) c0 v1 v2 S l = zdy N A n (ag || !eqI (l.getD (S.getD t ⟨0, 0⟩).x.toNat 0) (l.getD (S.getD t ⟨0, 0⟩).y.toNat 0)) ((t + 1 : Nat) : Int) c0 v1 v2 S (updP l (S.getD t ⟨0, 0⟩)) := by
 obtain ⟨⟨x0, x1⟩, y0, y1⟩ := hS _ (zmJ ht ⟨0, 0⟩)
 rw [zfR]
 unfold zfm
 rw [zab (by omega : (t : Int) < (S.length : Int)), cond_true, zas, zar hb, Int.toNat_natCast, zaQ, h.len, zaA x0, zab x1, zaA y0, zab y1]
 simp only [Bool.and_self, mst2]
 cases ag with
 | true => rw [cond_true, Bool.true_or]; rfl
 | false =>
  rw [cond_false, Bool.false_or]
  by_cases he : l.getD (S.getD t ⟨0, 0⟩).x.toNat 0 = l.getD (S.getD t ⟨0, 0⟩).y.toNat 0
  ·have hu := zcF he
   unfold updP at hu
   rw [hu, zcF he, ← he, znM, zax rfl, Bool.not_true, cond_false]
  ·have hm : mnI (l.getD (S.getD t ⟨0, 0⟩).x.toNat 0) (l.getD (S.getD t ⟨0, 0⟩).y.toNat 0) = l.getD (S.getD t ⟨0, 0⟩).x.toNat 0 \/ mnI (l.getD (S.getD t ⟨0, 0⟩).x.toNat 0) (l.getD (S.getD t ⟨0, 0⟩).y.toNat 0) = l.getD (S.getD t ⟨0, 0⟩).y.toNat 0 := by
    unfold mnI
    cases ltI (l.getD (S.getD t ⟨0, 0⟩).y.toNat 0) (l.getD (S.getD t ⟨0, 0⟩).x.toNat 0)
    ·exact .inl rfl
    ·exact .inr rfl
   by_cases hx : l.getD (S.getD t ⟨0, 0⟩).x.toNat 0 = mnI (l.getD (S.getD t ⟨0, 0⟩).x.toNat 0) (l.getD (S.getD t ⟨0, 0⟩).y.toNat 0)
   ·rw [zax hx, Bool.not_true, cond_false, zaV he, zaV (show ¬ l.getD (S.getD t ⟨0, 0⟩).y.toNat 0 = mnI (l.getD (S.getD t ⟨0, 0⟩).x.toNat 0) (l.getD (S.getD t ⟨0, 0⟩).y.toNat 0) by omega)]
    rfl
   ·rw [zaV hx, Bool.not_false, cond_true, zaV he]
    rfl
theorem zkM {S : List Pr} {V t : Nat} {l : List Int} {ag : Bool} (hS : zbK S V) (h : GoodC S V l) (ht : t < S.length) :
  GoodC S V (updP l (S.getD t ⟨0, 0⟩)) /\ Turn ag (ag || !eqI (l.getD (S.getD t ⟨0, 0⟩).x.toNat 0) (l.getD (S.getD t ⟨0, 0⟩).y.toNat 0)) l (updP l (S.getD t ⟨0, 0⟩)) /\
  (smI (updP l (S.getD t ⟨0, 0⟩)) < smI l \/ l.getD (S.getD t ⟨0, 0⟩).x.toNat 0 = l.getD (S.getD t ⟨0, 0⟩).y.toNat 0) := by
 obtain ⟨g1, g2, g3⟩ := zsS hS h (zmJ ht ⟨0, 0⟩)
 refine ⟨g1, ?_, ?_⟩
 ·by_cases he : l.getD (S.getD t ⟨0, 0⟩).x.toNat 0 = l.getD (S.getD t ⟨0, 0⟩).y.toNat 0
  ·exact .inl ⟨by rw [zax he]; cases ag <;> rfl, zcF he⟩
  ·exact .inr ⟨by rw [zaV he]; cases ag <;> rfl, g3 he⟩
 ·by_cases he : l.getD (S.getD t ⟨0, 0⟩).x.toNat 0 = l.getD (S.getD t ⟨0, 0⟩).y.toNat 0
  ·exact .inr he
  ·exact .inl (g3 he)
theorem zjM {S : List Pr} {V N : Nat} {c0 v1 : Int} {v2 : List Row} {A : Int -> Int -> (List Row) -> (List Pr) -> (List Int) -> Option (List Int × Unit)} (hS : zbK S V) (hL : S.length < 1000000) :
  ∀ (k t n : Nat) (l : List Int) (ag : Bool), GoodC S V l -> t + k = S.length -> k < n ->
  ∃ ag' l', zdx N A n ag S (S.length : Int) (t : Int) c0 v1 v2 S l = zei N A N ag' (V : Int) 0 c0 v1 v2 S l' /\ GoodC S V l' /\ Turn ag ag' l l' /\ (smI l' < smI l \/ ∀ p ∈ S.drop t, l.getD p.x.toNat 0 = l.getD p.y.toNat 0)
 | 0, t, n + 1, l, ag, h, ht, hn => by
  refine ⟨ag, l, ?_, h, .inl ⟨rfl, rfl⟩, .inr fun p hp => ?_⟩
  ·rw [zfQ]
   unfold zfl
   rw [zaa (by omega), cond_false, h.len]
  ·rw [List.drop_eq_nil_of_le (by omega)] at hp
   exact absurd hp (by simp)
 | k + 1, t, n + 1, l, ag, h, ht, hn => by
  have htl : t < S.length := by omega
  obtain ⟨g1, g2, g3⟩ := zkM (ag := ag) hS h htl
  obtain ⟨ag', l', e, h', ht', hf⟩ := zjM (N := N) (c0 := c0) (v1 := v1) (v2 := v2) (A := A) hS hL k (t + 1) n _ (ag || !eqI (l.getD (S.getD t ⟨0, 0⟩).x.toNat 0) (l.getD (S.getD t ⟨0, 0⟩).y.toNat 0)) g1 (by omega) (by omega)
  refine ⟨ag', l', ?_, h', g2.trans ht', ?_⟩
  ·rw [zy5 hS h htl (by omega)]; exact e
  ·rcases g3 with g3 | g3
   ·exact .inl (by have := ht'.le; omega)
   ·rw [zcF g3] at hf
    rcases hf with hf | hf
    ·exact .inl hf
    ·refine .inr fun p hp => ?_
     rw [zkL htl ⟨0, 0⟩] at hp
     rcases List.mem_cons.mp hp with rfl | hp
     ·exact g3
     ·exact hf p hp
theorem zjN {S : List Pr} {V N : Nat} {c0 v1 : Int} {v2 : List Row} {A : Bool -> Int -> Int -> (List Row) -> (List Pr) -> (List Int) -> Option (List Int × Unit)} (hS : zbK S V) (hL : S.length < 1000000) :
  ∀ (k t n : Nat) (l : List Int) (ag : Bool), GoodC S V l -> t + k = S.length -> k < n ->
  ∃ ag' l', zdy N A n ag (t : Int) c0 v1 v2 S l = A ag' c0 v1 v2 S l' /\ GoodC S V l' /\ Turn ag ag' l l' /\ (smI l' < smI l \/ ∀ p ∈ S.drop t, l.getD p.x.toNat 0 = l.getD p.y.toNat 0)
 | 0, t, n + 1, l, ag, h, ht, hn => by
  refine ⟨ag, l, ?_, h, .inl ⟨rfl, rfl⟩, .inr fun p hp => ?_⟩
  ·rw [zfR]
   unfold zfm
   rw [zaa (by omega), cond_false]
  ·rw [List.drop_eq_nil_of_le (by omega)] at hp
   exact absurd hp (by simp)
 | k + 1, t, n + 1, l, ag, h, ht, hn => by
  have htl : t < S.length := by omega
  obtain ⟨g1, g2, g3⟩ := zkM (ag := ag) hS h htl
  obtain ⟨ag', l', e, h', ht', hf⟩ := zjN (N := N) (c0 := c0) (v1 := v1) (v2 := v2) (A := A) hS hL k (t + 1) n _ (ag || !eqI (l.getD (S.getD t ⟨0, 0⟩).x.toNat 0) (l.getD (S.getD t ⟨0, 0⟩).y.toNat 0)) g1 (by omega) (by omega)
  refine ⟨ag', l', ?_, h', g2.trans ht', ?_⟩
  ·rw [zy6 hS h htl (by omega)]; exact e
  ·rcases g3 with g3 | g3
   ·exact .inl (by have := ht'.le; omega)
   ·rw [zcF g3] at hf
    rcases hf with hf | hf
    ·exact .inl hf
    ·refine .inr fun p hp => ?_
     rw [zkL htl ⟨0, 0⟩] at hp
     rcases List.mem_cons.mp hp with rfl | hp
     ·exact g3
     ·exact hf p hp
theorem zeT {S : List Pr} {V N : Nat} {c0 v1 : Int} {v2 : List Row} {A : Int -> Int -> (List Row) -> (List Pr) -> (List Int) -> Option (List Int × Unit)} (hS : zbK S V) (hV : V < 1000000) :
  ∀ (k t n : Nat) (l : List Int) (ag : Bool), GoodC S V l -> t + k = V -> k < n ->
  ∃ ag' l', zei N A n ag (V : Int) (t : Int) c0 v1 v2 S l = cond ag' (A c0 v1 v2 S l') (some (l', ())) /\ GoodC S V l' /\ Turn ag ag' l l'
 | 0, t, n + 1, l, ag, h, ht, hn => by
  refine ⟨ag, l, ?_, h, .inl ⟨rfl, rfl⟩⟩
  rw [zfP]
  unfold zfk
  rw [zaa (by omega), cond_false]
 | k + 1, t, n + 1, l, ag, h, ht, hn => by
  have htl : t < V := by omega
  have n0 := h.nn t htl
  have n1 := h.le t htl
  have hx : (l.getD t 0).toNat < V := by omega
  have n2 := h.nn _ hx
  rw [zfP]
  unfold zfk
  rw [zab (by omega : (t : Int) < (V : Int)), cond_true, zas, zar (by omega), Int.toNat_natCast, h.len, zaA n0, zab (by omega : (t : Int) < (V : Int)), zab (by omega : l.getD t 0 < (V : Int))]
  simp only [Bool.and_self, mst2]
  by_cases hc : l.getD (l.getD t 0).toNat 0 < l.getD t 0
  ·rw [zab hc, cond_true]
   have al1 := h.al t htl
   have al2 := h.al _ hx
   rw [Int.toNat_of_nonneg n0] at al2
   have g := zjL h htl n2 (by omega) (al1.trans al2)
   obtain ⟨ag', l', e, h', ht'⟩ := zeT (N := N) (c0 := c0) (v1 := v1) (v2 := v2) (A := A) hS hV k (t + 1) n _ true g (by omega) (by omega)
   refine ⟨ag', l', e, h', ?_⟩
   have hs := zmI l t (l.getD (l.getD t 0).toNat 0) (by rw [h.len]; exact htl)
   have := ht'.le
   refine .inr ⟨?_, by omega⟩
   rcases ht' with ⟨e1, _⟩ | ⟨e1, _⟩ <;> exact e1
  ·rw [zaa hc, cond_false]
   exact zeT (N := N) (c0 := c0) (v1 := v1) (v2 := v2) (A := A) hS hV k (t + 1) n _ ag h (by omega) (by omega)
theorem zvA {S : List Pr} {V N : Nat} {c0 v1 : Int} {v2 : List Row} (hS : zbK S V) (hL : S.length < 1000000) (hV : V < 1000000) (hN1 : S.length < N) (hN2 : V < N) :
  ∀ (k n : Nat) (l : List Int), GoodC S V l -> smI l <= k -> k < n ->
  ∃ l', zbc N n c0 v1 v2 S l = some (l', ()) /\ GoodC S V l' /\ FixC S l' := by
 intro k
 induction k with
 | zero =>
  intro n l h hk hn
  obtain ⟨n, rfl⟩ : ∃ m, n = m + 1 := ⟨n - 1, by omega⟩
  rw [zdY]
  unfold zcD
  obtain ⟨a1, l1, e1, h1, t1, f1⟩ := zjM (N := N) (c0 := c0) (v1 := v1) (v2 := v2) (A := zbc N n) hS hL S.length 0 N l false h (by omega) hN1
  obtain ⟨a2, l2, e2, h2, t2⟩ := zeT (N := N) (c0 := c0) (v1 := v1) (v2 := v2) (A := zbc N n) hS hV V 0 N l1 a1 h1 (by omega) hN2
  rw [show (0 : Int) = ((0 : Nat) : Int) from rfl, e1, show (0 : Int) = ((0 : Nat) : Int) from rfl, e2]
  rcases t1.trans t2 with ⟨e, el⟩ | ⟨_, hlt⟩
  ·rw [e, cond_false]
   refine ⟨l2, rfl, h2, ?_⟩
   rcases f1 with f1 | f1
   ·omega
   ·rw [List.drop_zero] at f1
    intro p hp
    rw [el]
    exact f1 p hp
  ·omega
 | succ k ih =>
  intro n l h hk hn
  obtain ⟨n, rfl⟩ : ∃ m, n = m + 1 := ⟨n - 1, by omega⟩
  rw [zdY]
  unfold zcD
  obtain ⟨a1, l1, e1, h1, t1, f1⟩ := zjM (N := N) (c0 := c0) (v1 := v1) (v2 := v2) (A := zbc N n) hS hL S.length 0 N l false h (by omega) hN1
  obtain ⟨a2, l2, e2, h2, t2⟩ := zeT (N := N) (c0 := c0) (v1 := v1) (v2 := v2) (A := zbc N n) hS hV V 0 N l1 a1 h1 (by omega) hN2
  rw [show (0 : Int) = ((0 : Nat) : Int) from rfl, e1, show (0 : Int) = ((0 : Nat) : Int) from rfl, e2]
  rcases t1.trans t2 with ⟨e, el⟩ | ⟨et, hlt⟩
  ·rw [e, cond_false]
   refine ⟨l2, rfl, h2, ?_⟩
   rcases f1 with f1 | f1
   ·have := t2.le
    rw [el] at this
    omega
   ·rw [List.drop_zero] at f1
    intro p hp
    rw [el]
    exact f1 p hp
  ·rw [et, cond_true]
   exact ih n l2 h2 (by omega) (by omega)
theorem zvB {S : List Pr} {V N : Nat} {c0 v1 : Int} {v2 : List Row} (hS : zbK S V) (hL : S.length < 1000000) (hN1 : S.length < N) :
  ∀ (k n : Nat) (l : List Int), GoodC S V l -> smI l <= k -> k + 1 < n ->
  ∃ l', zeS N n true c0 v1 v2 S l = some (l', ()) /\ GoodC S V l' /\ FixC S l' := by
 intro k
 induction k with
 | zero =>
  intro n l h hk hn
  obtain ⟨n, rfl⟩ : ∃ m, n = m + 1 + 1 := ⟨n - 2, by omega⟩
  rw [zc9]
  unfold zfS
  rw [cond_true]
  obtain ⟨a1, l1, e1, h1, t1, f1⟩ := zjN (N := N) (c0 := c0) (v1 := v1) (v2 := v2) (A := zeS N (n + 1)) hS hL S.length 0 N l false h (by omega) hN1
  rw [show (0 : Int) = ((0 : Nat) : Int) from rfl, e1]
  rcases t1 with ⟨e, el⟩ | ⟨_, hlt⟩
  ·rw [e, zc9]
   unfold zfS
   rw [cond_false]
   refine ⟨l1, rfl, h1, ?_⟩
   rcases f1 with f1 | f1
   ·omega
   ·rw [List.drop_zero] at f1
    intro p hp
    rw [el]
    exact f1 p hp
  ·omega
 | succ k ih =>
  intro n l h hk hn
  obtain ⟨n, rfl⟩ : ∃ m, n = m + 1 + 1 := ⟨n - 2, by omega⟩
  rw [zc9]
  unfold zfS
  rw [cond_true]
  obtain ⟨a1, l1, e1, h1, t1, f1⟩ := zjN (N := N) (c0 := c0) (v1 := v1) (v2 := v2) (A := zeS N (n + 1)) hS hL S.length 0 N l false h (by omega) hN1
  rw [show (0 : Int) = ((0 : Nat) : Int) from rfl, e1]
  rcases t1 with ⟨e, el⟩ | ⟨et, hlt⟩
  ·rw [e, zc9]
   unfold zfS
   rw [cond_false]
   refine ⟨l1, rfl, h1, ?_⟩
   rcases f1 with f1 | f1
   ·rw [el] at f1; omega
   ·rw [List.drop_zero] at f1
    intro p hp
    rw [el]
    exact f1 p hp
  ·rw [et]
   exact ih (n + 1) l1 h1 (by omega) (by omega)
def Own (V t : Nat) (l : List Int) : Prop := l.length = V /\ ∀ i : Nat, i < t -> l.getD i 0 = (i : Int)
theorem znN {V t : Nat} {l : List Int} (h : Own V t l) (ht : t < V) : Own V (t + 1) (setL l t (t : Int)) := by
 refine ⟨by rw [zaQ]; exact h.1, fun i hi => ?_⟩
 rw [zcE]
 by_cases e : i = t
 ·rw [if_pos ⟨e, by rw [h.1]; exact ht⟩, e]
 ·rw [if_neg (fun hc => e hc.1)]
  exact h.2 i (by omega)
theorem znO {S : List Pr} {V : Nat} {l : List Int} (h : Own V V l) : GoodC S V l :=
 ⟨h.1, fun i hi => by rw [h.2 i hi]; omega, fun i hi => by rw [h.2 i hi]; omega, fun i hi => by rw [h.2 i hi]; exact .refl _⟩
theorem zwJ {S : List Pr} {V N : Nat} {c0 v1 : Int} {v2 : List Row} (hV : V < 1000000) :
  ∀ (k t n : Nat) (l : List Int), Own V t l -> t + k = V -> k < n ->
  ∃ l', ziN N n (V : Int) (t : Int) c0 v1 v2 S l = zbc N N c0 v1 v2 S l' /\ Own V V l'
 | 0, t, n + 1, l, h, ht, hn => by
  obtain rfl : t = V := by omega
  refine ⟨l, ?_, h⟩
  rw [zhq]
  unfold ziM
  rw [zaa (by omega), cond_false]
 | k + 1, t, n + 1, l, h, ht, hn => by
  rw [zhq]
  unfold ziM
  rw [zab (by omega : (t : Int) < (V : Int)), cond_true, zas, zar (by omega), Int.toNat_natCast, h.1, zab (by omega : (t : Int) < (V : Int))]
  simp only [Bool.and_self, mst2]
  exact zwJ hV k (t + 1) n _ (znN h (by omega)) (by omega) (by omega)
theorem zwK {S : List Pr} {V N : Nat} {c0 : Int} {v2 : List Row} (hV : V < 1000000) :
  ∀ (k t n : Nat) (l : List Int), Own V t l -> t + k = V -> k < n ->
  ∃ l', ziP N n (t : Int) c0 (V : Int) v2 S l = zeS N N true c0 (V : Int) v2 S l' /\ Own V V l'
 | 0, t, n + 1, l, h, ht, hn => by
  obtain rfl : t = V := by omega
  refine ⟨l, ?_, h⟩
  rw [zhr]
  unfold ziO
  rw [zaa (by omega), cond_false]
 | k + 1, t, n + 1, l, h, ht, hn => by
  rw [zhr]
  unfold ziO
  rw [zab (by omega : (t : Int) < (V : Int)), cond_true, zas, zar (by omega), Int.toNat_natCast, h.1, zab (by omega : (t : Int) < (V : Int))]
  simp only [Bool.and_self, mst2]
  exact zwK hV k (t + 1) n _ (znN h (by omega)) (by omega) (by omega)
theorem zwL (B : Nat) : ∀ (l : List Int), (∀ i : Nat, i < l.length -> l.getD i 0 <= (B : Int)) -> smI l <= l.length * B
 | [], _ => by simp [smI]
 | x :: l, h => by
  have h0 := h 0 (by simp)
  have := zwL B l fun i hi => by
   have := h (i + 1) (by simpa using hi)
   simpa using this
  simp only [List.getD_cons_zero] at h0
  simp only [smI, List.length_cons, Nat.succ_mul]
  omega
theorem zsT {S : List Pr} {V : Nat} {l : List Int} (h : GoodC S V l) : smI l <= V * V := by
 have := zwL V l fun i hi => by
  rw [h.len] at hi
  have := h.le i hi
  omega
 rwa [h.len] at this
theorem ziQ {S : List Pr} {V N : Nat} {c0 : Int} {v2 : List Row} (hS : zbK S V) (hL : S.length <= 1000) (hV : V <= 200) (hN : 100000 <= N) (hm : q119 N c0 (V : Int) v2 S = some (0, ())) :
  ∃ l, q134 N c0 (V : Int) v2 S = some (l, ()) /\ q135 N c0 (V : Int) v2 S = some (l, ()) /\ GoodC S V l /\ FixC S l := by
 have hr : Own V 0 (List.replicate V 0) := ⟨List.length_replicate, fun i hi => absurd hi (by omega)⟩
 have hVV : V * V <= 200 * 200 := Nat.mul_le_mul hV hV
 obtain ⟨l1, e1, o1⟩ := zwJ (S := S) (N := N) (c0 := c0) (v1 := (V : Int)) (v2 := v2) (by omega) V 0 N _ hr (by omega) (by omega)
 obtain ⟨l2, e2, o2⟩ := zwK (S := S) (N := N) (c0 := c0) (v2 := v2) (by omega) V 0 N _ hr (by omega) (by omega)
 have g1 : GoodC S V l1 := znO o1
 have g2 : GoodC S V l2 := znO o2
 obtain ⟨m1, r1, h1, f1⟩ := zvA (N := N) (c0 := c0) (v1 := (V : Int)) (v2 := v2) hS (by omega) (by omega) (by omega) (by omega) (V * V) N l1 g1 (zsT g1) (by omega)
 obtain ⟨m2, r2, h2, f2⟩ := zvB (N := N) (c0 := c0) (v1 := (V : Int)) (v2 := v2) hS (by omega) (by omega) (V * V) N l2 g2 (zsT g2) (by omega)
 obtain rfl := zoR hS h1 h2 f1 f2
 refine ⟨m1, ?_, ?_, h1, f1⟩
 ·unfold q134
  rw [hm]
  simp only [bsm]
  rw [zax rfl, Bool.not_true, cond_false, zas, zax rfl, Int.toNat_natCast, zaE (by omega), List.length_replicate]
  simp only [Bool.and_self, mst2]
  exact e1.trans r1
 ·unfold q135
  rw [zas, zax rfl, Int.toNat_natCast, zaE (by omega)]
  simp only [Bool.and_self, mst2]
  exact e2.trans r2
end
section
theorem zak (r : Row) : Row.mk r.q0 r.q1 r.q2 r.q3 r.q4 r.q5 r.q6 r.q7 r.w0 r.w1 r.w2 = r := rfl
theorem zal (s : Stp) : Stp.mk s.kind s.v0 s.v1 s.v2 s.q0 s.q1 s.q2 s.q3 s.q4 = s := rfl
theorem zaq : Row.mk Fr.zero Fr.zero Fr.zero Fr.zero Fr.zero Fr.zero Fr.zero Fr.zero 0 0 0 = zrow := rfl
def q218 (N : Nat) : Option (Fr × Unit) :=
 Option.bind (q173 N (1 : UInt64)) fun rr0 => some ((rr0.1, ()))
theorem zCj : p218 = q218 := by
 (repeat (apply funext; intro _))
 simp only [p218, q218, zkF, zad, zag, zah, zaf, zak, zal, zaH, zaq]
def zmK (N : Nat) (A_14 : Int -> Row -> (List Int) -> Option (List Row × Int × Unit)) (i7 : Int) (ob0 : Row) (ob1 : List Int) : Option (List Row × Int × Unit) :=
 cond ((ltI i7 (3 : Int))) (must (leI (0 : Int) i7 && ltI i7 (↑(3 : Nat) : Int)) (cond (eqI i7 (↑(0 : Nat) : Int)) (must (eqI i7 (↑(0 : Nat) : Int)) (A_14 ((wr ((↑(0 : Nat) : Int) + (1 : Int)))) (Row.mk (ob0.q0) (ob0.q1) (ob0.q2) (ob0.q3) (ob0.q4) (ob0.q5) (ob0.q6) (ob0.q7) (mxI (List.getD ob1 i7.toNat (0 : Int)) (-1 : Int)) ob0.w1 ob0.w2) ob1)) (cond (eqI i7 (↑((0 : Nat) + (1 : Nat)) : Int)) (must (eqI i7 (↑((0 : Nat) + (1 : Nat)) : Int)) (A_14 ((wr ((↑((0 : Nat) + (1 : Nat)) : Int) + (1 : Int)))) (Row.mk (ob0.q0) (ob0.q1) (ob0.q2) (ob0.q3) (ob0.q4) (ob0.q5) (ob0.q6) (ob0.q7) ob0.w0 (mxI (List.getD ob1 i7.toNat (0 : Int)) (-1 : Int)) ob0.w2) ob1)) (must (eqI i7 (↑((0 : Nat) + (1 : Nat) + (1 : Nat)) : Int)) (must (eqI i7 (↑((0 : Nat) + (1 : Nat) + (1 : Nat)) : Int)) (A_14 ((wr ((↑((0 : Nat) + (1 : Nat) + (1 : Nat)) : Int) + (1 : Int)))) (Row.mk (ob0.q0) (ob0.q1) (ob0.q2) (ob0.q3) (ob0.q4) (ob0.q5) (ob0.q6) (ob0.q7) ob0.w0 ob0.w1 (mxI (List.getD ob1 i7.toNat (0 : Int)) (-1 : Int))) ob1)))))) (some (([ob0], (0 : Int), ())))
theorem zsU : zmd = zmK := by
 (repeat (apply funext; intro _))
 simp only [zmd, zmK, hide_eq, zad, zag, zah, zaf, zak, zal, zaH, zaq]
def zmL (N n : Nat) (i7 : Int) (ob0 : Row) (ob1 : List Int) : Option (List Row × Int × Unit) :=
 zan (fun A x => zmK N (fun i7 ob0 ob1 => A (((), ((), (i7, ()))), (ob0, (ob1, ())))) x.1.2.2.1 x.2.1 x.2.2.1) n (((), ((), (i7, ()))), (ob0, (ob1, ())))
theorem zsV : zme = zmL := by
 (repeat (apply funext; intro _))
 simp only [zme, zmL, zsU, zad, zag, zah, zaf, zak, zal, zaH, zaq]
def zmM (N : Nat) (A_10 : Int -> Stp -> Row -> (List Int) -> Option (List Row × Int × Unit)) (i6 : Int) (ob0 : Stp) (ob1 : Row) (ob2 : List Int) : Option (List Row × Int × Unit) :=
 cond ((ltI i6 (5 : Int))) (cond (eqI i6 (↑(0 : Nat) : Int)) (must (eqI i6 (↑(0 : Nat) : Int)) (cond (eqI i6 (↑(0 : Nat) : Int)) (A_10 ((wr ((↑(0 : Nat) : Int) + (1 : Int)))) (ob0) (Row.mk (ob0.q0) (ob1.q1) (ob1.q2) (ob1.q3) (ob1.q4) (ob1.q5) (ob1.q6) (ob1.q7) ob1.w0 ob1.w1 ob1.w2) ob2) (cond (eqI i6 (↑((0 : Nat) + (1 : Nat)) : Int)) (none) (cond (eqI i6 (↑((0 : Nat) + (1 : Nat) + (1 : Nat)) : Int)) (none) (cond (eqI i6 (↑((0 : Nat) + (1 : Nat) + (1 : Nat) + (1 : Nat)) : Int)) (none) (cond (eqI i6 (↑((0 : Nat) + (1 : Nat) + (1 : Nat) + (1 : Nat) + (1 : Nat)) : Int)) (none) (cond (eqI i6 (↑((0 : Nat) + (1 : Nat) + (1 : Nat) + (1 : Nat) + (1 : Nat) + (1 : Nat)) : Int)) (none) (cond (eqI i6 (↑((0 : Nat) + (1 : Nat) + (1 : Nat) + (1 : Nat) + (1 : Nat) + (1 : Nat) + (1 : Nat)) : Int)) (none) (must (eqI i6 (↑((0 : Nat) + (1 : Nat) + (1 : Nat) + (1 : Nat) + (1 : Nat) + (1 : Nat) + (1 : Nat) + (1 : Nat)) : Int)) (none)))))))))) (cond (eqI i6 (↑((0 : Nat) + (1 : Nat)) : Int)) (must (eqI i6 (↑((0 : Nat) + (1 : Nat)) : Int)) (cond (eqI i6 (↑(0 : Nat) : Int)) (none) (cond (eqI i6 (↑((0 : Nat) + (1 : Nat)) : Int)) (A_10 ((wr ((↑((0 : Nat) + (1 : Nat)) : Int) + (1 : Int)))) (ob0) (Row.mk (ob1.q0) (ob0.q1) (ob1.q2) (ob1.q3) (ob1.q4) (ob1.q5) (ob1.q6) (ob1.q7) ob1.w0 ob1.w1 ob1.w2) ob2) (cond (eqI i6 (↑((0 : Nat) + (1 : Nat) + (1 : Nat)) : Int)) (none) (cond (eqI i6 (↑((0 : Nat) + (1 : Nat) + (1 : Nat) + (1 : Nat)) : Int)) (none) (cond (eqI i6 (↑((0 : Nat) + (1 : Nat) + (1 : Nat) + (1 : Nat) + (1 : Nat)) : Int)) (none) (cond (eqI i6 (↑((0 : Nat) + (1 : Nat) + (1 : Nat) + (1 : Nat) + (1 : Nat) + (1 : Nat)) : Int)) (none) (cond (eqI i6 (↑((0 : Nat) + (1 : Nat) + (1 : Nat) + (1 : Nat) + (1 : Nat) + (1 : Nat) + (1 : Nat)) : Int)) (none) (must (eqI i6 (↑((0 : Nat) + (1 : Nat) + (1 : Nat) + (1 : Nat) + (1 : Nat) + (1 : Nat) + (1 : Nat) + (1 : Nat)) : Int)) (none)))))))))) (cond (eqI i6 (↑((0 : Nat) + (1 : Nat) + (1 : Nat)) : Int)) (must (eqI i6 (↑((0 : Nat) + (1 : Nat) + (1 : Nat)) : Int)) (cond (eqI i6 (↑(0 : Nat) : Int)) (none) (cond (eqI i6 (↑((0 : Nat) + (1 : Nat)) : Int)) (none) (cond (eqI i6 (↑((0 : Nat) + (1 : Nat) + (1 : Nat)) : Int)) (A_10 ((wr ((↑((0 : Nat) + (1 : Nat) + (1 : Nat)) : Int) + (1 : Int)))) (ob0) (Row.mk (ob1.q0) (ob1.q1) (ob0.q2) (ob1.q3) (ob1.q4) (ob1.q5) (ob1.q6) (ob1.q7) ob1.w0 ob1.w1 ob1.w2) ob2) (cond (eqI i6 (↑((0 : Nat) + (1 : Nat) + (1 : Nat) + (1 : Nat)) : Int)) (none) (cond (eqI i6 (↑((0 : Nat) + (1 : Nat) + (1 : Nat) + (1 : Nat) + (1 : Nat)) : Int)) (none) (cond (eqI i6 (↑((0 : Nat) + (1 : Nat) + (1 : Nat) + (1 : Nat) + (1 : Nat) + (1 : Nat)) : Int)) (none) (cond (eqI i6 (↑((0 : Nat) + (1 : Nat) + (1 : Nat) + (1 : Nat) + (1 : Nat) + (1 : Nat) + (1 : Nat)) : Int)) (none) (must (eqI i6 (↑((0 : Nat) + (1 : Nat) + (1 : Nat) + (1 : Nat) + (1 : Nat) + (1 : Nat) + (1 : Nat) + (1 : Nat)) : Int)) (none)))))))))) (cond (eqI i6 (↑((0 : Nat) + (1 : Nat) + (1 : Nat) + (1 : Nat)) : Int)) (must (eqI i6 (↑((0 : Nat) + (1 : Nat) + (1 : Nat) + (1 : Nat)) : Int)) (cond (eqI i6 (↑(0 : Nat) : Int)) (none) (cond (eqI i6 (↑((0 : Nat) + (1 : Nat)) : Int)) (none) (cond (eqI i6 (↑((0 : Nat) + (1 : Nat) + (1 : Nat)) : Int)) (none) (cond (eqI i6 (↑((0 : Nat) + (1 : Nat) + (1 : Nat) + (1 : Nat)) : Int)) (A_10 ((wr ((↑((0 : Nat) + (1 : Nat) + (1 : Nat) + (1 : Nat)) : Int) + (1 : Int)))) (ob0) (Row.mk (ob1.q0) (ob1.q1) (ob1.q2) (ob0.q3) (ob1.q4) (ob1.q5) (ob1.q6) (ob1.q7) ob1.w0 ob1.w1 ob1.w2) ob2) (cond (eqI i6 (↑((0 : Nat) + (1 : Nat) + (1 : Nat) + (1 : Nat) + (1 : Nat)) : Int)) (none) (cond (eqI i6 (↑((0 : Nat) + (1 : Nat) + (1 : Nat) + (1 : Nat) + (1 : Nat) + (1 : Nat)) : Int)) (none) (cond (eqI i6 (↑((0 : Nat) + (1 : Nat) + (1 : Nat) + (1 : Nat) + (1 : Nat) + (1 : Nat) + (1 : Nat)) : Int)) (none) (must (eqI i6 (↑((0 : Nat) + (1 : Nat) + (1 : Nat) + (1 : Nat) + (1 : Nat) + (1 : Nat) + (1 : Nat) + (1 : Nat)) : Int)) (none)))))))))) (must (eqI i6 (↑((0 : Nat) + (1 : Nat) + (1 : Nat) + (1 : Nat) + (1 : Nat)) : Int)) (must (eqI i6 (↑((0 : Nat) + (1 : Nat) + (1 : Nat) + (1 : Nat) + (1 : Nat)) : Int)) (cond (eqI i6 (↑(0 : Nat) : Int)) (none) (cond (eqI i6 (↑((0 : Nat) + (1 : Nat)) : Int)) (none) (cond (eqI i6 (↑((0 : Nat) + (1 : Nat) + (1 : Nat)) : Int)) (none) (cond (eqI i6 (↑((0 : Nat) + (1 : Nat) + (1 : Nat) + (1 : Nat)) : Int)) (none) (cond (eqI i6 (↑((0 : Nat) + (1 : Nat) + (1 : Nat) + (1 : Nat) + (1 : Nat)) : Int)) (A_10 ((wr ((↑((0 : Nat) + (1 : Nat) + (1 : Nat) + (1 : Nat) + (1 : Nat)) : Int) + (1 : Int)))) (ob0) (Row.mk (ob1.q0) (ob1.q1) (ob1.q2) (ob1.q3) (ob0.q4) (ob1.q5) (ob1.q6) (ob1.q7) ob1.w0 ob1.w1 ob1.w2) ob2) (cond (eqI i6 (↑((0 : Nat) + (1 : Nat) + (1 : Nat) + (1 : Nat) + (1 : Nat) + (1 : Nat)) : Int)) (none) (cond (eqI i6 (↑((0 : Nat) + (1 : Nat) + (1 : Nat) + (1 : Nat) + (1 : Nat) + (1 : Nat) + (1 : Nat)) : Int)) (none) (must (eqI i6 (↑((0 : Nat) + (1 : Nat) + (1 : Nat) + (1 : Nat) + (1 : Nat) + (1 : Nat) + (1 : Nat) + (1 : Nat)) : Int)) (none))))))))))))))) (zmL N N (0 : Int) (ob1) ob2)
theorem zsW : zmf = zmM := by
 (repeat (apply funext; intro _))
 simp only [zmf, zmM, hide_eq, zsV, zad, zag, zah, zaf, zak, zal, zaH, zaq]
def zjO (N n : Nat) (i6 : Int) (ob0 : Stp) (ob1 : Row) (ob2 : List Int) : Option (List Row × Int × Unit) :=
 zan (fun A x => zmM N (fun i6 ob0 ob1 ob2 => A (((), ((), ((), (i6, ())))), (ob0, (ob1, (ob2, ()))))) x.1.2.2.2.1 x.2.1 x.2.2.1 x.2.2.2.1) n (((), ((), ((), (i6, ())))), (ob0, (ob1, (ob2, ()))))
theorem zsX : zmg = zjO := by
 (repeat (apply funext; intro _))
 simp only [zmg, zjO, zsW, zad, zag, zah, zaf, zak, zal, zaH, zaq]
def q197 (N : Nat) (s0 : Stp) : Option (List Row × Int × Unit) :=
 cond ((eqI s0.kind (1 : Int))) (cond ((eqI s0.kind (1 : Int))) (some (([], (0 : Int), ()))) (cond ((eqI s0.kind (2 : Int))) (zjO N N (0 : Int) (s0) (Row.mk (Fr.zero) (Fr.zero) (Fr.zero) (Fr.zero) (Fr.zero) (Fr.zero) (Fr.zero) (Fr.zero) (-1 : Int) (-1 : Int) (-1 : Int)) ([Stp.v0 s0, Stp.v1 s0, Stp.v2 s0])) (cond ((eqI s0.kind (3 : Int))) (Option.bind (q218 N) fun rr7 => some (([Row.mk (Fr.zero) (Fr.zero) (Fr.zero) (Fr.zero) (Fr.zero) (rr7.1) (Fr.zero) (Fr.zero) s0.v0 (-1 : Int) (-1 : Int)], (0 : Int), ()))) (cond ((eqI s0.kind (4 : Int))) (Option.bind (q218 N) fun rr6 => some (([Row.mk (Fr.zero) (Fr.zero) (Fr.zero) (Fr.zero) (Fr.zero) (Fr.zero) (rr6.1) (Fr.zero) s0.v0 (-1 : Int) s0.v2], (0 : Int), ()))) (cond ((eqI s0.kind (7 : Int))) (Option.bind (q218 N) fun rr5 => some (([Row.mk (Fr.zero) (rr5.1) (Fr.zero) (Fr.zero) (Fr.zero) (Fr.zero) (Fr.zero) (Fr.zero) s0.v0 (-1 : Int) (-1 : Int)], (0 : Int), ()))) (cond ((eqI s0.kind (5 : Int))) (Option.bind (q218 N) fun rr4 => some (([Row.mk (Fr.zero) (Fr.zero) (Fr.zero) (Fr.zero) (Fr.zero) (Fr.zero) (Fr.zero) (rr4.1) s0.v0 s0.v1 (-1 : Int), Row.mk (Fr.zero) (Fr.zero) (Fr.zero) (Fr.zero) (Fr.zero) (Fr.zero) (Fr.zero) (Fr.zero) s0.v2 (-1 : Int) (-1 : Int)], (0 : Int), ()))) (some (([], (11 : Int), ()))))))))) (cond ((eqI s0.kind (6 : Int))) (some (([], (0 : Int), ()))) (cond ((eqI s0.kind (2 : Int))) (zjO N N (0 : Int) (s0) (Row.mk (Fr.zero) (Fr.zero) (Fr.zero) (Fr.zero) (Fr.zero) (Fr.zero) (Fr.zero) (Fr.zero) (-1 : Int) (-1 : Int) (-1 : Int)) ([Stp.v0 s0, Stp.v1 s0, Stp.v2 s0])) (cond ((eqI s0.kind (3 : Int))) (Option.bind (q218 N) fun rr3 => some (([Row.mk (Fr.zero) (Fr.zero) (Fr.zero) (Fr.zero) (Fr.zero) (rr3.1) (Fr.zero) (Fr.zero) s0.v0 (-1 : Int) (-1 : Int)], (0 : Int), ()))) (cond ((eqI s0.kind (4 : Int))) (Option.bind (q218 N) fun rr2 => some (([Row.mk (Fr.zero) (Fr.zero) (Fr.zero) (Fr.zero) (Fr.zero) (Fr.zero) (rr2.1) (Fr.zero) s0.v0 (-1 : Int) s0.v2], (0 : Int), ()))) (cond ((eqI s0.kind (7 : Int))) (Option.bind (q218 N) fun rr1 => some (([Row.mk (Fr.zero) (rr1.1) (Fr.zero) (Fr.zero) (Fr.zero) (Fr.zero) (Fr.zero) (Fr.zero) s0.v0 (-1 : Int) (-1 : Int)], (0 : Int), ()))) (cond ((eqI s0.kind (5 : Int))) (Option.bind (q218 N) fun rr0 => some (([Row.mk (Fr.zero) (Fr.zero) (Fr.zero) (Fr.zero) (Fr.zero) (Fr.zero) (Fr.zero) (rr0.1) s0.v0 s0.v1 (-1 : Int), Row.mk (Fr.zero) (Fr.zero) (Fr.zero) (Fr.zero) (Fr.zero) (Fr.zero) (Fr.zero) (Fr.zero) s0.v2 (-1 : Int) (-1 : Int)], (0 : Int), ()))) (some (([], (11 : Int), ())))))))))
theorem zwM : p197 = q197 := by
 (repeat (apply funext; intro _))
 simp only [p197, q197, hide_eq, zsX, zCj, zad, zag, zah, zaf, zak, zal, zaH, zaq]
def zej (N : Nat) (A_22 : Bool -> Bool -> Bool -> Int -> Int -> Int -> (List Row) -> (List Pr) -> Option (Int × Unit)) (A_25 : Bool -> Bool -> Bool -> Int -> Int -> Int -> Int -> (List Row) -> (List Pr) -> Option (Int × Unit)) (big3 unknown4 form5 : Bool) (i12 k13 ob0_0 ob0_1 : Int) (ob0_2 : List Row) (ob0_3 : List Pr) : Option (Int × Unit) :=
 cond ((ltI k13 (2 : Int))) (cond unknown4 (A_25 big3 true form5 i12 ((wr (k13 + (1 : Int)))) ob0_0 ob0_1 ob0_2 ob0_3) (must (leI (0 : Int) i12 && ltI i12 (↑ob0_3.length : Int)) (cond (eqI k13 (↑(0 : Nat) : Int)) (must (eqI k13 (↑(0 : Nat) : Int)) (cond ((ltI (Pr.x (List.getD ob0_3 i12.toNat (Pr.mk (0 : Int) (0 : Int)))) (0 : Int))) (A_25 big3 true form5 i12 ((wr ((↑(0 : Nat) : Int) + (1 : Int)))) ob0_0 ob0_1 ob0_2 ob0_3) (must (leI (0 : Int) i12 && ltI i12 (↑ob0_3.length : Int)) (A_25 big3 ((leI ob0_1 (Pr.x (List.getD ob0_3 i12.toNat (Pr.mk (0 : Int) (0 : Int)))))) form5 i12 ((wr ((↑(0 : Nat) : Int) + (1 : Int)))) ob0_0 ob0_1 ob0_2 ob0_3)))) (must (eqI k13 (↑((0 : Nat) + (1 : Nat)) : Int)) (must (eqI k13 (↑((0 : Nat) + (1 : Nat)) : Int)) (cond ((ltI (Pr.y (List.getD ob0_3 i12.toNat (Pr.mk (0 : Int) (0 : Int)))) (0 : Int))) (A_25 big3 true form5 i12 ((wr ((↑((0 : Nat) + (1 : Nat)) : Int) + (1 : Int)))) ob0_0 ob0_1 ob0_2 ob0_3) (must (leI (0 : Int) i12 && ltI i12 (↑ob0_3.length : Int)) (A_25 big3 ((leI ob0_1 (Pr.y (List.getD ob0_3 i12.toNat (Pr.mk (0 : Int) (0 : Int)))))) form5 i12 ((wr ((↑((0 : Nat) + (1 : Nat)) : Int) + (1 : Int)))) ob0_0 ob0_1 ob0_2 ob0_3)))))))) (A_22 big3 unknown4 form5 ((wr (i12 + (1 : Int)))) ob0_0 ob0_1 ob0_2 ob0_3)
theorem zsY : zmh = zej := by
 (repeat (apply funext; intro _))
 simp only [zmh, zej, hide_eq, zad, zag, zah, zaf, zak, zal, zaH, zaq]
def zce (N : Nat) (A_22 : Bool -> Bool -> Bool -> Int -> Int -> Int -> (List Row) -> (List Pr) -> Option (Int × Unit)) (n : Nat) (big3 unknown4 form5 : Bool) (i12 k13 ob0_0 ob0_1 : Int) (ob0_2 : List Row) (ob0_3 : List Pr) : Option (Int × Unit) :=
 zan (fun A x => zej N A_22 (fun big3 unknown4 form5 i12 k13 ob0_0 ob0_1 ob0_2 ob0_3 => A (((), (big3, (unknown4, (form5, (i12, (k13, ())))))), ((ob0_0, (ob0_1, (ob0_2, (ob0_3, ())))), ()))) x.1.2.1 x.1.2.2.1 x.1.2.2.2.1 x.1.2.2.2.2.1 x.1.2.2.2.2.2.1 x.2.1.1 x.2.1.2.1 x.2.1.2.2.1 x.2.1.2.2.2.1) n (((), (big3, (unknown4, (form5, (i12, (k13, ())))))), ((ob0_0, (ob0_1, (ob0_2, (ob0_3, ())))), ()))
theorem zsZ : zmi = zce := by
 (repeat (apply funext; intro _))
 simp only [zmi, zce, zsY, zad, zag, zah, zaf, zak, zal, zaH, zaq]
theorem zdz (N : Nat) (A_22 : Bool -> Bool -> Bool -> Int -> Int -> Int -> (List Row) -> (List Pr) -> Option (Int × Unit)) (n : Nat) (big3 unknown4 form5 : Bool) (i12 k13 ob0_0 ob0_1 : Int) (ob0_2 : List Row) (ob0_3 : List Pr) : zce N A_22 (n + 1) big3 unknown4 form5 i12 k13 ob0_0 ob0_1 ob0_2 ob0_3 = zej N A_22 (zce N A_22 n) big3 unknown4 form5 i12 k13 ob0_0 ob0_1 ob0_2 ob0_3 := rfl
def zfn (N : Nat) (A_22 : Bool -> Bool -> Bool -> Int -> Int -> Int -> (List Row) -> (List Pr) -> Option (Int × Unit)) (big3 unknown4 form5 : Bool) (i12 ob0_0 ob0_1 : Int) (ob0_2 : List Row) (ob0_3 : List Pr) : Option (Int × Unit) :=
 cond ((ltI i12 (↑ob0_3.length : Int))) (zce N A_22 N big3 unknown4 form5 i12 (0 : Int) ob0_0 ob0_1 ob0_2 ob0_3) (cond big3 (some (((4 : Int), ()))) (cond unknown4 (some (((10 : Int), ()))) (cond form5 (some (((3 : Int), ()))) (some (((0 : Int), ()))))))
theorem zs0 : zmj = zfn := by
 (repeat (apply funext; intro _))
 simp only [zmj, zfn, hide_eq, zsZ, zad, zag, zah, zaf, zak, zal, zaH, zaq]
def zek (N n : Nat) (big3 unknown4 form5 : Bool) (i12 ob0_0 ob0_1 : Int) (ob0_2 : List Row) (ob0_3 : List Pr) : Option (Int × Unit) :=
 zan (fun A x => zfn N (fun big3 unknown4 form5 i12 ob0_0 ob0_1 ob0_2 ob0_3 => A (((), (big3, (unknown4, (form5, (i12, ()))))), ((ob0_0, (ob0_1, (ob0_2, (ob0_3, ())))), ()))) x.1.2.1 x.1.2.2.1 x.1.2.2.2.1 x.1.2.2.2.2.1 x.2.1.1 x.2.1.2.1 x.2.1.2.2.1 x.2.1.2.2.2.1) n (((), (big3, (unknown4, (form5, (i12, ()))))), ((ob0_0, (ob0_1, (ob0_2, (ob0_3, ())))), ()))
theorem zs1 : zmk = zek := by
 (repeat (apply funext; intro _))
 simp only [zmk, zek, zs0, zad, zag, zah, zaf, zak, zal, zaH, zaq]
theorem zfT (N n : Nat) (big3 unknown4 form5 : Bool) (i12 ob0_0 ob0_1 : Int) (ob0_2 : List Row) (ob0_3 : List Pr) : zek N (n + 1) big3 unknown4 form5 i12 ob0_0 ob0_1 ob0_2 ob0_3 = zfn N (zek N n) big3 unknown4 form5 i12 ob0_0 ob0_1 ob0_2 ob0_3 := rfl
def zfo (N : Nat) (A_7 : Bool -> Bool -> Bool -> Int -> Int -> Int -> (List Row) -> (List Pr) -> Option (Int × Unit)) (A_15 : Bool -> Bool -> Bool -> Int -> Int -> Int -> Int -> (List Row) -> (List Pr) -> Row -> Option (Int × Unit)) (big3 unknown4 form5 : Bool) (i6 k9 ob0_0 ob0_1 : Int) (ob0_2 : List Row) (ob0_3 : List Pr) (ob1 : Row) : Option (Int × Unit) :=
 cond ((ltI k9 (3 : Int))) (cond unknown4 (cond form5 (A_15 big3 true true i6 ((wr (k9 + (1 : Int)))) ob0_0 ob0_1 ob0_2 ob0_3 (ob1)) (cond (eqI k9 (↑(0 : Nat) : Int)) (must (eqI k9 (↑(0 : Nat) : Int)) (A_15 big3 true ((ltI ob1.w0 (-1 : Int))) i6 ((wr ((↑(0 : Nat) : Int) + (1 : Int)))) ob0_0 ob0_1 ob0_2 ob0_3 (ob1))) (cond (eqI k9 (↑((0 : Nat) + (1 : Nat)) : Int)) (must (eqI k9 (↑((0 : Nat) + (1 : Nat)) : Int)) (A_15 big3 true ((ltI ob1.w1 (-1 : Int))) i6 ((wr ((↑((0 : Nat) + (1 : Nat)) : Int) + (1 : Int)))) ob0_0 ob0_1 ob0_2 ob0_3 (ob1))) (must (eqI k9 (↑((0 : Nat) + (1 : Nat) + (1 : Nat)) : Int)) (must (eqI k9 (↑((0 : Nat) + (1 : Nat) + (1 : Nat)) : Int)) (A_15 big3 true ((ltI ob1.w2 (-1 : Int))) i6 ((wr ((↑((0 : Nat) + (1 : Nat) + (1 : Nat)) : Int) + (1 : Int)))) ob0_0 ob0_1 ob0_2 ob0_3 (ob1))))))) (cond (eqI k9 (↑(0 : Nat) : Int)) (must (eqI k9 (↑(0 : Nat) : Int)) (cond form5 (A_15 big3 ((leI ob0_1 ob1.w0)) true i6 ((wr ((↑(0 : Nat) : Int) + (1 : Int)))) ob0_0 ob0_1 ob0_2 ob0_3 (ob1)) (A_15 big3 ((leI ob0_1 ob1.w0)) ((ltI ob1.w0 (-1 : Int))) i6 ((wr ((↑(0 : Nat) : Int) + (1 : Int)))) ob0_0 ob0_1 ob0_2 ob0_3 (ob1)))) (cond (eqI k9 (↑((0 : Nat) + (1 : Nat)) : Int)) (must (eqI k9 (↑((0 : Nat) + (1 : Nat)) : Int)) (cond form5 (A_15 big3 ((leI ob0_1 ob1.w1)) true i6 ((wr ((↑((0 : Nat) + (1 : Nat)) : Int) + (1 : Int)))) ob0_0 ob0_1 ob0_2 ob0_3 (ob1)) (A_15 big3 ((leI ob0_1 ob1.w1)) ((ltI ob1.w1 (-1 : Int))) i6 ((wr ((↑((0 : Nat) + (1 : Nat)) : Int) + (1 : Int)))) ob0_0 ob0_1 ob0_2 ob0_3 (ob1)))) (must (eqI k9 (↑((0 : Nat) + (1 : Nat) + (1 : Nat)) : Int)) (must (eqI k9 (↑((0 : Nat) + (1 : Nat) + (1 : Nat)) : Int)) (cond form5 (A_15 big3 ((leI ob0_1 ob1.w2)) true i6 ((wr ((↑((0 : Nat) + (1 : Nat) + (1 : Nat)) : Int) + (1 : Int)))) ob0_0 ob0_1 ob0_2 ob0_3 (ob1)) (A_15 big3 ((leI ob0_1 ob1.w2)) ((ltI ob1.w2 (-1 : Int))) i6 ((wr ((↑((0 : Nat) + (1 : Nat) + (1 : Nat)) : Int) + (1 : Int)))) ob0_0 ob0_1 ob0_2 ob0_3 (ob1)))))))) (Option.bind (q197 N (Stp.mk (7 : Int) ob1.w0 (0 : Int) (0 : Int) (Fr.zero) (Fr.zero) (Fr.zero) (Fr.zero) (Fr.zero))) fun rr0 => cond form5 (A_7 big3 unknown4 true ((wr (i6 + (1 : Int)))) ob0_0 ob0_1 ob0_2 ob0_3) (cond ((ltI i6 ob0_0)) (cond ((ltI ob1.w0 (0 : Int))) (A_7 big3 unknown4 true ((wr (i6 + (1 : Int)))) ob0_0 ob0_1 ob0_2 ob0_3) (must (ltI (0 : Int) (↑rr0.1.length : Int)) (A_7 big3 unknown4 (!(zaH ob1 (List.getD rr0.1 (0 : Nat) zrow))) ((wr (i6 + (1 : Int)))) ob0_0 ob0_1 ob0_2 ob0_3))) (A_7 big3 unknown4 false ((wr (i6 + (1 : Int)))) ob0_0 ob0_1 ob0_2 ob0_3)))
theorem zs2 : zml = zfo := by
 (repeat (apply funext; intro _))
 simp only [zml, zfo, hide_eq, zwM, zad, zag, zah, zaf, zak, zal, zaH, zaq]
def zcf (N : Nat) (A_7 : Bool -> Bool -> Bool -> Int -> Int -> Int -> (List Row) -> (List Pr) -> Option (Int × Unit)) (n : Nat) (big3 unknown4 form5 : Bool) (i6 k9 ob0_0 ob0_1 : Int) (ob0_2 : List Row) (ob0_3 : List Pr) (ob1 : Row) : Option (Int × Unit) :=
 zan (fun A x => zfo N A_7 (fun big3 unknown4 form5 i6 k9 ob0_0 ob0_1 ob0_2 ob0_3 ob1 => A (((), (big3, (unknown4, (form5, (i6, ((), (k9, ()))))))), ((ob0_0, (ob0_1, (ob0_2, (ob0_3, ())))), (ob1, ())))) x.1.2.1 x.1.2.2.1 x.1.2.2.2.1 x.1.2.2.2.2.1 x.1.2.2.2.2.2.2.1 x.2.1.1 x.2.1.2.1 x.2.1.2.2.1 x.2.1.2.2.2.1 x.2.2.1) n (((), (big3, (unknown4, (form5, (i6, ((), (k9, ()))))))), ((ob0_0, (ob0_1, (ob0_2, (ob0_3, ())))), (ob1, ())))
theorem zs3 : zmm = zcf := by
 (repeat (apply funext; intro _))
 simp only [zmm, zcf, zs2, zad, zag, zah, zaf, zak, zal, zaH, zaq]
theorem zfU (N : Nat) (A_7 : Bool -> Bool -> Bool -> Int -> Int -> Int -> (List Row) -> (List Pr) -> Option (Int × Unit)) (n : Nat) (big3 unknown4 form5 : Bool) (i6 k9 ob0_0 ob0_1 : Int) (ob0_2 : List Row) (ob0_3 : List Pr) (ob1 : Row) : zcf N A_7 (n + 1) big3 unknown4 form5 i6 k9 ob0_0 ob0_1 ob0_2 ob0_3 ob1 = zfo N A_7 (zcf N A_7 n) big3 unknown4 form5 i6 k9 ob0_0 ob0_1 ob0_2 ob0_3 ob1 := rfl
def zfp (N : Nat) (A_7 : Bool -> Bool -> Bool -> Int -> Int -> Int -> (List Row) -> (List Pr) -> Option (Int × Unit)) (A_11 : Bool -> Bool -> Bool -> Int -> Int -> Int -> Int -> (List Row) -> (List Pr) -> Row -> Option (Int × Unit)) (big3 unknown4 form5 : Bool) (i6 k8 ob0_0 ob0_1 : Int) (ob0_2 : List Row) (ob0_3 : List Pr) (ob1 : Row) : Option (Int × Unit) :=
 cond ((ltI k8 (8 : Int))) (cond big3 (A_11 true unknown4 form5 i6 ((wr (k8 + (1 : Int)))) ob0_0 ob0_1 ob0_2 ob0_3 (ob1)) (cond (eqI k8 (↑(0 : Nat) : Int)) (must (eqI k8 (↑(0 : Nat) : Int)) (Option.bind (q69 N (ob1.q0)) fun rr7 => A_11 (!rr7.1) unknown4 form5 i6 ((wr ((↑(0 : Nat) : Int) + (1 : Int)))) ob0_0 ob0_1 ob0_2 ob0_3 (ob1))) (cond (eqI k8 (↑((0 : Nat) + (1 : Nat)) : Int)) (must (eqI k8 (↑((0 : Nat) + (1 : Nat)) : Int)) (Option.bind (q69 N (ob1.q1)) fun rr6 => A_11 (!rr6.1) unknown4 form5 i6 ((wr ((↑((0 : Nat) + (1 : Nat)) : Int) + (1 : Int)))) ob0_0 ob0_1 ob0_2 ob0_3 (ob1))) (cond (eqI k8 (↑((0 : Nat) + (1 : Nat) + (1 : Nat)) : Int)) (must (eqI k8 (↑((0 : Nat) + (1 : Nat) + (1 : Nat)) : Int)) (Option.bind (q69 N (ob1.q2)) fun rr5 => A_11 (!rr5.1) unknown4 form5 i6 ((wr ((↑((0 : Nat) + (1 : Nat) + (1 : Nat)) : Int) + (1 : Int)))) ob0_0 ob0_1 ob0_2 ob0_3 (ob1))) (cond (eqI k8 (↑((0 : Nat) + (1 : Nat) + (1 : Nat) + (1 : Nat)) : Int)) (must (eqI k8 (↑((0 : Nat) + (1 : Nat) + (1 : Nat) + (1 : Nat)) : Int)) (Option.bind (q69 N (ob1.q3)) fun rr4 => A_11 (!rr4.1) unknown4 form5 i6 ((wr ((↑((0 : Nat) + (1 : Nat) + (1 : Nat) + (1 : Nat)) : Int) + (1 : Int)))) ob0_0 ob0_1 ob0_2 ob0_3 (ob1))) (cond (eqI k8 (↑((0 : Nat) + (1 : Nat) + (1 : Nat) + (1 : Nat) + (1 : Nat)) : Int)) (must (eqI k8 (↑((0 : Nat) + (1 : Nat) + (1 : Nat) + (1 : Nat) + (1 : Nat)) : Int)) (Option.bind (q69 N (ob1.q4)) fun rr3 => A_11 (!rr3.1) unknown4 form5 i6 ((wr ((↑((0 : Nat) + (1 : Nat) + (1 : Nat) + (1 : Nat) + (1 : Nat)) : Int) + (1 : Int)))) ob0_0 ob0_1 ob0_2 ob0_3 (ob1))) (cond (eqI k8 (↑((0 : Nat) + (1 : Nat) + (1 : Nat) + (1 : Nat) + (1 : Nat) + (1 : Nat)) : Int)) (must (eqI k8 (↑((0 : Nat) + (1 : Nat) + (1 : Nat) + (1 : Nat) + (1 : Nat) + (1 : Nat)) : Int)) (Option.bind (q69 N (ob1.q5)) fun rr2 => A_11 (!rr2.1) unknown4 form5 i6 ((wr ((↑((0 : Nat) + (1 : Nat) + (1 : Nat) + (1 : Nat) + (1 : Nat) + (1 : Nat)) : Int) + (1 : Int)))) ob0_0 ob0_1 ob0_2 ob0_3 (ob1))) (cond (eqI k8 (↑((0 : Nat) + (1 : Nat) + (1 : Nat) + (1 : Nat) + (1 : Nat) + (1 : Nat) + (1 : Nat)) : Int)) (must (eqI k8 (↑((0 : Nat) + (1 : Nat) + (1 : Nat) + (1 : Nat) + (1 : Nat) + (1 : Nat) + (1 : Nat)) : Int)) (Option.bind (q69 N (ob1.q6)) fun rr1 => A_11 (!rr1.1) unknown4 form5 i6 ((wr ((↑((0 : Nat) + (1 : Nat) + (1 : Nat) + (1 : Nat) + (1 : Nat) + (1 : Nat) + (1 : Nat)) : Int) + (1 : Int)))) ob0_0 ob0_1 ob0_2 ob0_3 (ob1))) (must (eqI k8 (↑((0 : Nat) + (1 : Nat) + (1 : Nat) + (1 : Nat) + (1 : Nat) + (1 : Nat) + (1 : Nat) + (1 : Nat)) : Int)) (must (eqI k8 (↑((0 : Nat) + (1 : Nat) + (1 : Nat) + (1 : Nat) + (1 : Nat) + (1 : Nat) + (1 : Nat) + (1 : Nat)) : Int)) (Option.bind (q69 N (ob1.q7)) fun rr0 => A_11 (!rr0.1) unknown4 form5 i6 ((wr ((↑((0 : Nat) + (1 : Nat) + (1 : Nat) + (1 : Nat) + (1 : Nat) + (1 : Nat) + (1 : Nat) + (1 : Nat)) : Int) + (1 : Int)))) ob0_0 ob0_1 ob0_2 ob0_3 (ob1)))))))))))) (zcf N A_7 N big3 unknown4 form5 i6 (0 : Int) ob0_0 ob0_1 ob0_2 ob0_3 (ob1))
theorem zs4 : zmn = zfp := by
 (repeat (apply funext; intro _))
 simp only [zmn, zfp, hide_eq, zs3, zyC, zad, zag, zah, zaf, zak, zal, zaH, zaq]
def zda (N : Nat) (A_7 : Bool -> Bool -> Bool -> Int -> Int -> Int -> (List Row) -> (List Pr) -> Option (Int × Unit)) (n : Nat) (big3 unknown4 form5 : Bool) (i6 k8 ob0_0 ob0_1 : Int) (ob0_2 : List Row) (ob0_3 : List Pr) (ob1 : Row) : Option (Int × Unit) :=
 zan (fun A x => zfp N A_7 (fun big3 unknown4 form5 i6 k8 ob0_0 ob0_1 ob0_2 ob0_3 ob1 => A (((), (big3, (unknown4, (form5, (i6, ((), (k8, ()))))))), ((ob0_0, (ob0_1, (ob0_2, (ob0_3, ())))), (ob1, ())))) x.1.2.1 x.1.2.2.1 x.1.2.2.2.1 x.1.2.2.2.2.1 x.1.2.2.2.2.2.2.1 x.2.1.1 x.2.1.2.1 x.2.1.2.2.1 x.2.1.2.2.2.1 x.2.2.1) n (((), (big3, (unknown4, (form5, (i6, ((), (k8, ()))))))), ((ob0_0, (ob0_1, (ob0_2, (ob0_3, ())))), (ob1, ())))
theorem zs5 : zmo = zda := by
 (repeat (apply funext; intro _))
 simp only [zmo, zda, zs4, zad, zag, zah, zaf, zak, zal, zaH, zaq]
theorem zfV (N : Nat) (A_7 : Bool -> Bool -> Bool -> Int -> Int -> Int -> (List Row) -> (List Pr) -> Option (Int × Unit)) (n : Nat) (big3 unknown4 form5 : Bool) (i6 k8 ob0_0 ob0_1 : Int) (ob0_2 : List Row) (ob0_3 : List Pr) (ob1 : Row) : zda N A_7 (n + 1) big3 unknown4 form5 i6 k8 ob0_0 ob0_1 ob0_2 ob0_3 ob1 = zfp N A_7 (zda N A_7 n) big3 unknown4 form5 i6 k8 ob0_0 ob0_1 ob0_2 ob0_3 ob1 := rfl
def ziR (N : Nat) (A_7 : Bool -> Bool -> Bool -> Int -> Int -> Int -> (List Row) -> (List Pr) -> Option (Int × Unit)) (big3 unknown4 form5 : Bool) (i6 ob0_0 ob0_1 : Int) (ob0_2 : List Row) (ob0_3 : List Pr) : Option (Int × Unit) :=
 cond ((ltI i6 (↑ob0_2.length : Int))) (must (leI (0 : Int) i6 && ltI i6 (↑ob0_2.length : Int)) (zda N A_7 N big3 unknown4 form5 i6 (0 : Int) ob0_0 ob0_1 ob0_2 ob0_3 ((List.getD ob0_2 i6.toNat zrow)))) (zek N N big3 unknown4 form5 (0 : Int) ob0_0 ob0_1 ob0_2 ob0_3)
theorem zvC : zry = ziR := by
 (repeat (apply funext; intro _))
 simp only [zry, ziR, hide_eq, zs5, zs1, zad, zag, zah, zaf, zak, zal, zaH, zaq]
def ziS (N n : Nat) (big3 unknown4 form5 : Bool) (i6 ob0_0 ob0_1 : Int) (ob0_2 : List Row) (ob0_3 : List Pr) : Option (Int × Unit) :=
 zan (fun A x => ziR N (fun big3 unknown4 form5 i6 ob0_0 ob0_1 ob0_2 ob0_3 => A (((), (big3, (unknown4, (form5, (i6, ()))))), ((ob0_0, (ob0_1, (ob0_2, (ob0_3, ())))), ()))) x.1.2.1 x.1.2.2.1 x.1.2.2.2.1 x.1.2.2.2.2.1 x.2.1.1 x.2.1.2.1 x.2.1.2.2.1 x.2.1.2.2.2.1) n (((), (big3, (unknown4, (form5, (i6, ()))))), ((ob0_0, (ob0_1, (ob0_2, (ob0_3, ())))), ()))
theorem zvD : zrz = ziS := by
 (repeat (apply funext; intro _))
 simp only [zrz, ziS, zvC, zad, zag, zah, zaf, zak, zal, zaH, zaq]
theorem zht (N n : Nat) (big3 unknown4 form5 : Bool) (i6 ob0_0 ob0_1 : Int) (ob0_2 : List Row) (ob0_3 : List Pr) : ziS N (n + 1) big3 unknown4 form5 i6 ob0_0 ob0_1 ob0_2 ob0_3 = ziR N (ziS N n) big3 unknown4 form5 i6 ob0_0 ob0_1 ob0_2 ob0_3 := rfl
def q130 (N : Nat) (c0 v1 : Int) (v2 : List Row) (v3 : List Pr) : Option (Int × Unit) :=
 cond ((ltI (8 : Int) c0)) (some (((8 : Int), ()))) (cond ((ltI (200 : Int) v1)) (some (((8 : Int), ()))) (cond ((ltI (64 : Int) (↑v2.length : Int))) (some (((8 : Int), ()))) (cond ((ltI (200 : Int) (↑v3.length : Int))) (some (((8 : Int), ()))) (cond ((ltI c0 (0 : Int))) (some (((1 : Int), ()))) (cond ((ltI v1 (0 : Int))) (some (((1 : Int), ()))) (cond ((ltI (↑v2.length : Int) c0)) (some (((1 : Int), ()))) (ziS N N false false false (0 : Int) c0 v1 v2 v3)))))))
theorem zCk : p130 = q130 := by
 (repeat (apply funext; intro _))
 simp only [p130, q130, hide_eq, zvD, zad, zag, zah, zaf, zak, zal, zaH, zaq]
end
end Go.Proofs.Ytgimohchocjgcaa.V
