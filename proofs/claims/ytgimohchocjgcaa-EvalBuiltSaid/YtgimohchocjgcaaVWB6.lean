import Derived.Test.YtgimohchocjgcaaVWB3
import Derived.KernelRfl
import Derived.Test.YtgimohchocjgcaaVK5
set_option linter.unusedVariables false
set_option linter.unusedSimpArgs false
namespace Go.Proofs.Ytgimohchocjgcaa.V
section
theorem zg6 : ∀ (l : List Int) (i : Nat), setL l i (l.getD i 0) = l
  | [], i => by cases i <;> rfl
  | x :: l, 0 => rfl
  | x :: l, i + 1 => by
    show x :: setL l i (l.getD i 0) = x :: l
    rw [zg6 l i]
theorem zni (a : Int) : mnI a a = a := by
  unfold mnI
  rw [zab (by omega), cond_false]
def Turn (ag ag' : Bool) (l l' : List Int) : Prop := (ag' = ag /\ l' = l) \/ (ag' = true /\ smI l' < smI l)
theorem Turn.le {ag ag' : Bool} {l l' : List Int} (h : Turn ag ag' l l') : smI l' <= smI l := by
  rcases h with ⟨_, rfl⟩ | ⟨_, h⟩
  . exact Nat.le_refl _
  . omega
theorem Turn.trans {a b c : Bool} {l m k : List Int} (h1 : Turn a b l m) (h2 : Turn b c m k) : Turn a c l k := by
  rcases h2 with ⟨rfl, rfl⟩ | ⟨h, hlt⟩
  . exact h1
  . exact .inr ⟨h, by have := h1.le; omega⟩
def updP (l : List Int) (p : Pr) : List Int := setL (setL l p.x.toNat (mnI (l.getD p.x.toNat 0) (l.getD p.y.toNat 0))) p.y.toNat (mnI (l.getD p.x.toNat 0) (l.getD p.y.toNat 0))
theorem zcy {l : List Int} {p : Pr} (h : l.getD p.x.toNat 0 = l.getD p.y.toNat 0) : updP l p = l := by
  unfold updP
  rw [h, zni, ← h, zg6, h, zg6]
theorem zmc {S : List Pr} {t : Nat} (h : t < S.length) (z : Pr) : S.getD t z ∈ S := by
  rw [List.getD_eq_getElem?_getD, List.getElem?_eq_getElem h]
  exact List.getElem_mem h
theorem zkt {S : List Pr} {t : Nat} (h : t < S.length) (z : Pr) : S.drop t = S.getD t z :: S.drop (t + 1) := by
  rw [List.drop_eq_getElem_cons h]
  congr 1
  rw [List.getD_eq_getElem?_getD, List.getElem?_eq_getElem h]
  rfl
theorem zxC {S : List Pr} {V N n t : Nat} {l : List Int} {ag : Bool} {c0 v1 : Int} {v2 : List Row} {A : Int -> Int -> (List Row) -> (List Pr) -> (List Int) -> Option (List Int × Unit)} (hS : zbI S V) (h : GoodC S V l) (ht : t < S.length) (hb : t < 9223372036854775807) :
    zdq N A (n + 1) ag S (S.length : Int) (t : Int) c0 v1 v2 S l = zdq N A n (ag || !eqI (l.getD (S.getD t ⟨0, 0⟩).x.toNat 0) (l.getD (S.getD t ⟨0, 0⟩).y.toNat 0)) S (S.length : Int) ((t + 1 : Nat) : Int) c0 v1 v2 S (updP l (S.getD t ⟨0, 0⟩)) := by
  obtain ⟨⟨x0, x1⟩, y0, y1⟩ := hS _ (zmc ht ⟨0, 0⟩)
  rw [zfx]
  unfold ze5
  rw [zad (by omega : (t : Int) < (S.length : Int)), cond_true, zaz, zax hb, Int.toNat_natCast, zaN, h.len, zaK x0, zad x1, zaK y0, zad y1]
  simp only [Bool.and_self, mst2]
  by_cases he : l.getD (S.getD t ⟨0, 0⟩).x.toNat 0 = l.getD (S.getD t ⟨0, 0⟩).y.toNat 0
  . rw [zaQ he, Bool.not_true, cond_false, Bool.or_false, zcy he]
  . rw [za2 he, Bool.not_false, cond_true, Bool.or_true]
    rfl
theorem zxD {S : List Pr} {V N n t : Nat} {l : List Int} {ag : Bool} {c0 v1 : Int} {v2 : List Row} {A : Bool -> Int -> Int -> (List Row) -> (List Pr) -> (List Int) -> Option (List Int × Unit)} (hS : zbI S V) (h : GoodC S V l) (ht : t < S.length) (hb : t < 9223372036854775807) :
    ze6 N A (n + 1) ag (t : Int) c0 v1 v2 S l = ze6 N A n (ag || !eqI (l.getD (S.getD t ⟨0, 0⟩).x.toNat 0) (l.getD (S.getD t ⟨0, 0⟩).y.toNat 0)) ((t + 1 : Nat) : Int) c0 v1 v2 S (updP l (S.getD t ⟨0, 0⟩)) := by
  obtain ⟨⟨x0, x1⟩, y0, y1⟩ := hS _ (zmc ht ⟨0, 0⟩)
  rw [zfy]
  unfold zjo
  rw [zad (by omega : (t : Int) < (S.length : Int)), cond_true, zaz, zax hb, Int.toNat_natCast, zaN, h.len, zaK x0, zad x1, zaK y0, zad y1]
  simp only [Bool.and_self, mst2]
  cases ag with
  | true => rw [cond_true, Bool.true_or]; rfl
  | false =>
    rw [cond_false, Bool.false_or]
    by_cases he : l.getD (S.getD t ⟨0, 0⟩).x.toNat 0 = l.getD (S.getD t ⟨0, 0⟩).y.toNat 0
    . have hu := zcy he
      unfold updP at hu
      rw [hu, zcy he, ← he, zni, zaQ rfl, Bool.not_true, cond_false]
    . have hm : mnI (l.getD (S.getD t ⟨0, 0⟩).x.toNat 0) (l.getD (S.getD t ⟨0, 0⟩).y.toNat 0) = l.getD (S.getD t ⟨0, 0⟩).x.toNat 0 \/ mnI (l.getD (S.getD t ⟨0, 0⟩).x.toNat 0) (l.getD (S.getD t ⟨0, 0⟩).y.toNat 0) = l.getD (S.getD t ⟨0, 0⟩).y.toNat 0 := by
        unfold mnI
        cases ltI (l.getD (S.getD t ⟨0, 0⟩).y.toNat 0) (l.getD (S.getD t ⟨0, 0⟩).x.toNat 0)
        . exact .inl rfl
        . exact .inr rfl
      by_cases hx : l.getD (S.getD t ⟨0, 0⟩).x.toNat 0 = mnI (l.getD (S.getD t ⟨0, 0⟩).x.toNat 0) (l.getD (S.getD t ⟨0, 0⟩).y.toNat 0)
      . rw [zaQ hx, Bool.not_true, cond_false, za2 he, za2 (show ¬ l.getD (S.getD t ⟨0, 0⟩).y.toNat 0 = mnI (l.getD (S.getD t ⟨0, 0⟩).x.toNat 0) (l.getD (S.getD t ⟨0, 0⟩).y.toNat 0) by omega)]
        rfl
      . rw [za2 hx, Bool.not_false, cond_true, za2 he]
        rfl
theorem zku {S : List Pr} {V t : Nat} {l : List Int} {ag : Bool} (hS : zbI S V) (h : GoodC S V l) (ht : t < S.length) :
    GoodC S V (updP l (S.getD t ⟨0, 0⟩)) /\ Turn ag (ag || !eqI (l.getD (S.getD t ⟨0, 0⟩).x.toNat 0) (l.getD (S.getD t ⟨0, 0⟩).y.toNat 0)) l (updP l (S.getD t ⟨0, 0⟩)) /\
    (smI (updP l (S.getD t ⟨0, 0⟩)) < smI l \/ l.getD (S.getD t ⟨0, 0⟩).x.toNat 0 = l.getD (S.getD t ⟨0, 0⟩).y.toNat 0) := by
  obtain ⟨g1, g2, g3⟩ := zrW hS h (zmc ht ⟨0, 0⟩)
  refine ⟨g1, ?_, ?_⟩
  . by_cases he : l.getD (S.getD t ⟨0, 0⟩).x.toNat 0 = l.getD (S.getD t ⟨0, 0⟩).y.toNat 0
    . exact .inl ⟨by rw [zaQ he]; cases ag <;> rfl, zcy he⟩
    . exact .inr ⟨by rw [za2 he]; cases ag <;> rfl, g3 he⟩
  . by_cases he : l.getD (S.getD t ⟨0, 0⟩).x.toNat 0 = l.getD (S.getD t ⟨0, 0⟩).y.toNat 0
    . exact .inr he
    . exact .inl (g3 he)
theorem zjq {S : List Pr} {V N : Nat} {c0 v1 : Int} {v2 : List Row} {A : Int -> Int -> (List Row) -> (List Pr) -> (List Int) -> Option (List Int × Unit)} (hS : zbI S V) (hL : S.length < 1000000) :
    ∀ (k t n : Nat) (l : List Int) (ag : Bool), GoodC S V l -> t + k = S.length -> k < n ->
    ∃ ag' l', zdq N A n ag S (S.length : Int) (t : Int) c0 v1 v2 S l = zd4 N A N ag' (V : Int) 0 c0 v1 v2 S l' /\ GoodC S V l' /\ Turn ag ag' l l' /\ (smI l' < smI l \/ ∀ p ∈ S.drop t, l.getD p.x.toNat 0 = l.getD p.y.toNat 0)
  | 0, t, n + 1, l, ag, h, ht, hn => by
    refine ⟨ag, l, ?_, h, .inl ⟨rfl, rfl⟩, .inr fun p hp => ?_⟩
    . rw [zfx]
      unfold ze5
      rw [zab (by omega), cond_false, h.len]
    . rw [List.drop_eq_nil_of_le (by omega)] at hp
      exact absurd hp (by simp)
  | k + 1, t, n + 1, l, ag, h, ht, hn => by
    have htl : t < S.length := by omega
    obtain ⟨g1, g2, g3⟩ := zku (ag := ag) hS h htl
    obtain ⟨ag', l', e, h', ht', hf⟩ := zjq (N := N) (c0 := c0) (v1 := v1) (v2 := v2) (A := A) hS hL k (t + 1) n _ (ag || !eqI (l.getD (S.getD t ⟨0, 0⟩).x.toNat 0) (l.getD (S.getD t ⟨0, 0⟩).y.toNat 0)) g1 (by omega) (by omega)
    refine ⟨ag', l', ?_, h', g2.trans ht', ?_⟩
    . rw [zxC hS h htl (by omega)]; exact e
    . rcases g3 with g3 | g3
      . exact .inl (by have := ht'.le; omega)
      . rw [zcy g3] at hf
        rcases hf with hf | hf
        . exact .inl hf
        . refine .inr fun p hp => ?_
          rw [zkt htl ⟨0, 0⟩] at hp
          rcases List.mem_cons.mp hp with rfl | hp
          . exact g3
          . exact hf p hp
theorem zjr {S : List Pr} {V N : Nat} {c0 v1 : Int} {v2 : List Row} {A : Bool -> Int -> Int -> (List Row) -> (List Pr) -> (List Int) -> Option (List Int × Unit)} (hS : zbI S V) (hL : S.length < 1000000) :
    ∀ (k t n : Nat) (l : List Int) (ag : Bool), GoodC S V l -> t + k = S.length -> k < n ->
    ∃ ag' l', ze6 N A n ag (t : Int) c0 v1 v2 S l = A ag' c0 v1 v2 S l' /\ GoodC S V l' /\ Turn ag ag' l l' /\ (smI l' < smI l \/ ∀ p ∈ S.drop t, l.getD p.x.toNat 0 = l.getD p.y.toNat 0)
  | 0, t, n + 1, l, ag, h, ht, hn => by
    refine ⟨ag, l, ?_, h, .inl ⟨rfl, rfl⟩, .inr fun p hp => ?_⟩
    . rw [zfy]
      unfold zjo
      rw [zab (by omega), cond_false]
    . rw [List.drop_eq_nil_of_le (by omega)] at hp
      exact absurd hp (by simp)
  | k + 1, t, n + 1, l, ag, h, ht, hn => by
    have htl : t < S.length := by omega
    obtain ⟨g1, g2, g3⟩ := zku (ag := ag) hS h htl
    obtain ⟨ag', l', e, h', ht', hf⟩ := zjr (N := N) (c0 := c0) (v1 := v1) (v2 := v2) (A := A) hS hL k (t + 1) n _ (ag || !eqI (l.getD (S.getD t ⟨0, 0⟩).x.toNat 0) (l.getD (S.getD t ⟨0, 0⟩).y.toNat 0)) g1 (by omega) (by omega)
    refine ⟨ag', l', ?_, h', g2.trans ht', ?_⟩
    . rw [zxD hS h htl (by omega)]; exact e
    . rcases g3 with g3 | g3
      . exact .inl (by have := ht'.le; omega)
      . rw [zcy g3] at hf
        rcases hf with hf | hf
        . exact .inl hf
        . refine .inr fun p hp => ?_
          rw [zkt htl ⟨0, 0⟩] at hp
          rcases List.mem_cons.mp hp with rfl | hp
          . exact g3
          . exact hf p hp
theorem zeB {S : List Pr} {V N : Nat} {c0 v1 : Int} {v2 : List Row} {A : Int -> Int -> (List Row) -> (List Pr) -> (List Int) -> Option (List Int × Unit)} (hS : zbI S V) (hV : V < 1000000) :
    ∀ (k t n : Nat) (l : List Int) (ag : Bool), GoodC S V l -> t + k = V -> k < n ->
    ∃ ag' l', zd4 N A n ag (V : Int) (t : Int) c0 v1 v2 S l = cond ag' (A c0 v1 v2 S l') (some (l', ())) /\ GoodC S V l' /\ Turn ag ag' l l'
  | 0, t, n + 1, l, ag, h, ht, hn => by
    refine ⟨ag, l, ?_, h, .inl ⟨rfl, rfl⟩⟩
    rw [zfw]
    unfold ze4
    rw [zab (by omega), cond_false]
  | k + 1, t, n + 1, l, ag, h, ht, hn => by
    have htl : t < V := by omega
    have n0 := h.nn t htl
    have n1 := h.le t htl
    have hx : (l.getD t 0).toNat < V := by omega
    have n2 := h.nn _ hx
    rw [zfw]
    unfold ze4
    rw [zad (by omega : (t : Int) < (V : Int)), cond_true, zaz, zax (by omega), Int.toNat_natCast, h.len, zaK n0, zad (by omega : (t : Int) < (V : Int)), zad (by omega : l.getD t 0 < (V : Int))]
    simp only [Bool.and_self, mst2]
    by_cases hc : l.getD (l.getD t 0).toNat 0 < l.getD t 0
    . rw [zad hc, cond_true]
      have al1 := h.al t htl
      have al2 := h.al _ hx
      rw [Int.toNat_of_nonneg n0] at al2
      have g := zjp h htl n2 (by omega) (al1.trans al2)
      obtain ⟨ag', l', e, h', ht'⟩ := zeB (N := N) (c0 := c0) (v1 := v1) (v2 := v2) (A := A) hS hV k (t + 1) n _ true g (by omega) (by omega)
      refine ⟨ag', l', e, h', ?_⟩
      have hs := zmb l t (l.getD (l.getD t 0).toNat 0) (by rw [h.len]; exact htl)
      have := ht'.le
      refine .inr ⟨?_, by omega⟩
      rcases ht' with ⟨e1, _⟩ | ⟨e1, _⟩ <;> exact e1
    . rw [zab hc, cond_false]
      exact zeB (N := N) (c0 := c0) (v1 := v1) (v2 := v2) (A := A) hS hV k (t + 1) n _ ag h (by omega) (by omega)
theorem zuj {S : List Pr} {V N : Nat} {c0 v1 : Int} {v2 : List Row} (hS : zbI S V) (hL : S.length < 1000000) (hV : V < 1000000) (hN1 : S.length < N) (hN2 : V < N) :
    ∀ (k n : Nat) (l : List Int), GoodC S V l -> smI l <= k -> k < n ->
    ∃ l', zbc N n c0 v1 v2 S l = some (l', ()) /\ GoodC S V l' /\ FixC S l' := by
  intro k
  induction k with
  | zero =>
    intro n l h hk hn
    obtain ⟨n, rfl⟩ : ∃ m, n = m + 1 := ⟨n - 1, by omega⟩
    rw [zdN]
    unfold zcw
    obtain ⟨a1, l1, e1, h1, t1, f1⟩ := zjq (N := N) (c0 := c0) (v1 := v1) (v2 := v2) (A := zbc N n) hS hL S.length 0 N l false h (by omega) hN1
    obtain ⟨a2, l2, e2, h2, t2⟩ := zeB (N := N) (c0 := c0) (v1 := v1) (v2 := v2) (A := zbc N n) hS hV V 0 N l1 a1 h1 (by omega) hN2
    rw [show (0 : Int) = ((0 : Nat) : Int) from rfl, e1, show (0 : Int) = ((0 : Nat) : Int) from rfl, e2]
    rcases t1.trans t2 with ⟨e, el⟩ | ⟨_, hlt⟩
    . rw [e, cond_false]
      refine ⟨l2, rfl, h2, ?_⟩
      rcases f1 with f1 | f1
      . omega
      . rw [List.drop_zero] at f1
        intro p hp
        rw [el]
        exact f1 p hp
    . omega
  | succ k ih =>
    intro n l h hk hn
    obtain ⟨n, rfl⟩ : ∃ m, n = m + 1 := ⟨n - 1, by omega⟩
    rw [zdN]
    unfold zcw
    obtain ⟨a1, l1, e1, h1, t1, f1⟩ := zjq (N := N) (c0 := c0) (v1 := v1) (v2 := v2) (A := zbc N n) hS hL S.length 0 N l false h (by omega) hN1
    obtain ⟨a2, l2, e2, h2, t2⟩ := zeB (N := N) (c0 := c0) (v1 := v1) (v2 := v2) (A := zbc N n) hS hV V 0 N l1 a1 h1 (by omega) hN2
    rw [show (0 : Int) = ((0 : Nat) : Int) from rfl, e1, show (0 : Int) = ((0 : Nat) : Int) from rfl, e2]
    rcases t1.trans t2 with ⟨e, el⟩ | ⟨et, hlt⟩
    . rw [e, cond_false]
      refine ⟨l2, rfl, h2, ?_⟩
      rcases f1 with f1 | f1
      . have := t2.le
        rw [el] at this
        omega
      . rw [List.drop_zero] at f1
        intro p hp
        rw [el]
        exact f1 p hp
    . rw [et, cond_true]
      exact ih n l2 h2 (by omega) (by omega)
theorem zuk {S : List Pr} {V N : Nat} {c0 v1 : Int} {v2 : List Row} (hS : zbI S V) (hL : S.length < 1000000) (hN1 : S.length < N) :
    ∀ (k n : Nat) (l : List Int), GoodC S V l -> smI l <= k -> k + 1 < n ->
    ∃ l', zg4 N n true c0 v1 v2 S l = some (l', ()) /\ GoodC S V l' /\ FixC S l' := by
  intro k
  induction k with
  | zero =>
    intro n l h hk hn
    obtain ⟨n, rfl⟩ : ∃ m, n = m + 1 + 1 := ⟨n - 2, by omega⟩
    rw [zc2]
    unfold zit
    rw [cond_true]
    obtain ⟨a1, l1, e1, h1, t1, f1⟩ := zjr (N := N) (c0 := c0) (v1 := v1) (v2 := v2) (A := zg4 N (n + 1)) hS hL S.length 0 N l false h (by omega) hN1
    rw [show (0 : Int) = ((0 : Nat) : Int) from rfl, e1]
    rcases t1 with ⟨e, el⟩ | ⟨_, hlt⟩
    . rw [e, zc2]
      unfold zit
      rw [cond_false]
      refine ⟨l1, rfl, h1, ?_⟩
      rcases f1 with f1 | f1
      . omega
      . rw [List.drop_zero] at f1
        intro p hp
        rw [el]
        exact f1 p hp
    . omega
  | succ k ih =>
    intro n l h hk hn
    obtain ⟨n, rfl⟩ : ∃ m, n = m + 1 + 1 := ⟨n - 2, by omega⟩
    rw [zc2]
    unfold zit
    rw [cond_true]
    obtain ⟨a1, l1, e1, h1, t1, f1⟩ := zjr (N := N) (c0 := c0) (v1 := v1) (v2 := v2) (A := zg4 N (n + 1)) hS hL S.length 0 N l false h (by omega) hN1
    rw [show (0 : Int) = ((0 : Nat) : Int) from rfl, e1]
    rcases t1 with ⟨e, el⟩ | ⟨et, hlt⟩
    . rw [e, zc2]
      unfold zit
      rw [cond_false]
      refine ⟨l1, rfl, h1, ?_⟩
      rcases f1 with f1 | f1
      . rw [el] at f1; omega
      . rw [List.drop_zero] at f1
        intro p hp
        rw [el]
        exact f1 p hp
    . rw [et]
      exact ih (n + 1) l1 h1 (by omega) (by omega)
def Own (V t : Nat) (l : List Int) : Prop := l.length = V /\ ∀ i : Nat, i < t -> l.getD i 0 = (i : Int)
theorem znj {V t : Nat} {l : List Int} (h : Own V t l) (ht : t < V) : Own V (t + 1) (setL l t (t : Int)) := by
  refine ⟨by rw [zaN]; exact h.1, fun i hi => ?_⟩
  rw [zcx]
  by_cases e : i = t
  . rw [if_pos ⟨e, by rw [h.1]; exact ht⟩, e]
  . rw [if_neg (fun hc => e hc.1)]
    exact h.2 i (by omega)
theorem znk {S : List Pr} {V : Nat} {l : List Int} (h : Own V V l) : GoodC S V l :=
  ⟨h.1, fun i hi => by rw [h.2 i hi]; omega, fun i hi => by rw [h.2 i hi]; omega, fun i hi => by rw [h.2 i hi]; exact .refl _⟩
theorem zvw {S : List Pr} {V N : Nat} {c0 v1 : Int} {v2 : List Row} (hV : V < 1000000) :
    ∀ (k t n : Nat) (l : List Int), Own V t l -> t + k = V -> k < n ->
    ∃ l', zis N n (V : Int) (t : Int) c0 v1 v2 S l = zbc N N c0 v1 v2 S l' /\ Own V V l'
  | 0, t, n + 1, l, h, ht, hn => by
    obtain rfl : t = V := by omega
    refine ⟨l, ?_, h⟩
    rw [zg3]
    unfold zir
    rw [zab (by omega), cond_false]
  | k + 1, t, n + 1, l, h, ht, hn => by
    rw [zg3]
    unfold zir
    rw [zad (by omega : (t : Int) < (V : Int)), cond_true, zaz, zax (by omega), Int.toNat_natCast, h.1, zad (by omega : (t : Int) < (V : Int))]
    simp only [Bool.and_self, mst2]
    exact zvw hV k (t + 1) n _ (znj h (by omega)) (by omega) (by omega)
theorem zvx {S : List Pr} {V N : Nat} {c0 : Int} {v2 : List Row} (hV : V < 1000000) :
    ∀ (k t n : Nat) (l : List Int), Own V t l -> t + k = V -> k < n ->
    ∃ l', znh N n (t : Int) c0 (V : Int) v2 S l = zg4 N N true c0 (V : Int) v2 S l' /\ Own V V l'
  | 0, t, n + 1, l, h, ht, hn => by
    obtain rfl : t = V := by omega
    refine ⟨l, ?_, h⟩
    rw [zg5]
    unfold zng
    rw [zab (by omega), cond_false]
  | k + 1, t, n + 1, l, h, ht, hn => by
    rw [zg5]
    unfold zng
    rw [zad (by omega : (t : Int) < (V : Int)), cond_true, zaz, zax (by omega), Int.toNat_natCast, h.1, zad (by omega : (t : Int) < (V : Int))]
    simp only [Bool.and_self, mst2]
    exact zvx hV k (t + 1) n _ (znj h (by omega)) (by omega) (by omega)
theorem zvy (B : Nat) : ∀ (l : List Int), (∀ i : Nat, i < l.length -> l.getD i 0 <= (B : Int)) -> smI l <= l.length * B
  | [], _ => by simp [smI]
  | x :: l, h => by
    have h0 := h 0 (by simp)
    have := zvy B l fun i hi => by
      have := h (i + 1) (by simpa using hi)
      simpa using this
    simp only [List.getD_cons_zero] at h0
    simp only [smI, List.length_cons, Nat.succ_mul]
    omega
theorem zrX {S : List Pr} {V : Nat} {l : List Int} (h : GoodC S V l) : smI l <= V * V := by
  have := zvy V l fun i hi => by
    rw [h.len] at hi
    have := h.le i hi
    omega
  rwa [h.len] at this
theorem zoi {S : List Pr} {V N : Nat} {c0 : Int} {v2 : List Row} (hS : zbI S V) (hL : S.length <= 1000) (hV : V <= 200) (hN : 100000 <= N) (hm : q119 N c0 (V : Int) v2 S = some (0, ())) :
    ∃ l, q134 N c0 (V : Int) v2 S = some (l, ()) /\ q135 N c0 (V : Int) v2 S = some (l, ()) /\ GoodC S V l /\ FixC S l := by
  have hr : Own V 0 (List.replicate V 0) := ⟨List.length_replicate, fun i hi => absurd hi (by omega)⟩
  have hVV : V * V <= 200 * 200 := Nat.mul_le_mul hV hV
  obtain ⟨l1, e1, o1⟩ := zvw (S := S) (N := N) (c0 := c0) (v1 := (V : Int)) (v2 := v2) (by omega) V 0 N _ hr (by omega) (by omega)
  obtain ⟨l2, e2, o2⟩ := zvx (S := S) (N := N) (c0 := c0) (v2 := v2) (by omega) V 0 N _ hr (by omega) (by omega)
  have g1 : GoodC S V l1 := znk o1
  have g2 : GoodC S V l2 := znk o2
  obtain ⟨m1, r1, h1, f1⟩ := zuj (N := N) (c0 := c0) (v1 := (V : Int)) (v2 := v2) hS (by omega) (by omega) (by omega) (by omega) (V * V) N l1 g1 (zrX g1) (by omega)
  obtain ⟨m2, r2, h2, f2⟩ := zuk (N := N) (c0 := c0) (v1 := (V : Int)) (v2 := v2) hS (by omega) (by omega) (V * V) N l2 g2 (zrX g2) (by omega)
  obtain rfl := zoh hS h1 h2 f1 f2
  refine ⟨m1, ?_, ?_, h1, f1⟩
  . unfold q134
    rw [hm]
    simp only [bsm]
    rw [zaQ rfl, Bool.not_true, cond_false, zaz, zaQ rfl, Int.toNat_natCast, zaG (by omega), List.length_replicate]
    simp only [Bool.and_self, mst2]
    exact e1.trans r1
  . unfold q135
    rw [zaz, zaQ rfl, Int.toNat_natCast, zaG (by omega)]
    simp only [Bool.and_self, mst2]
    exact e2.trans r2
end
section
theorem zas (r : Row) : Row.mk r.q0 r.q1 r.q2 r.q3 r.q4 r.q5 r.q6 r.q7 r.w0 r.w1 r.w2 = r := rfl
theorem zav (s : Stp) : Stp.mk s.kind s.v0 s.v1 s.v2 s.q0 s.q1 s.q2 s.q3 s.q4 = s := rfl
theorem zaA : Row.mk Fr.zero Fr.zero Fr.zero Fr.zero Fr.zero Fr.zero Fr.zero Fr.zero 0 0 0 = zrow := rfl
def q218 (N : Nat) : Option (Fr × Unit) :=
  Option.bind (q173 N (1 : UInt64)) fun rr0 => some ((rr0.1, ()))
theorem zAE : p218 = q218 := by
  (repeat (apply funext; intro _))
  simp only [p218, q218, zkn, zaf, zai, zaj, zah, zas, zav, zaU, zaA]
def zmd (N : Nat) (A_14 : Int -> Row -> (List Int) -> Option (List Row × Int × Unit)) (i7 : Int) (ob0 : Row) (ob1 : List Int) : Option (List Row × Int × Unit) :=
  cond ((ltI i7 (3 : Int))) (must (leI (0 : Int) i7 && ltI i7 (↑(3 : Nat) : Int)) (cond (eqI i7 (↑(0 : Nat) : Int)) (must (eqI i7 (↑(0 : Nat) : Int)) (A_14 ((wr ((↑(0 : Nat) : Int) + (1 : Int)))) (Row.mk (ob0.q0) (ob0.q1) (ob0.q2) (ob0.q3) (ob0.q4) (ob0.q5) (ob0.q6) (ob0.q7) (mxI (List.getD ob1 i7.toNat (0 : Int)) (-1 : Int)) ob0.w1 ob0.w2) ob1)) (cond (eqI i7 (↑((0 : Nat) + (1 : Nat)) : Int)) (must (eqI i7 (↑((0 : Nat) + (1 : Nat)) : Int)) (A_14 ((wr ((↑((0 : Nat) + (1 : Nat)) : Int) + (1 : Int)))) (Row.mk (ob0.q0) (ob0.q1) (ob0.q2) (ob0.q3) (ob0.q4) (ob0.q5) (ob0.q6) (ob0.q7) ob0.w0 (mxI (List.getD ob1 i7.toNat (0 : Int)) (-1 : Int)) ob0.w2) ob1)) (must (eqI i7 (↑((0 : Nat) + (1 : Nat) + (1 : Nat)) : Int)) (must (eqI i7 (↑((0 : Nat) + (1 : Nat) + (1 : Nat)) : Int)) (A_14 ((wr ((↑((0 : Nat) + (1 : Nat) + (1 : Nat)) : Int) + (1 : Int)))) (Row.mk (ob0.q0) (ob0.q1) (ob0.q2) (ob0.q3) (ob0.q4) (ob0.q5) (ob0.q6) (ob0.q7) ob0.w0 ob0.w1 (mxI (List.getD ob1 i7.toNat (0 : Int)) (-1 : Int))) ob1)))))) (some (([ob0], (0 : Int), ())))
theorem zrY : zlU = zmd := by
  (repeat (apply funext; intro _))
  simp only [zlU, zmd, hide_eq, zaf, zai, zaj, zah, zas, zav, zaU, zaA]
def zme (N n : Nat) (i7 : Int) (ob0 : Row) (ob1 : List Int) : Option (List Row × Int × Unit) :=
  zam (fun A x => zmd N (fun i7 ob0 ob1 => A (((), ((), (i7, ()))), (ob0, (ob1, ())))) x.1.2.2.1 x.2.1 x.2.2.1) n (((), ((), (i7, ()))), (ob0, (ob1, ())))
theorem zrZ : zlV = zme := by
  (repeat (apply funext; intro _))
  simp only [zlV, zme, zrY, zaf, zai, zaj, zah, zas, zav, zaU, zaA]
def zmf (N : Nat) (A_10 : Int -> Stp -> Row -> (List Int) -> Option (List Row × Int × Unit)) (i6 : Int) (ob0 : Stp) (ob1 : Row) (ob2 : List Int) : Option (List Row × Int × Unit) :=
  cond ((ltI i6 (5 : Int))) (cond (eqI i6 (↑(0 : Nat) : Int)) (must (eqI i6 (↑(0 : Nat) : Int)) (cond (eqI i6 (↑(0 : Nat) : Int)) (A_10 ((wr ((↑(0 : Nat) : Int) + (1 : Int)))) (ob0) (Row.mk (ob0.q0) (ob1.q1) (ob1.q2) (ob1.q3) (ob1.q4) (ob1.q5) (ob1.q6) (ob1.q7) ob1.w0 ob1.w1 ob1.w2) ob2) (cond (eqI i6 (↑((0 : Nat) + (1 : Nat)) : Int)) (none) (cond (eqI i6 (↑((0 : Nat) + (1 : Nat) + (1 : Nat)) : Int)) (none) (cond (eqI i6 (↑((0 : Nat) + (1 : Nat) + (1 : Nat) + (1 : Nat)) : Int)) (none) (cond (eqI i6 (↑((0 : Nat) + (1 : Nat) + (1 : Nat) + (1 : Nat) + (1 : Nat)) : Int)) (none) (cond (eqI i6 (↑((0 : Nat) + (1 : Nat) + (1 : Nat) + (1 : Nat) + (1 : Nat) + (1 : Nat)) : Int)) (none) (cond (eqI i6 (↑((0 : Nat) + (1 : Nat) + (1 : Nat) + (1 : Nat) + (1 : Nat) + (1 : Nat) + (1 : Nat)) : Int)) (none) (must (eqI i6 (↑((0 : Nat) + (1 : Nat) + (1 : Nat) + (1 : Nat) + (1 : Nat) + (1 : Nat) + (1 : Nat) + (1 : Nat)) : Int)) (none)))))))))) (cond (eqI i6 (↑((0 : Nat) + (1 : Nat)) : Int)) (must (eqI i6 (↑((0 : Nat) + (1 : Nat)) : Int)) (cond (eqI i6 (↑(0 : Nat) : Int)) (none) (cond (eqI i6 (↑((0 : Nat) + (1 : Nat)) : Int)) (A_10 ((wr ((↑((0 : Nat) + (1 : Nat)) : Int) + (1 : Int)))) (ob0) (Row.mk (ob1.q0) (ob0.q1) (ob1.q2) (ob1.q3) (ob1.q4) (ob1.q5) (ob1.q6) (ob1.q7) ob1.w0 ob1.w1 ob1.w2) ob2) (cond (eqI i6 (↑((0 : Nat) + (1 : Nat) + (1 : Nat)) : Int)) (none) (cond (eqI i6 (↑((0 : Nat) + (1 : Nat) + (1 : Nat) + (1 : Nat)) : Int)) (none) (cond (eqI i6 (↑((0 : Nat) + (1 : Nat) + (1 : Nat) + (1 : Nat) + (1 : Nat)) : Int)) (none) (cond (eqI i6 (↑((0 : Nat) + (1 : Nat) + (1 : Nat) + (1 : Nat) + (1 : Nat) + (1 : Nat)) : Int)) (none) (cond (eqI i6 (↑((0 : Nat) + (1 : Nat) + (1 : Nat) + (1 : Nat) + (1 : Nat) + (1 : Nat) + (1 : Nat)) : Int)) (none) (must (eqI i6 (↑((0 : Nat) + (1 : Nat) + (1 : Nat) + (1 : Nat) + (1 : Nat) + (1 : Nat) + (1 : Nat) + (1 : Nat)) : Int)) (none)))))))))) (cond (eqI i6 (↑((0 : Nat) + (1 : Nat) + (1 : Nat)) : Int)) (must (eqI i6 (↑((0 : Nat) + (1 : Nat) + (1 : Nat)) : Int)) (cond (eqI i6 (↑(0 : Nat) : Int)) (none) (cond (eqI i6 (↑((0 : Nat) + (1 : Nat)) : Int)) (none) (cond (eqI i6 (↑((0 : Nat) + (1 : Nat) + (1 : Nat)) : Int)) (A_10 ((wr ((↑((0 : Nat) + (1 : Nat) + (1 : Nat)) : Int) + (1 : Int)))) (ob0) (Row.mk (ob1.q0) (ob1.q1) (ob0.q2) (ob1.q3) (ob1.q4) (ob1.q5) (ob1.q6) (ob1.q7) ob1.w0 ob1.w1 ob1.w2) ob2) (cond (eqI i6 (↑((0 : Nat) + (1 : Nat) + (1 : Nat) + (1 : Nat)) : Int)) (none) (cond (eqI i6 (↑((0 : Nat) + (1 : Nat) + (1 : Nat) + (1 : Nat) + (1 : Nat)) : Int)) (none) (cond (eqI i6 (↑((0 : Nat) + (1 : Nat) + (1 : Nat) + (1 : Nat) + (1 : Nat) + (1 : Nat)) : Int)) (none) (cond (eqI i6 (↑((0 : Nat) + (1 : Nat) + (1 : Nat) + (1 : Nat) + (1 : Nat) + (1 : Nat) + (1 : Nat)) : Int)) (none) (must (eqI i6 (↑((0 : Nat) + (1 : Nat) + (1 : Nat) + (1 : Nat) + (1 : Nat) + (1 : Nat) + (1 : Nat) + (1 : Nat)) : Int)) (none)))))))))) (cond (eqI i6 (↑((0 : Nat) + (1 : Nat) + (1 : Nat) + (1 : Nat)) : Int)) (must (eqI i6 (↑((0 : Nat) + (1 : Nat) + (1 : Nat) + (1 : Nat)) : Int)) (cond (eqI i6 (↑(0 : Nat) : Int)) (none) (cond (eqI i6 (↑((0 : Nat) + (1 : Nat)) : Int)) (none) (cond (eqI i6 (↑((0 : Nat) + (1 : Nat) + (1 : Nat)) : Int)) (none) (cond (eqI i6 (↑((0 : Nat) + (1 : Nat) + (1 : Nat) + (1 : Nat)) : Int)) (A_10 ((wr ((↑((0 : Nat) + (1 : Nat) + (1 : Nat) + (1 : Nat)) : Int) + (1 : Int)))) (ob0) (Row.mk (ob1.q0) (ob1.q1) (ob1.q2) (ob0.q3) (ob1.q4) (ob1.q5) (ob1.q6) (ob1.q7) ob1.w0 ob1.w1 ob1.w2) ob2) (cond (eqI i6 (↑((0 : Nat) + (1 : Nat) + (1 : Nat) + (1 : Nat) + (1 : Nat)) : Int)) (none) (cond (eqI i6 (↑((0 : Nat) + (1 : Nat) + (1 : Nat) + (1 : Nat) + (1 : Nat) + (1 : Nat)) : Int)) (none) (cond (eqI i6 (↑((0 : Nat) + (1 : Nat) + (1 : Nat) + (1 : Nat) + (1 : Nat) + (1 : Nat) + (1 : Nat)) : Int)) (none) (must (eqI i6 (↑((0 : Nat) + (1 : Nat) + (1 : Nat) + (1 : Nat) + (1 : Nat) + (1 : Nat) + (1 : Nat) + (1 : Nat)) : Int)) (none)))))))))) (must (eqI i6 (↑((0 : Nat) + (1 : Nat) + (1 : Nat) + (1 : Nat) + (1 : Nat)) : Int)) (must (eqI i6 (↑((0 : Nat) + (1 : Nat) + (1 : Nat) + (1 : Nat) + (1 : Nat)) : Int)) (cond (eqI i6 (↑(0 : Nat) : Int)) (none) (cond (eqI i6 (↑((0 : Nat) + (1 : Nat)) : Int)) (none) (cond (eqI i6 (↑((0 : Nat) + (1 : Nat) + (1 : Nat)) : Int)) (none) (cond (eqI i6 (↑((0 : Nat) + (1 : Nat) + (1 : Nat) + (1 : Nat)) : Int)) (none) (cond (eqI i6 (↑((0 : Nat) + (1 : Nat) + (1 : Nat) + (1 : Nat) + (1 : Nat)) : Int)) (A_10 ((wr ((↑((0 : Nat) + (1 : Nat) + (1 : Nat) + (1 : Nat) + (1 : Nat)) : Int) + (1 : Int)))) (ob0) (Row.mk (ob1.q0) (ob1.q1) (ob1.q2) (ob1.q3) (ob0.q4) (ob1.q5) (ob1.q6) (ob1.q7) ob1.w0 ob1.w1 ob1.w2) ob2) (cond (eqI i6 (↑((0 : Nat) + (1 : Nat) + (1 : Nat) + (1 : Nat) + (1 : Nat) + (1 : Nat)) : Int)) (none) (cond (eqI i6 (↑((0 : Nat) + (1 : Nat) + (1 : Nat) + (1 : Nat) + (1 : Nat) + (1 : Nat) + (1 : Nat)) : Int)) (none) (must (eqI i6 (↑((0 : Nat) + (1 : Nat) + (1 : Nat) + (1 : Nat) + (1 : Nat) + (1 : Nat) + (1 : Nat) + (1 : Nat)) : Int)) (none))))))))))))))) (zme N N (0 : Int) (ob1) ob2)
theorem zr0 : zlW = zmf := by
  (repeat (apply funext; intro _))
  simp only [zlW, zmf, hide_eq, zrZ, zaf, zai, zaj, zah, zas, zav, zaU, zaA]
def zjs (N n : Nat) (i6 : Int) (ob0 : Stp) (ob1 : Row) (ob2 : List Int) : Option (List Row × Int × Unit) :=
  zam (fun A x => zmf N (fun i6 ob0 ob1 ob2 => A (((), ((), ((), (i6, ())))), (ob0, (ob1, (ob2, ()))))) x.1.2.2.2.1 x.2.1 x.2.2.1 x.2.2.2.1) n (((), ((), ((), (i6, ())))), (ob0, (ob1, (ob2, ()))))
theorem zr1 : zlX = zjs := by
  (repeat (apply funext; intro _))
  simp only [zlX, zjs, zr0, zaf, zai, zaj, zah, zas, zav, zaU, zaA]
def q197 (N : Nat) (s0 : Stp) : Option (List Row × Int × Unit) :=
  cond ((eqI s0.kind (1 : Int))) (cond ((eqI s0.kind (1 : Int))) (some (([], (0 : Int), ()))) (cond ((eqI s0.kind (2 : Int))) (zjs N N (0 : Int) (s0) (Row.mk (Fr.zero) (Fr.zero) (Fr.zero) (Fr.zero) (Fr.zero) (Fr.zero) (Fr.zero) (Fr.zero) (-1 : Int) (-1 : Int) (-1 : Int)) ([Stp.v0 s0, Stp.v1 s0, Stp.v2 s0])) (cond ((eqI s0.kind (3 : Int))) (Option.bind (q218 N) fun rr7 => some (([Row.mk (Fr.zero) (Fr.zero) (Fr.zero) (Fr.zero) (Fr.zero) (rr7.1) (Fr.zero) (Fr.zero) s0.v0 (-1 : Int) (-1 : Int)], (0 : Int), ()))) (cond ((eqI s0.kind (4 : Int))) (Option.bind (q218 N) fun rr6 => some (([Row.mk (Fr.zero) (Fr.zero) (Fr.zero) (Fr.zero) (Fr.zero) (Fr.zero) (rr6.1) (Fr.zero) s0.v0 (-1 : Int) s0.v2], (0 : Int), ()))) (cond ((eqI s0.kind (7 : Int))) (Option.bind (q218 N) fun rr5 => some (([Row.mk (Fr.zero) (rr5.1) (Fr.zero) (Fr.zero) (Fr.zero) (Fr.zero) (Fr.zero) (Fr.zero) s0.v0 (-1 : Int) (-1 : Int)], (0 : Int), ()))) (cond ((eqI s0.kind (5 : Int))) (Option.bind (q218 N) fun rr4 => some (([Row.mk (Fr.zero) (Fr.zero) (Fr.zero) (Fr.zero) (Fr.zero) (Fr.zero) (Fr.zero) (rr4.1) s0.v0 s0.v1 (-1 : Int), Row.mk (Fr.zero) (Fr.zero) (Fr.zero) (Fr.zero) (Fr.zero) (Fr.zero) (Fr.zero) (Fr.zero) s0.v2 (-1 : Int) (-1 : Int)], (0 : Int), ()))) (some (([], (11 : Int), ()))))))))) (cond ((eqI s0.kind (6 : Int))) (some (([], (0 : Int), ()))) (cond ((eqI s0.kind (2 : Int))) (zjs N N (0 : Int) (s0) (Row.mk (Fr.zero) (Fr.zero) (Fr.zero) (Fr.zero) (Fr.zero) (Fr.zero) (Fr.zero) (Fr.zero) (-1 : Int) (-1 : Int) (-1 : Int)) ([Stp.v0 s0, Stp.v1 s0, Stp.v2 s0])) (cond ((eqI s0.kind (3 : Int))) (Option.bind (q218 N) fun rr3 => some (([Row.mk (Fr.zero) (Fr.zero) (Fr.zero) (Fr.zero) (Fr.zero) (rr3.1) (Fr.zero) (Fr.zero) s0.v0 (-1 : Int) (-1 : Int)], (0 : Int), ()))) (cond ((eqI s0.kind (4 : Int))) (Option.bind (q218 N) fun rr2 => some (([Row.mk (Fr.zero) (Fr.zero) (Fr.zero) (Fr.zero) (Fr.zero) (Fr.zero) (rr2.1) (Fr.zero) s0.v0 (-1 : Int) s0.v2], (0 : Int), ()))) (cond ((eqI s0.kind (7 : Int))) (Option.bind (q218 N) fun rr1 => some (([Row.mk (Fr.zero) (rr1.1) (Fr.zero) (Fr.zero) (Fr.zero) (Fr.zero) (Fr.zero) (Fr.zero) s0.v0 (-1 : Int) (-1 : Int)], (0 : Int), ()))) (cond ((eqI s0.kind (5 : Int))) (Option.bind (q218 N) fun rr0 => some (([Row.mk (Fr.zero) (Fr.zero) (Fr.zero) (Fr.zero) (Fr.zero) (Fr.zero) (Fr.zero) (rr0.1) s0.v0 s0.v1 (-1 : Int), Row.mk (Fr.zero) (Fr.zero) (Fr.zero) (Fr.zero) (Fr.zero) (Fr.zero) (Fr.zero) (Fr.zero) s0.v2 (-1 : Int) (-1 : Int)], (0 : Int), ()))) (some (([], (11 : Int), ())))))))))
theorem zAF : p197 = q197 := by
  (repeat (apply funext; intro _))
  simp only [p197, q197, hide_eq, zr1, zAE, zaf, zai, zaj, zah, zas, zav, zaU, zaA]
end
end Go.Proofs.Ytgimohchocjgcaa.V
