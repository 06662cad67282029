import Derived.Test.YtgimohchocjgcaaVWB3
import Derived.KernelRfl
set_option linter.unusedVariables false
set_option linter.unusedSimpArgs false
namespace Go.Proofs.Ytgimohchocjgcaa.V
theorem setL_same : ∀ (l : List Int) (i : Nat), setL l i (l.getD i 0) = l
  | [], i => by cases i <;> rfl
  | x :: l, 0 => rfl
  | x :: l, i + 1 => by
    show x :: setL l i (l.getD i 0) = x :: l
    rw [setL_same l i]
theorem mnI_self (a : Int) : mnI a a = a := by
  unfold mnI
  rw [ltI_false (by omega), cond_false]
def Turn (ag ag' : Bool) (l l' : List Int) : Prop := (ag' = ag ∧ l' = l) ∨ (ag' = true ∧ smI l' < smI l)
theorem Turn.le {ag ag' : Bool} {l l' : List Int} (h : Turn ag ag' l l') : smI l' ≤ smI l := by
  rcases h with ⟨_, rfl⟩ | ⟨_, h⟩
  · exact Nat.le_refl _
  · omega
theorem Turn.trans {a b c : Bool} {l m k : List Int} (h1 : Turn a b l m) (h2 : Turn b c m k) : Turn a c l k := by
  rcases h2 with ⟨rfl, rfl⟩ | ⟨h, hlt⟩
  · exact h1
  · exact .inr ⟨h, by have := h1.le; omega⟩
def updP (l : List Int) (p : Pr) : List Int := setL (setL l p.x.toNat (mnI (l.getD p.x.toNat 0) (l.getD p.y.toNat 0))) p.y.toNat (mnI (l.getD p.x.toNat 0) (l.getD p.y.toNat 0))
theorem updP_same {l : List Int} {p : Pr} (h : l.getD p.x.toNat 0 = l.getD p.y.toNat 0) : updP l p = l := by
  unfold updP
  rw [h, mnI_self, ← h, setL_same, h, setL_same]
theorem getD_in {S : List Pr} {t : Nat} (h : t < S.length) (z : Pr) : S.getD t z ∈ S := by
  rw [List.getD_eq_getElem?_getD, List.getElem?_eq_getElem h]
  exact List.getElem_mem h
theorem getD_drop {S : List Pr} {t : Nat} (h : t < S.length) (z : Pr) : S.drop t = S.getD t z :: S.drop (t + 1) := by
  rw [List.drop_eq_getElem_cons h]
  congr 1
  rw [List.getD_eq_getElem?_getD, List.getElem?_eq_getElem h]
  rfl
theorem pair_11 {S : List Pr} {V N n t : Nat} {l : List Int} {ag : Bool} {c0 v1 : Int} {v2 : List Row} {A : Int → Int → (List Row) → (List Pr) → (List Int) → Option (List Int × Unit)} (hS : PairsIn S V) (h : GoodC S V l) (ht : t < S.length) (hb : t < 9223372036854775807) :
    m134_11 N A (n + 1) ag S (S.length : Int) (t : Int) c0 v1 v2 S l = m134_11 N A n (ag || !eqI (l.getD (S.getD t ⟨0, 0⟩).x.toNat 0) (l.getD (S.getD t ⟨0, 0⟩).y.toNat 0)) S (S.length : Int) ((t + 1 : Nat) : Int) c0 v1 v2 S (updP l (S.getD t ⟨0, 0⟩)) := by
  obtain ⟨⟨x0, x1⟩, y0, y1⟩ := hS _ (getD_in ht ⟨0, 0⟩)
  rw [m134_11_succ]
  unfold c134_11
  rw [ltI_true (by omega : (t : Int) < (S.length : Int)), cond_true, leI_zero, wr_add1 hb, Int.toNat_natCast, setL_length, h.len, leI_true x0, ltI_true x1, leI_true y0, ltI_true y1]
  simp only [Bool.and_self, mst2]
  by_cases he : l.getD (S.getD t ⟨0, 0⟩).x.toNat 0 = l.getD (S.getD t ⟨0, 0⟩).y.toNat 0
  · rw [eqI_true he, Bool.not_true, cond_false, Bool.or_false, updP_same he]
  · rw [eqI_false he, Bool.not_false, cond_true, Bool.or_true]
    rfl
theorem pair_10 {S : List Pr} {V N n t : Nat} {l : List Int} {ag : Bool} {c0 v1 : Int} {v2 : List Row} {A : Bool → Int → Int → (List Row) → (List Pr) → (List Int) → Option (List Int × Unit)} (hS : PairsIn S V) (h : GoodC S V l) (ht : t < S.length) (hb : t < 9223372036854775807) :
    m135_10 N A (n + 1) ag (t : Int) c0 v1 v2 S l = m135_10 N A n (ag || !eqI (l.getD (S.getD t ⟨0, 0⟩).x.toNat 0) (l.getD (S.getD t ⟨0, 0⟩).y.toNat 0)) ((t + 1 : Nat) : Int) c0 v1 v2 S (updP l (S.getD t ⟨0, 0⟩)) := by
  obtain ⟨⟨x0, x1⟩, y0, y1⟩ := hS _ (getD_in ht ⟨0, 0⟩)
  rw [m135_10_succ]
  unfold c135_10
  rw [ltI_true (by omega : (t : Int) < (S.length : Int)), cond_true, leI_zero, wr_add1 hb, Int.toNat_natCast, setL_length, h.len, leI_true x0, ltI_true x1, leI_true y0, ltI_true y1]
  simp only [Bool.and_self, mst2]
  cases ag with
  | true => rw [cond_true, Bool.true_or]; rfl
  | false =>
    rw [cond_false, Bool.false_or]
    by_cases he : l.getD (S.getD t ⟨0, 0⟩).x.toNat 0 = l.getD (S.getD t ⟨0, 0⟩).y.toNat 0
    · have hu := updP_same he
      unfold updP at hu
      rw [hu, updP_same he, ← he, mnI_self, eqI_true rfl, Bool.not_true, cond_false]
    · have hm : mnI (l.getD (S.getD t ⟨0, 0⟩).x.toNat 0) (l.getD (S.getD t ⟨0, 0⟩).y.toNat 0) = l.getD (S.getD t ⟨0, 0⟩).x.toNat 0 ∨ mnI (l.getD (S.getD t ⟨0, 0⟩).x.toNat 0) (l.getD (S.getD t ⟨0, 0⟩).y.toNat 0) = l.getD (S.getD t ⟨0, 0⟩).y.toNat 0 := by
        unfold mnI
        cases ltI (l.getD (S.getD t ⟨0, 0⟩).y.toNat 0) (l.getD (S.getD t ⟨0, 0⟩).x.toNat 0)
        · exact .inl rfl
        · exact .inr rfl
      by_cases hx : l.getD (S.getD t ⟨0, 0⟩).x.toNat 0 = mnI (l.getD (S.getD t ⟨0, 0⟩).x.toNat 0) (l.getD (S.getD t ⟨0, 0⟩).y.toNat 0)
      · rw [eqI_true hx, Bool.not_true, cond_false, eqI_false he, eqI_false (show ¬ l.getD (S.getD t ⟨0, 0⟩).y.toNat 0 = mnI (l.getD (S.getD t ⟨0, 0⟩).x.toNat 0) (l.getD (S.getD t ⟨0, 0⟩).y.toNat 0) by omega)]
        rfl
      · rw [eqI_false hx, Bool.not_false, cond_true, eqI_false he]
        rfl
theorem updP_turn {S : List Pr} {V t : Nat} {l : List Int} {ag : Bool} (hS : PairsIn S V) (h : GoodC S V l) (ht : t < S.length) :
    GoodC S V (updP l (S.getD t ⟨0, 0⟩)) ∧ Turn ag (ag || !eqI (l.getD (S.getD t ⟨0, 0⟩).x.toNat 0) (l.getD (S.getD t ⟨0, 0⟩).y.toNat 0)) l (updP l (S.getD t ⟨0, 0⟩)) ∧
    (smI (updP l (S.getD t ⟨0, 0⟩)) < smI l ∨ l.getD (S.getD t ⟨0, 0⟩).x.toNat 0 = l.getD (S.getD t ⟨0, 0⟩).y.toNat 0) := by
  obtain ⟨g1, g2, g3⟩ := good_pair hS h (getD_in ht ⟨0, 0⟩)
  refine ⟨g1, ?_, ?_⟩
  · by_cases he : l.getD (S.getD t ⟨0, 0⟩).x.toNat 0 = l.getD (S.getD t ⟨0, 0⟩).y.toNat 0
    · exact .inl ⟨by rw [eqI_true he]; cases ag <;> rfl, updP_same he⟩
    · exact .inr ⟨by rw [eqI_false he]; cases ag <;> rfl, g3 he⟩
  · by_cases he : l.getD (S.getD t ⟨0, 0⟩).x.toNat 0 = l.getD (S.getD t ⟨0, 0⟩).y.toNat 0
    · exact .inr he
    · exact .inl (g3 he)
theorem pairs_11 {S : List Pr} {V N : Nat} {c0 v1 : Int} {v2 : List Row} {A : Int → Int → (List Row) → (List Pr) → (List Int) → Option (List Int × Unit)} (hS : PairsIn S V) (hL : S.length < 1000000) :
    ∀ (k t n : Nat) (l : List Int) (ag : Bool), GoodC S V l → t + k = S.length → k < n →
    ∃ ag' l', m134_11 N A n ag S (S.length : Int) (t : Int) c0 v1 v2 S l = m134_19 N A N ag' (V : Int) 0 c0 v1 v2 S l' ∧ GoodC S V l' ∧ Turn ag ag' l l' ∧ (smI l' < smI l ∨ ∀ p ∈ S.drop t, l.getD p.x.toNat 0 = l.getD p.y.toNat 0)
  | 0, t, n + 1, l, ag, h, ht, hn => by
    refine ⟨ag, l, ?_, h, .inl ⟨rfl, rfl⟩, .inr fun p hp => ?_⟩
    · rw [m134_11_succ]
      unfold c134_11
      rw [ltI_false (by omega), cond_false, h.len]
    · rw [List.drop_eq_nil_of_le (by omega)] at hp
      exact absurd hp (by simp)
  | k + 1, t, n + 1, l, ag, h, ht, hn => by
    have htl : t < S.length := by omega
    obtain ⟨g1, g2, g3⟩ := updP_turn (ag := ag) hS h htl
    obtain ⟨ag', l', e, h', ht', hf⟩ := pairs_11 (N := N) (c0 := c0) (v1 := v1) (v2 := v2) (A := A) hS hL k (t + 1) n _ (ag || !eqI (l.getD (S.getD t ⟨0, 0⟩).x.toNat 0) (l.getD (S.getD t ⟨0, 0⟩).y.toNat 0)) g1 (by omega) (by omega)
    refine ⟨ag', l', ?_, h', g2.trans ht', ?_⟩
    · rw [pair_11 hS h htl (by omega)]; exact e
    · rcases g3 with g3 | g3
      · exact .inl (by have := ht'.le; omega)
      · rw [updP_same g3] at hf
        rcases hf with hf | hf
        · exact .inl hf
        · refine .inr fun p hp => ?_
          rw [getD_drop htl ⟨0, 0⟩] at hp
          rcases List.mem_cons.mp hp with rfl | hp
          · exact g3
          · exact hf p hp
theorem pairs_10 {S : List Pr} {V N : Nat} {c0 v1 : Int} {v2 : List Row} {A : Bool → Int → Int → (List Row) → (List Pr) → (List Int) → Option (List Int × Unit)} (hS : PairsIn S V) (hL : S.length < 1000000) :
    ∀ (k t n : Nat) (l : List Int) (ag : Bool), GoodC S V l → t + k = S.length → k < n →
    ∃ ag' l', m135_10 N A n ag (t : Int) c0 v1 v2 S l = A ag' c0 v1 v2 S l' ∧ GoodC S V l' ∧ Turn ag ag' l l' ∧ (smI l' < smI l ∨ ∀ p ∈ S.drop t, l.getD p.x.toNat 0 = l.getD p.y.toNat 0)
  | 0, t, n + 1, l, ag, h, ht, hn => by
    refine ⟨ag, l, ?_, h, .inl ⟨rfl, rfl⟩, .inr fun p hp => ?_⟩
    · rw [m135_10_succ]
      unfold c135_10
      rw [ltI_false (by omega), cond_false]
    · rw [List.drop_eq_nil_of_le (by omega)] at hp
      exact absurd hp (by simp)
  | k + 1, t, n + 1, l, ag, h, ht, hn => by
    have htl : t < S.length := by omega
    obtain ⟨g1, g2, g3⟩ := updP_turn (ag := ag) hS h htl
    obtain ⟨ag', l', e, h', ht', hf⟩ := pairs_10 (N := N) (c0 := c0) (v1 := v1) (v2 := v2) (A := A) hS hL k (t + 1) n _ (ag || !eqI (l.getD (S.getD t ⟨0, 0⟩).x.toNat 0) (l.getD (S.getD t ⟨0, 0⟩).y.toNat 0)) g1 (by omega) (by omega)
    refine ⟨ag', l', ?_, h', g2.trans ht', ?_⟩
    · rw [pair_10 hS h htl (by omega)]; exact e
    · rcases g3 with g3 | g3
      · exact .inl (by have := ht'.le; omega)
      · rw [updP_same g3] at hf
        rcases hf with hf | hf
        · exact .inl hf
        · refine .inr fun p hp => ?_
          rw [getD_drop htl ⟨0, 0⟩] at hp
          rcases List.mem_cons.mp hp with rfl | hp
          · exact g3
          · exact hf p hp
theorem copies_19 {S : List Pr} {V N : Nat} {c0 v1 : Int} {v2 : List Row} {A : Int → Int → (List Row) → (List Pr) → (List Int) → Option (List Int × Unit)} (hS : PairsIn S V) (hV : V < 1000000) :
    ∀ (k t n : Nat) (l : List Int) (ag : Bool), GoodC S V l → t + k = V → k < n →
    ∃ ag' l', m134_19 N A n ag (V : Int) (t : Int) c0 v1 v2 S l = cond ag' (A c0 v1 v2 S l') (some (l', ())) ∧ GoodC S V l' ∧ Turn ag ag' l l'
  | 0, t, n + 1, l, ag, h, ht, hn => by
    refine ⟨ag, l, ?_, h, .inl ⟨rfl, rfl⟩⟩
    rw [m134_19_succ]
    unfold c134_19
    rw [ltI_false (by omega), cond_false]
  | k + 1, t, n + 1, l, ag, h, ht, hn => by
    have htl : t < V := by omega
    have n0 := h.nn t htl
    have n1 := h.le t htl
    have hx : (l.getD t 0).toNat < V := by omega
    have n2 := h.nn _ hx
    rw [m134_19_succ]
    unfold c134_19
    rw [ltI_true (by omega : (t : Int) < (V : Int)), cond_true, leI_zero, wr_add1 (by omega), Int.toNat_natCast, h.len, leI_true n0, ltI_true (by omega : (t : Int) < (V : Int)), ltI_true (by omega : l.getD t 0 < (V : Int))]
    simp only [Bool.and_self, mst2]
    by_cases hc : l.getD (l.getD t 0).toNat 0 < l.getD t 0
    · rw [ltI_true hc, cond_true]
      have al1 := h.al t htl
      have al2 := h.al _ hx
      rw [Int.toNat_of_nonneg n0] at al2
      have g := good_set h htl n2 (by omega) (al1.trans al2)
      obtain ⟨ag', l', e, h', ht'⟩ := copies_19 (N := N) (c0 := c0) (v1 := v1) (v2 := v2) (A := A) hS hV k (t + 1) n _ true g (by omega) (by omega)
      refine ⟨ag', l', e, h', ?_⟩
      have hs := smI_set l t (l.getD (l.getD t 0).toNat 0) (by rw [h.len]; exact htl)
      have := ht'.le
      refine .inr ⟨?_, by omega⟩
      rcases ht' with ⟨e1, _⟩ | ⟨e1, _⟩ <;> exact e1
    · rw [ltI_false hc, cond_false]
      exact copies_19 (N := N) (c0 := c0) (v1 := v1) (v2 := v2) (A := A) hS hV k (t + 1) n _ ag h (by omega) (by omega)
theorem rounds_p {S : List Pr} {V N : Nat} {c0 v1 : Int} {v2 : List Row} (hS : PairsIn S V) (hL : S.length < 1000000) (hV : V < 1000000) (hN1 : S.length < N) (hN2 : V < N) :
    ∀ (k n : Nat) (l : List Int), GoodC S V l → smI l ≤ k → k < n →
    ∃ l', m134_1000 N n c0 v1 v2 S l = some (l', ()) ∧ GoodC S V l' ∧ FixC S l' := by
  intro k
  induction k with
  | zero =>
    intro n l h hk hn
    obtain ⟨n, rfl⟩ : ∃ m, n = m + 1 := ⟨n - 1, by omega⟩
    rw [m134_1000_succ]
    unfold c134_1000
    obtain ⟨a1, l1, e1, h1, t1, f1⟩ := pairs_11 (N := N) (c0 := c0) (v1 := v1) (v2 := v2) (A := m134_1000 N n) hS hL S.length 0 N l false h (by omega) hN1
    obtain ⟨a2, l2, e2, h2, t2⟩ := copies_19 (N := N) (c0 := c0) (v1 := v1) (v2 := v2) (A := m134_1000 N n) hS hV V 0 N l1 a1 h1 (by omega) hN2
    rw [show ((0 : Int)) = ((0 : Nat) : Int) from rfl, e1, show ((0 : Int)) = ((0 : Nat) : Int) from rfl, e2]
    rcases t1.trans t2 with ⟨e, el⟩ | ⟨_, hlt⟩
    · rw [e, cond_false]
      refine ⟨l2, rfl, h2, ?_⟩
      rcases f1 with f1 | f1
      · omega
      · rw [List.drop_zero] at f1
        intro p hp
        rw [el]
        exact f1 p hp
    · omega
  | succ k ih =>
    intro n l h hk hn
    obtain ⟨n, rfl⟩ : ∃ m, n = m + 1 := ⟨n - 1, by omega⟩
    rw [m134_1000_succ]
    unfold c134_1000
    obtain ⟨a1, l1, e1, h1, t1, f1⟩ := pairs_11 (N := N) (c0 := c0) (v1 := v1) (v2 := v2) (A := m134_1000 N n) hS hL S.length 0 N l false h (by omega) hN1
    obtain ⟨a2, l2, e2, h2, t2⟩ := copies_19 (N := N) (c0 := c0) (v1 := v1) (v2 := v2) (A := m134_1000 N n) hS hV V 0 N l1 a1 h1 (by omega) hN2
    rw [show ((0 : Int)) = ((0 : Nat) : Int) from rfl, e1, show ((0 : Int)) = ((0 : Nat) : Int) from rfl, e2]
    rcases t1.trans t2 with ⟨e, el⟩ | ⟨et, hlt⟩
    · rw [e, cond_false]
      refine ⟨l2, rfl, h2, ?_⟩
      rcases f1 with f1 | f1
      · have := t2.le
        rw [el] at this
        omega
      · rw [List.drop_zero] at f1
        intro p hp
        rw [el]
        exact f1 p hp
    · rw [et, cond_true]
      exact ih n l2 h2 (by omega) (by omega)
theorem rounds_r {S : List Pr} {V N : Nat} {c0 v1 : Int} {v2 : List Row} (hS : PairsIn S V) (hL : S.length < 1000000) (hN1 : S.length < N) :
    ∀ (k n : Nat) (l : List Int), GoodC S V l → smI l ≤ k → k + 1 < n →
    ∃ l', m135_7 N n true c0 v1 v2 S l = some (l', ()) ∧ GoodC S V l' ∧ FixC S l' := by
  intro k
  induction k with
  | zero =>
    intro n l h hk hn
    obtain ⟨n, rfl⟩ : ∃ m, n = m + 1 + 1 := ⟨n - 2, by omega⟩
    rw [m135_7_succ]
    unfold c135_7
    rw [cond_true]
    obtain ⟨a1, l1, e1, h1, t1, f1⟩ := pairs_10 (N := N) (c0 := c0) (v1 := v1) (v2 := v2) (A := m135_7 N (n + 1)) hS hL S.length 0 N l false h (by omega) hN1
    rw [show ((0 : Int)) = ((0 : Nat) : Int) from rfl, e1]
    rcases t1 with ⟨e, el⟩ | ⟨_, hlt⟩
    · rw [e, m135_7_succ]
      unfold c135_7
      rw [cond_false]
      refine ⟨l1, rfl, h1, ?_⟩
      rcases f1 with f1 | f1
      · omega
      · rw [List.drop_zero] at f1
        intro p hp
        rw [el]
        exact f1 p hp
    · omega
  | succ k ih =>
    intro n l h hk hn
    obtain ⟨n, rfl⟩ : ∃ m, n = m + 1 + 1 := ⟨n - 2, by omega⟩
    rw [m135_7_succ]
    unfold c135_7
    rw [cond_true]
    obtain ⟨a1, l1, e1, h1, t1, f1⟩ := pairs_10 (N := N) (c0 := c0) (v1 := v1) (v2 := v2) (A := m135_7 N (n + 1)) hS hL S.length 0 N l false h (by omega) hN1
    rw [show ((0 : Int)) = ((0 : Nat) : Int) from rfl, e1]
    rcases t1 with ⟨e, el⟩ | ⟨et, hlt⟩
    · rw [e, m135_7_succ]
      unfold c135_7
      rw [cond_false]
      refine ⟨l1, rfl, h1, ?_⟩
      rcases f1 with f1 | f1
      · rw [el] at f1; omega
      · rw [List.drop_zero] at f1
        intro p hp
        rw [el]
        exact f1 p hp
    · rw [et]
      exact ih (n + 1) l1 h1 (by omega) (by omega)
def Own (V t : Nat) (l : List Int) : Prop := l.length = V ∧ ∀ i : Nat, i < t → l.getD i 0 = (i : Int)
theorem own_step {V t : Nat} {l : List Int} (h : Own V t l) (ht : t < V) : Own V (t + 1) (setL l t (t : Int)) := by
  refine ⟨by rw [setL_length]; exact h.1, fun i hi => ?_⟩
  rw [setL_getI]
  by_cases e : i = t
  · rw [if_pos ⟨e, by rw [h.1]; exact ht⟩, e]
  · rw [if_neg (fun hc => e hc.1)]
    exact h.2 i (by omega)
theorem own_good {S : List Pr} {V : Nat} {l : List Int} (h : Own V V l) : GoodC S V l :=
  ⟨h.1, fun i hi => by rw [h.2 i hi]; omega, fun i hi => by rw [h.2 i hi]; omega, fun i hi => by rw [h.2 i hi]; exact .refl _⟩
theorem init_5 {S : List Pr} {V N : Nat} {c0 v1 : Int} {v2 : List Row} (hV : V < 1000000) :
    ∀ (k t n : Nat) (l : List Int), Own V t l → t + k = V → k < n →
    ∃ l', m134_5 N n (V : Int) (t : Int) c0 v1 v2 S l = m134_1000 N N c0 v1 v2 S l' ∧ Own V V l'
  | 0, t, n + 1, l, h, ht, hn => by
    obtain rfl : t = V := by omega
    refine ⟨l, ?_, h⟩
    rw [m134_5_succ]
    unfold c134_5
    rw [ltI_false (by omega), cond_false]
  | k + 1, t, n + 1, l, h, ht, hn => by
    rw [m134_5_succ]
    unfold c134_5
    rw [ltI_true (by omega : (t : Int) < (V : Int)), cond_true, leI_zero, wr_add1 (by omega), Int.toNat_natCast, h.1, ltI_true (by omega : (t : Int) < (V : Int))]
    simp only [Bool.and_self, mst2]
    exact init_5 hV k (t + 1) n _ (own_step h (by omega)) (by omega) (by omega)
theorem init_3 {S : List Pr} {V N : Nat} {c0 : Int} {v2 : List Row} (hV : V < 1000000) :
    ∀ (k t n : Nat) (l : List Int), Own V t l → t + k = V → k < n →
    ∃ l', m135_3 N n (t : Int) c0 (V : Int) v2 S l = m135_7 N N true c0 (V : Int) v2 S l' ∧ Own V V l'
  | 0, t, n + 1, l, h, ht, hn => by
    obtain rfl : t = V := by omega
    refine ⟨l, ?_, h⟩
    rw [m135_3_succ]
    unfold c135_3
    rw [ltI_false (by omega), cond_false]
  | k + 1, t, n + 1, l, h, ht, hn => by
    rw [m135_3_succ]
    unfold c135_3
    rw [ltI_true (by omega : (t : Int) < (V : Int)), cond_true, leI_zero, wr_add1 (by omega), Int.toNat_natCast, h.1, ltI_true (by omega : (t : Int) < (V : Int))]
    simp only [Bool.and_self, mst2]
    exact init_3 hV k (t + 1) n _ (own_step h (by omega)) (by omega) (by omega)
theorem smI_le (B : Nat) : ∀ (l : List Int), (∀ i : Nat, i < l.length → l.getD i 0 ≤ (B : Int)) → smI l ≤ l.length * B
  | [], _ => by simp [smI]
  | x :: l, h => by
    have h0 := h 0 (by simp)
    have := smI_le B l fun i hi => by
      have := h (i + 1) (by simpa using hi)
      simpa using this
    simp only [List.getD_cons_zero] at h0
    simp only [smI, List.length_cons, Nat.succ_mul]
    omega
theorem good_sm {S : List Pr} {V : Nat} {l : List Int} (h : GoodC S V l) : smI l ≤ V * V := by
  have := smI_le V l fun i hi => by
    rw [h.len] at hi
    have := h.le i hi
    omega
  rwa [h.len] at this
theorem classes_eq {S : List Pr} {V N : Nat} {c0 : Int} {v2 : List Row} (hS : PairsIn S V) (hL : S.length ≤ 1000) (hV : V ≤ 200) (hN : 100000 ≤ N) (hm : q119 N c0 (V : Int) v2 S = some (0, ())) :
    ∃ l, q134 N c0 (V : Int) v2 S = some (l, ()) ∧ q135 N c0 (V : Int) v2 S = some (l, ()) ∧ GoodC S V l ∧ FixC S l := by
  have hr : Own V 0 (List.replicate V 0) := ⟨List.length_replicate, fun i hi => absurd hi (by omega)⟩
  have hVV : V * V ≤ 200 * 200 := Nat.mul_le_mul hV hV
  obtain ⟨l1, e1, o1⟩ := init_5 (S := S) (N := N) (c0 := c0) (v1 := (V : Int)) (v2 := v2) (by omega) V 0 N _ hr (by omega) (by omega)
  obtain ⟨l2, e2, o2⟩ := init_3 (S := S) (N := N) (c0 := c0) (v2 := v2) (by omega) V 0 N _ hr (by omega) (by omega)
  have g1 : GoodC S V l1 := own_good o1
  have g2 : GoodC S V l2 := own_good o2
  obtain ⟨m1, r1, h1, f1⟩ := rounds_p (N := N) (c0 := c0) (v1 := (V : Int)) (v2 := v2) hS (by omega) (by omega) (by omega) (by omega) (V * V) N l1 g1 (good_sm g1) (by omega)
  obtain ⟨m2, r2, h2, f2⟩ := rounds_r (N := N) (c0 := c0) (v1 := (V : Int)) (v2 := v2) hS (by omega) (by omega) (V * V) N l2 g2 (good_sm g2) (by omega)
  obtain rfl := fix_unique hS h1 h2 f1 f2
  refine ⟨m1, ?_, ?_, h1, f1⟩
  · unfold q134
    rw [hm]
    simp only [bsm]
    rw [eqI_true rfl, Bool.not_true, cond_false, leI_zero, eqI_true rfl, Int.toNat_natCast, leN_true (by omega), List.length_replicate]
    simp only [Bool.and_self, mst2]
    exact e1.trans r1
  · unfold q135
    rw [leI_zero, eqI_true rfl, Int.toNat_natCast, leN_true (by omega)]
    simp only [Bool.and_self, mst2]
    exact e2.trans r2
end Go.Proofs.Ytgimohchocjgcaa.V
