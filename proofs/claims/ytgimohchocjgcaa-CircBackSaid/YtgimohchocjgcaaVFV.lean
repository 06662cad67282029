import Derived.Test.YtgimohchocjgcaaVFP
import Derived.KernelRfl
import Derived.Test.YtgimohchocjgcaaVUM
set_option linter.unusedVariables false
set_option linter.unusedSimpArgs false
namespace Go.Proofs.Ytgimohchocjgcaa.V
section
theorem mst2 {R : Type} {x : Option R} : must true x = x := by rw [mst]
theorem bsm {α β : Type} {a : α} {f : α -> Option β} : Option.bind (some a) f = f a := by rw [Option.bind_some]
theorem zo5 (a m : List UInt64) (k : Nat) : lv (a.take (k + 1)) < lv (m.take (k + 1)) ↔ ((a.getD k 0).toNat < (m.getD k 0).toNat \/ ((a.getD k 0).toNat = (m.getD k 0).toNat /\ lv (a.take k) < lv (m.take k))) := by
  have h1 := zcB a k
  have h2 := zcB m k
  rw [zav, zav]
  generalize lv (a.take k) = A at *
  generalize lv (m.take k) = M at *
  generalize (18446744073709551616 ^ k : Nat) = P at *
  generalize (a.getD k 0).toNat = x
  generalize (m.getD k 0).toNat = y
  rcases Nat.lt_trichotomy x y with h | h | h
  . have h3 : P * (x + 1) <= P * y := Nat.mul_le_mul_left _ h
    rw [Nat.mul_add, Nat.mul_one] at h3
    exact ⟨fun _ => .inl h, fun _ => by omega⟩
  . subst h
    constructor
    . intro h; exact .inr ⟨rfl, by omega⟩
    . rintro (h | ⟨_, h⟩) <;> omega
  . have h3 : P * (y + 1) <= P * x := Nat.mul_le_mul_left _ h
    rw [Nat.mul_add, Nat.mul_one] at h3
    constructor
    . intro h; omega
    . rintro (h | ⟨h, _⟩) <;> omega
theorem zxM (N : Nat) (a m : List UInt64) (hm : m.length < 1000000) (ha : m.length <= a.length) : ∀ (k n : Nat), k <= m.length -> k < n -> zip N n a m ((k : Int) - 1) = some (decide (lv (a.take k) < lv (m.take k)), ()) := by
  intro k
  induction k with
  | zero =>
    intro n hk hn
    obtain ⟨n, rfl⟩ : ∃ m, n = m + 1 := ⟨n - 1, by omega⟩
    rw [zhd]
    unfold zio
    rw [zaG (by omega), cond_false]
    simp [lv]
  | succ k ih =>
    intro n hk hn
    obtain ⟨n, rfl⟩ : ∃ m, n = m + 1 := ⟨n - 1, by omega⟩
    rw [zhd]
    unfold zio
    rw [show ((k + 1 : Nat) : Int) - 1 = (k : Int) by omega, zaq, cond_true, zae (show (k : Int) < (a.length : Int) by omega), zae (show (k : Int) < (m.length : Int) by omega)]
    simp only [Bool.and_self, mst, Int.toNat_natCast]
    rw [zbD (by omega) (by omega), ih n (by omega) (by omega)]
    have e := zo5 a m k
    by_cases h : a.getD k 0 = m.getD k 0
    . rw [h]
      simp only [beq_self_eq_true, Bool.not_true, cond_false]
      rw [h] at e
      congr 2
      rw [Bool.eq_iff_iff, decide_eq_true_iff, decide_eq_true_iff, e]
      constructor
      . intro h; exact .inr ⟨rfl, h⟩
      . rintro (h | ⟨_, h⟩)
        . omega
        . exact h
    . rw [beq_eq_false_iff_ne.2 h]
      simp only [Bool.not_false, cond_true]
      have hne : (a.getD k 0).toNat ≠ (m.getD k 0).toNat := fun h2 => h (UInt64.toNat_inj.1 h2)
      congr 2
      rw [Bool.eq_iff_iff, decide_eq_true_iff, e]
      simp only [ltN, decide_eq_true_iff]
      constructor
      . intro h; exact .inl h
      . rintro (h | ⟨h, _⟩)
        . exact h
        . exact absurd h hne
theorem zmL {N : Nat} {a m : List UInt64} (hm : m.length < 1000000) (ha : m.length = a.length) (hN : m.length < N) : q168 N a m = some (decide (lv a < lv m), ()) := by
  unfold q168
  rw [zbD (by omega) (by omega), zxM N a m hm (by omega) m.length N (Nat.le_refl _) hN, List.take_of_length_le (by omega), List.take_of_length_le (by omega)]
theorem zxN (N : Nat) (m : List UInt64) (tn : Nat) (hm : m.length <= tn) (hb : tn < 1000000) (t0 : List UInt64) : ∀ (k n j : Nat) (c : UInt64) (t : List UInt64), j + k = m.length -> k < n -> t.length = tn -> c.toNat <= 1 -> (∀ p, j <= p -> t.getD p 0 = t0.getD p 0) ->
    lv (t.take j) + lv (m.take j) = lv (t0.take j) + 18446744073709551616 ^ j * c.toNat ->
    ∃ (c' : UInt64) (t' : List UInt64), t'.length = tn /\ c'.toNat <= 1 /\ lv (t'.take m.length) + lv m = lv (t0.take m.length) + 18446744073709551616 ^ m.length * c'.toNat /\ zir N n 0 tn m c (j : Int) t = some (t', ()) := by
  intro k
  induction k with
  | zero =>
    intro n j c t hj hn ht hc hp hv
    obtain ⟨n, rfl⟩ : ∃ m, n = m + 1 := ⟨n - 1, by omega⟩
    obtain rfl : j = m.length := by omega
    rw [List.take_of_length_le (l := m) (by omega)] at hv
    refine ⟨c, t, ht, hc, hv, ?_⟩
    rw [zhe]
    unfold ziq
    rw [zad (by omega), cond_false]
  | succ k ih =>
    intro n j c t hj hn ht hc hp hv
    obtain ⟨n, rfl⟩ : ∃ m, n = m + 1 := ⟨n - 1, by omega⟩
    obtain ⟨s, d, h1, h2, h3⟩ := zr2 (x := t.getD j 0) (y := m.getD j 0) hc
    rw [zhe]
    unfold ziq
    rw [zaD (by omega)]
    simp only [za4, zaq, Int.toNat_natCast, Nat.zero_add]
    rw [zax (show j < m.length by omega), zax (show j < tn by omega), cond_true]
    simp only [Bool.and_self, mst, h1, Option.bind_some]
    refine ih n (j + 1) _ _ (by omega) (by omega) (by rw [zaB]; exact ht) h2 ?_ ?_
    . intro p h
      rw [zbg, if_neg (by omega)]
      exact hp p (by omega)
    . rw [zbd _ _ (by omega), zav m, zav t0, ← hp j (Nat.le_refl _), Nat.pow_succ]
      generalize lv (List.take j t) = A1 at *
      generalize lv (List.take j m) = A2 at *
      generalize lv (List.take j t0) = A3 at *
      generalize (18446744073709551616 ^ j : Nat) = P at *
      generalize (m.getD j 0).toNat = y at *
      generalize (t.getD j 0).toNat = x at *
      generalize d.toNat = d0 at *
      generalize s.toNat = s at *
      generalize c.toNat = c0 at *
      have e : P * s + P * y + P * c0 = P * x + P * 18446744073709551616 * d0 := by
        have : P * (s + y + c0) = P * (x + 18446744073709551616 * d0) := by rw [h3]
        grind
      grind
theorem zr5 {N : Nat} {t m : List UInt64} (hm : m.length <= t.length) (hb : t.length < 1000000) (hN : m.length < N) :
    ∃ (c' : UInt64) (t' : List UInt64), t'.length = t.length /\ c'.toNat <= 1 /\ lv (t'.take m.length) + lv m = lv (t.take m.length) + 18446744073709551616 ^ m.length * c'.toNat /\ q214 N t m = some (t', ()) :=
  zxN N m t.length hm hb t m.length N 0 0 t (by omega) hN rfl (by decide) (fun _ _ => rfl) (by simp [lv])
theorem alg1 (B A1 A2 A3 P x y w c0 c1 s : Nat) (hv : A1 + P * c0 = A2 + x * A3) (h4 : s + B * c1 = x * y + w + c0) : A1 + P * s + P * B * c1 = A2 + P * w + x * (A3 + P * y) := by
  have e : P * s + P * B * c1 = P * (x * y + w + c0) := by rw [← h4]; grind
  grind
theorem alg2 (B A1 A2 A3 P x y w c0 c1 s : Nat) (hv : B * (A1 + P * c0) = A2 + x * A3) (h4 : s + B * c1 = x * y + w + c0) : B * (A1 + P * s + P * B * c1) = A2 + P * B * w + x * (A3 + P * B * y) := by
  have e : P * s + P * B * c1 = P * (x * y + w + c0) := by rw [← h4]; grind
  grind
theorem zo6 (N : Nat) (A : List UInt64 -> List UInt64 -> List UInt64 -> Int -> UInt64 -> Int -> List UInt64 -> Option (List UInt64 × Unit)) (a b m t0 : List UInt64) (iv : UInt64) (i : Nat) (hi : i < 4) (ha : a.length = 4) (hb : b.length = 4) : ∀ (k n j : Nat) (c : UInt64) (t : List UInt64), j + k = 4 -> k < n -> t.length = 6 ->
    lv (t.take j) + 18446744073709551616 ^ j * c.toNat = lv (t0.take j) + (a.getD i 0).toNat * lv (b.take j) -> (∀ p, j <= p -> t.getD p 0 = t0.getD p 0) ->
    ∃ (c' : UInt64) (t' : List UInt64) (n' : Nat), t'.length = 6 /\ lv (t'.take 4) + 18446744073709551616 ^ 4 * c'.toNat = lv (t0.take 4) + (a.getD i 0).toNat * lv b /\ t'.getD 4 0 = t0.getD 4 0 /\
      zek N A n a b m 4 iv (i : Int) c (j : Int) t = zek N A (n' + 1) a b m 4 iv (i : Int) c' 4 t' := by
  intro k
  induction k with
  | zero =>
    intro n j c t hj hn ht hv hp
    obtain ⟨n, rfl⟩ : ∃ m, n = m + 1 := ⟨n - 1, by omega⟩
    obtain rfl : j = 4 := by omega
    rw [List.take_of_length_le (l := b) (by omega)] at hv
    exact ⟨c, t, n, ht, hv, hp 4 (Nat.le_refl _), rfl⟩
  | succ k ih =>
    intro n j c t hj hn ht hv hp
    obtain ⟨n, rfl⟩ : ∃ m, n = m + 1 := ⟨n - 1, by omega⟩
    obtain ⟨hi', lo, h1, s1, k1, h2, s2, k2, h3, h4⟩ := mac' N (a.getD i 0) (b.getD j 0) (t.getD j 0) c
    rw [zfX]
    unfold zej
    rw [zae (show (j : Int) < 4 by omega), cond_true, zaD (by omega)]
    simp only [za4, zaq, Int.toNat_natCast]
    rw [zax (show i < a.length by omega), zax (show j < b.length by omega), zax (show j < t.length by omega)]
    simp only [Bool.and_self, mst2, h1, h2, h3, bsm]
    refine ih n (j + 1) _ _ (by omega) (by omega) (by rw [zaB]; exact ht) ?_ ?_
    . rw [zbd _ _ (by omega), zav t0, zav b, ← hp j (Nat.le_refl _), Nat.pow_succ]
      exact alg1 _ _ _ _ _ _ _ _ _ _ _ hv h4
    . intro p h
      rw [zbg, if_neg (by omega)]
      exact hp p (by omega)
theorem zo7 (N : Nat) (A : List UInt64 -> List UInt64 -> List UInt64 -> Int -> UInt64 -> Int -> List UInt64 -> Option (List UInt64 × Unit)) (a b m t0 : List UInt64) (iv x : UInt64) (i : Int) (hm : m.length = 4) : ∀ (k n j : Nat) (c : UInt64) (t : List UInt64), 1 <= j -> j + k = 4 -> k < n -> t.length = 6 ->
    18446744073709551616 * (lv (t.take (j - 1)) + 18446744073709551616 ^ (j - 1) * c.toNat) = lv (t0.take j) + x.toNat * lv (m.take j) -> (∀ p, j - 1 <= p -> t.getD p 0 = t0.getD p 0) ->
    ∃ (c' : UInt64) (t' : List UInt64) (n' : Nat), t'.length = 6 /\ 18446744073709551616 * (lv (t'.take 3) + 18446744073709551616 ^ 3 * c'.toNat) = lv (t0.take 4) + x.toNat * lv m /\ t'.getD 4 0 = t0.getD 4 0 /\ t'.getD 5 0 = t0.getD 5 0 /\
      zdG N A n a b m 4 iv i c x (j : Int) t = zdG N A (n' + 1) a b m 4 iv i c' x 4 t' := by
  intro k
  induction k with
  | zero =>
    intro n j c t h1 hj hn ht hv hp
    obtain ⟨n, rfl⟩ : ∃ m, n = m + 1 := ⟨n - 1, by omega⟩
    obtain rfl : j = 4 := by omega
    rw [List.take_of_length_le (l := m) (by omega)] at hv
    exact ⟨c, t, n, ht, hv, hp 4 (by omega), hp 5 (by omega), rfl⟩
  | succ k ih =>
    intro n j c t hj1 hj hn ht hv hp
    obtain ⟨n, rfl⟩ : ∃ m, n = m + 1 := ⟨n - 1, by omega⟩
    obtain ⟨j, rfl⟩ : ∃ p, j = p + 1 := ⟨j - 1, by omega⟩
    obtain ⟨hi', lo, h1, s1, k1, h2, s2, k2, h3, h4⟩ := mac' N x (m.getD (j + 1) 0) (t.getD (j + 1) 0) c
    rw [zfW]
    unfold zei
    rw [zae (show ((j + 1 : Nat) : Int) < 4 by omega), cond_true, zaD (by omega), zjK (by omega)]
    simp only [za4, zaq, Int.toNat_natCast]
    rw [zax (show j + 1 < m.length by omega), zax (show j + 1 < t.length by omega), zax (show j < t.length by omega)]
    simp only [Bool.and_self, mst2, h1, h2, h3, bsm]
    refine ih n (j + 1 + 1) _ _ (by omega) (by omega) (by omega) (by rw [zaB]; exact ht) ?_ ?_
    . simp only [Nat.add_sub_cancel] at hv ⊢
      rw [zbd _ _ (by omega), zav t0, zav m, ← hp (j + 1) (by omega), Nat.pow_succ]
      exact alg2 _ _ _ _ _ _ _ _ _ _ _ hv h4
    . intro p h
      rw [zbg, if_neg (by omega)]
      exact hp p (by omega)
end
section
theorem zmM {t : List UInt64} (h : t.length = 6) : lv (t.take 5) = lv (t.take 4) + 18446744073709551616 ^ 4 * (t.getD 4 0).toNat := zav t 4
theorem e45 : wr (4 + 1) = ((5 : Nat) : Int) := by decide +kernel
theorem e43 : wr (4 - 1) = ((3 : Nat) : Int) := by decide +kernel
theorem i4 : (4 : Int) = ((4 : Nat) : Int) := rfl
theorem zmN (N : Nat) (A : List UInt64 -> List UInt64 -> List UInt64 -> Int -> UInt64 -> Int -> List UInt64 -> Option (List UInt64 × Unit)) (A14 : List UInt64 -> List UInt64 -> List UInt64 -> Int -> UInt64 -> Int -> UInt64 -> Int -> List UInt64 -> Option (List UInt64 × Unit)) (a b : List UInt64) (i : Int) (c iv : UInt64) (t : List UInt64) (ht : t.length = 6)
    {top x hi0 lo0 s0 k0 : UInt64} (h1 : kAdd (t.getD 4 0) c 0 = some (top, x)) (h2 : q163 N (t.getD 0 0 * iv) 18446744069414584321 = some (hi0, lo0, ())) (h3 : kAdd (t.getD 0 0) lo0 0 = some (s0, k0)) :
    zej N A A14 a b mL 4 iv i c 4 t = zdG N A N a b mL 4 iv i (hi0 + k0) (t.getD 0 0 * iv) 1 (setL (setL t 4 top) 5 x) := by
  unfold zej
  rw [zad (by omega), cond_false, ht, e45, i4]
  simp only [zaq, za4, Int.toNat_natCast, zaB, ht]
  rw [zax (by omega), zax (by omega)]
  simp only [Bool.and_self, mst2, h1, bsm]
  rw [zae (show (0 : Int) < ((6 : Nat) : Int) by omega), show List.length mL = 4 from rfl, zae (show (0 : Int) < ((4 : Nat) : Int) by omega)]
  have e0 : List.getD (setL (setL t 4 top) 5 x) 0 0 = t.getD 0 0 := by
    rw [zbg, if_neg (by omega), zbg, if_neg (by omega)]
  rw [e0, show List.getD mL 0 0 = 18446744069414584321 from rfl]
  simp only [mst2, h2, h3, bsm]
theorem zmO (N : Nat) (A : List UInt64 -> List UInt64 -> List UInt64 -> Int -> UInt64 -> Int -> List UInt64 -> Option (List UInt64 × Unit)) (A27 : List UInt64 -> List UInt64 -> List UInt64 -> Int -> UInt64 -> Int -> UInt64 -> UInt64 -> Int -> List UInt64 -> Option (List UInt64 × Unit)) (a b : List UInt64) (i : Nat) (hi : i < 100) (c iv x : UInt64) (t : List UInt64) (ht : t.length = 6)
    {s k : UInt64} (h1 : kAdd (t.getD 4 0) c 0 = some (s, k)) :
    zei N A A27 a b mL 4 iv (i : Int) c x 4 t = A a b mL 4 iv ((i + 1 : Nat) : Int) (setL (setL t 3 s) 4 (t.getD 5 0 + k)) := by
  unfold zei
  rw [zad (by omega), cond_false, ht, e45, e43, i4, zaD (by omega)]
  simp only [zaq, za4, Int.toNat_natCast, zaB, ht]
  rw [zax (by omega), zax (by omega), zax (by omega)]
  simp only [Bool.and_self, mst2, h1, bsm]
theorem zkZ {N : Nat} (hN : 10 < N) (a b t : List UInt64) (i : Nat) (hi : i < 4) (ha : a.length = 4) (hb : b.length = 4) (ht : t.length = 6) (hlt : lv (t.take 5) < lv b + RR) (n : Nat) :
    ∃ t' x, t'.length = 6 /\ 18446744073709551616 * lv (t'.take 5) = lv (t.take 5) + (a.getD i 0).toNat * lv b + x * RR /\ x < 18446744073709551616 /\
      zbF N (n + 1) a b mL 4 18446744069414584319 (i : Int) t = zbF N n a b mL 4 18446744069414584319 ((i + 1 : Nat) : Int) t' := by
  have hal := zmJ b
  rw [hb] at hal
  have hRR : RR < 18446744073709551616 ^ 4 := by decide
  have htt := zmM ht
  have ht4 : (t.getD 4 0).toNat <= 1 := by omega
  obtain ⟨c1, t1, n1, g1, g2, g3, g4⟩ := zo6 N (zbF N n) a b mL t 18446744069414584319 i hi ha hb 4 N 0 0 t rfl (by omega) ht (by simp [lv]) (fun _ _ => rfl)
  obtain ⟨top, more, f1, f2, f3⟩ := zxJ (t1.getD 4 0) c1
  obtain ⟨hi0, lo0, e1, e2⟩ := zr3 N (t1.getD 0 0 * 18446744069414584319) 18446744069414584321
  obtain ⟨s0, k0, d1, d2, d3⟩ := zxJ (t1.getD 0 0) lo0
  have hs0 : s0.toNat = 0 := by
    have hl := zxK (t1.getD 0 0)
    have := (t1.getD 0 0).toNat_lt
    have := lo0.toNat_lt
    have := s0.toNat_lt
    rw [show UInt64.toNat 18446744069414584321 = 18446744069414584321 from rfl] at e2
    rw [← e2] at hl
    omega
  have hc : (hi0 + k0).toNat = hi0.toNat + k0.toNat := by
    have := hi0.toNat_lt
    have hx : (t1.getD 0 0 * 18446744069414584319).toNat * UInt64.toNat 18446744069414584321 <= 18446744073709551615 * 18446744069414584321 := Nat.mul_le_mul (by have := (t1.getD 0 0 * 18446744069414584319).toNat_lt; omega) (Nat.le_refl _)
    rw [UInt64.toNat_add]
    omega
  have hst : (setL (setL t1 4 top) 5 more).length = 6 := by rw [zaB, zaB]; exact g1
  have hsT : ∀ j, j <= 4 -> List.take j (setL (setL t1 4 top) 5 more) = List.take j t1 := fun j hj => by rw [zeZ _ _ (by omega), zeZ _ _ hj]
  have hv2 : 18446744073709551616 * (lv (List.take (1 - 1) (setL (setL t1 4 top) 5 more)) + 18446744073709551616 ^ (1 - 1) * (hi0 + k0).toNat) = lv (List.take 1 (setL (setL t1 4 top) 5 more)) + (t1.getD 0 0 * 18446744069414584319).toNat * lv (mL.take 1) := by
    have e5 : lv (t1.take 1) = (t1.getD 0 0).toNat := by rw [zav]; simp [lv]
    have e6 : lv (mL.take 1) = 18446744069414584321 := by decide +kernel
    rw [hsT 1 (by omega), e5, e6, hc]
    rw [show UInt64.toNat 18446744069414584321 = 18446744069414584321 from rfl] at e2
    simp only [Nat.sub_self, List.take_zero, lv, Nat.pow_zero]
    omega
  obtain ⟨c2, t2, n2, p1, p2, p4, p5, p3⟩ := zo7 N (zbF N n) a b mL (setL (setL t1 4 top) 5 more) 18446744069414584319 (t1.getD 0 0 * 18446744069414584319) (i : Int) rfl 3 N 1 (hi0 + k0) (setL (setL t1 4 top) 5 more) (Nat.le_refl _) rfl (by omega) hst hv2 (fun _ _ => rfl)
  rw [zbg, if_neg (by omega), zbg, if_pos ⟨rfl, by omega⟩] at p4
  rw [zbg, if_pos ⟨rfl, by rw [zaB]; omega⟩] at p5
  obtain ⟨t3, k3, r1, r2, r3⟩ := zxJ (t2.getD 4 0) c2
  rw [hsT 4 (Nat.le_refl _)] at p2
  refine ⟨setL (setL t2 3 t3) 4 (t2.getD 5 0 + k3), (t1.getD 0 0 * 18446744069414584319).toNat, by rw [zaB, zaB]; exact p1, ?_, (t1.getD 0 0 * 18446744069414584319).toNat_lt, ?_⟩
  . have hm : (t2.getD 5 0 + k3).toNat = more.toNat + k3.toNat := by rw [p5, UInt64.toNat_add]; omega
    have hL : lv (List.take 5 (setL (setL t2 3 t3) 4 (t2.getD 5 0 + k3))) = lv (t2.take 3) + 18446744073709551616 ^ 3 * t3.toNat + 18446744073709551616 ^ 4 * (more.toNat + k3.toNat) := by
      rw [zmM (by rw [zaB, zaB]; exact p1), zeZ _ _ (Nat.le_refl _), zbg, if_pos ⟨rfl, by rw [zaB]; omega⟩, zbd _ _ (by omega), hm]
    rw [hL, htt]
    rw [zkY] at p2
    rw [g3] at f3
    rw [p4] at r3
    generalize lv (List.take 3 t2) = A1 at *
    generalize lv (List.take 4 t1) = A2 at *
    generalize lv (List.take 4 t) = A3 at *
    generalize (t1.getD 0 0 * 18446744069414584319).toNat * RR = X at *
    generalize (a.getD i 0).toNat * lv b = Y at *
    omega
  . rw [zfY]
    unfold zfx
    rw [zae (show (i : Int) < 4 by omega), cond_true]
    refine g4.trans ?_
    rw [zfX, zmN N _ _ a b (i : Int) c1 18446744069414584319 t1 g1 f1 e1 d1]
    refine p3.trans ?_
    rw [zfW, zmO N _ _ a b i (by omega) c2 _ _ t2 p1 r1]
theorem alg3 (P A1 A2 A3 y q x M : Nat) (hv : P * A3 = A1 * A2 + q * M) : P * (A3 + y * A2 + x * M) = (A1 + P * y) * A2 + (q + P * x) * M := by grind
theorem zmP {N : Nat} (hN : 10 < N) (a b t : List UInt64) (n : Nat) (ht : t.length = 6) (hb : lv (t.take 5) < RR + 18446744073709551616 ^ 4) :
    ∃ r, r.length = 4 /\ zbF N (n + 1) a b mL 4 18446744069414584319 4 t = some (r, ()) /\ lv r = if lv (t.take 5) < RR then lv (t.take 5) else lv (t.take 5) - RR := by
  have hRR : RR < 18446744073709551616 ^ 4 := by decide
  have htt := zmM ht
  have h4 := zcB t 4
  obtain ⟨c', t', g1, g2, g3, g4⟩ := zr5 (N := N) (t := t) (m := mL) (by rw [ht]; decide) (by omega) (by show 4 < N; omega)
  have hml : mL.length = 4 := rfl
  rw [hml, zkY] at g3
  rw [ht] at g1
  have hl4 := zcB t' 4
  have e4 : Int.toNat (((4 : Nat) : Int) - 0) = 4 := by decide
  rw [zfY]
  unfold zfx
  rw [zad (by omega), cond_false, ht, i4]
  have c1 : lv (t.take 5) < RR -> (t.getD 4 0).toNat = 0 := fun h => by omega
  simp only [zaq, za4, zjy, Int.toNat_natCast, e4]
  rw [zax (show 4 < 6 by omega), zay (show 4 <= 6 by omega), zax (show 0 < 6 by omega), zax (show 0 < 4 by omega)]
  simp only [Bool.and_self, mst2, g4, bsm, g1]
  rw [zay (show 4 <= 6 by omega), show Nat.beq 6 6 = true from rfl]
  simp only [mst2]
  by_cases hz : t.getD 4 0 = 0
  . rw [hz]
    have hz' : (t.getD 4 0).toNat = 0 := by rw [hz]; rfl
    simp only [beq_self_eq_true, Bool.not_true, cond_false]
    rw [zmL (N := N) (a := t.take 4) (m := mL) (by decide) (by rw [List.length_take]; omega) (by show 4 < N; omega), zkY]
    simp only [bsm]
    by_cases h : lv (t.take 4) < RR
    . rw [decide_eq_true h]
      simp only [Bool.not_true, cond_false]
      have h5 : lv (t.take 5) = lv (t.take 4) := by rw [htt, hz', Nat.mul_zero, Nat.add_zero]
      refine ⟨_, by rw [List.length_take, ht]; rfl, rfl, ?_⟩
      rw [h5, if_pos h]
    . rw [decide_eq_false h]
      simp only [Bool.not_false, cond_true]
      have h5 : lv (t.take 5) = lv (t.take 4) := by rw [htt, hz', Nat.mul_zero, Nat.add_zero]
      refine ⟨_, by rw [List.length_take, g1]; rfl, rfl, ?_⟩
      rw [h5, if_neg h]
      rw [h5] at hb
      omega
  . have hz' : (t.getD 4 0).toNat ≠ 0 := fun h => hz (UInt64.toNat_inj.1 h)
    rw [beq_eq_false_iff_ne.2 hz]
    simp only [Bool.not_false, cond_true]
    have hn : ¬ lv (t.take 5) < RR := fun h => hz' (c1 h)
    refine ⟨_, by rw [List.length_take, g1]; rfl, rfl, ?_⟩
    rw [if_neg hn]
    omega
theorem zcc (N n : Nat) (a b : List UInt64) (iv : UInt64) (i : Nat) (hi : i < 6) : zd5 N (n + 1) a b mL 4 iv (i : Int) = zd5 N n a b mL 4 (iv * (2 - 18446744069414584321 * iv)) ((i + 1 : Nat) : Int) := by
  rw [zhf]
  unfold zis
  rw [zae (by omega), cond_true, show List.length mL = 4 from rfl, zae (by omega), mst2, zaD (by omega), show List.getD mL 0 0 = 18446744069414584321 from rfl]
theorem zo8 (N n : Nat) (a b : List UInt64) (iv : UInt64) : zd5 N (n + 1) a b mL 4 iv ((6 : Nat) : Int) = zbF N N a b mL 4 (0 - iv) 0 [0, 0, 0, 0, 0, 0] := by
  rw [zhf]
  unfold zis
  have e : wr (4 + 2) = 6 := by decide +kernel
  have e1 : Int.toNat 6 = 6 := by decide
  have e2 : List.replicate 6 (0 : UInt64) = [0, 0, 0, 0, 0, 0] := by decide
  rw [zad (by omega), cond_false, e, e1, e2, zbp (by omega), zaI (by omega), zay (by omega)]
  simp only [Bool.and_self, mst2]
def ivs (x : UInt64) : UInt64 := x * (2 - 18446744069414584321 * x)
theorem zr6 (N : Nat) (a b : List UInt64) (n : Nat) : zd5 N (n + 7) a b mL 4 18446744069414584321 0 = zbF N N a b mL 4 18446744069414584319 0 [0, 0, 0, 0, 0, 0] := by
  have e : (0 : UInt64) - ivs (ivs (ivs (ivs (ivs (ivs 18446744069414584321))))) = 18446744069414584319 := by decide +kernel
  refine (zcc N (n + 6) a b _ 0 (by omega)).trans ((zcc N (n + 5) a b _ 1 (by omega)).trans ((zcc N (n + 4) a b _ 2 (by omega)).trans ((zcc N (n + 3) a b _ 3 (by omega)).trans ((zcc N (n + 2) a b _ 4 (by omega)).trans ((zcc N (n + 1) a b _ 5 (by omega)).trans ((zo8 N n a b _).trans ?_))))))
  exact congrArg (fun v => zbF N N a b mL 4 v 0 [0, 0, 0, 0, 0, 0]) e
theorem zr7 {N : Nat} (hN : 10 < N) {a b : List UInt64} (ha : a.length = 4) (hb : b.length = 4) (hlt : lv b < RR) : ∃ r, r.length = 4 /\ q184 N a b mL = some (r, ()) /\ lv r = lv a * lv b * Binv % RR := by
  have hRR : RR < 18446744073709551616 ^ 4 := by decide
  have hR0 : 0 < RR := by decide
  have loop : ∀ (k n i : Nat) (t : List UInt64) (q : Nat), i + k = 4 -> k < n -> t.length = 6 -> lv (t.take 5) < lv b + RR -> 18446744073709551616 ^ i * lv (t.take 5) = lv (a.take i) * lv b + q * RR ->
      ∃ (t' : List UInt64) (q' n' : Nat), t'.length = 6 /\ lv (t'.take 5) < lv b + RR /\ 18446744073709551616 ^ 4 * lv (t'.take 5) = lv a * lv b + q' * RR /\ zbF N n a b mL 4 18446744069414584319 (i : Int) t = zbF N (n' + 1) a b mL 4 18446744069414584319 4 t' := by
    intro k
    induction k with
    | zero =>
      intro n i t q hi hn ht hl hv
      obtain ⟨n, rfl⟩ : ∃ m, n = m + 1 := ⟨n - 1, by omega⟩
      obtain rfl : i = 4 := by omega
      rw [List.take_of_length_le (l := a) (by omega)] at hv
      exact ⟨t, q, n, ht, hl, hv, rfl⟩
    | succ k ih =>
      intro n i t q hi hn ht hl hv
      obtain ⟨n, rfl⟩ : ∃ m, n = m + 1 := ⟨n - 1, by omega⟩
      obtain ⟨t', x, h1, h2, h3, h4⟩ := zkZ hN a b t i (by omega) ha hb ht hl n
      have hb : (a.getD i 0).toNat <= 18446744073709551615 := by have := (a.getD i 0).toNat_lt; omega
      have h5 : (a.getD i 0).toNat * lv b <= 18446744073709551615 * lv b := Nat.mul_le_mul_right _ hb
      have h6 : x * RR <= 18446744073709551615 * RR := Nat.mul_le_mul_right _ (by omega)
      rw [h4]
      exact ih n (i + 1) t' (q + 18446744073709551616 ^ i * x) (by omega) (by omega) h1 (by omega) (by
        rw [Nat.pow_succ, Nat.mul_assoc, h2, zav a]
        exact alg3 _ _ _ _ _ _ _ _ hv)
  obtain ⟨t', q', n', h1, h2, h3, h4⟩ := loop 4 N 0 [0, 0, 0, 0, 0, 0] 0 rfl (by omega) rfl (by simp [lv]; omega) (by simp [lv])
  obtain ⟨n, hn⟩ : ∃ n, N = n + 7 := ⟨N - 7, by omega⟩
  have hq : q184 N a b mL = zd5 N N a b mL 4 18446744069414584321 0 := rfl
  obtain ⟨r, hr1, hr2, hr3⟩ := zmP hN a b t' n' h1 (by omega)
  refine ⟨r, hr1, ?_, ?_⟩
  . rw [hq]
    have e := zr6 N a b n
    rw [← hn] at e
    rw [e]
    exact h4.trans hr2
  . refine zux h3 ?_ ?_
    . split at hr3 <;> omega
    . split at hr3 <;> omega
end
section
def frN (n : Nat) : Fr := ⟨UInt64.ofNat n, UInt64.ofNat (n / 18446744073709551616), UInt64.ofNat (n / 18446744073709551616 / 18446744073709551616), UInt64.ofNat (n / 18446744073709551616 / 18446744073709551616 / 18446744073709551616)⟩
theorem zr8 {n : Nat} (h : n < 18446744073709551616 ^ 4) : fv (frN n) = n := by
  simp only [fv, frN, Fr.l, lv, UInt64.toNat_ofNat']
  omega
theorem zxO : RR < 18446744073709551616 ^ 4 := by decide
theorem zmQ {n : Nat} (h : n < RR) : fv (frN n) = n := zr8 (Nat.lt_trans h zxO)
theorem ziw (n : Nat) : fv (frN (n % RR)) = n % RR := zmQ (zhj n)
theorem zvH {x : Fr} {n : Nat} (h : fv x = n) : x = frN n := zAL (by rw [zr8 (by rw [← h]; exact zAK x), h])
theorem zr9 (x : Fr) : frN (fv x) = x := (zvH rfl).symm
theorem zvI (x y : Fr) : eqL El.u64 [x.a0, x.a1, x.a2, x.a3] [y.a0, y.a1, y.a2, y.a3] = decide (x = y) := by
  obtain ⟨a, b, c, d⟩ := x
  obtain ⟨a', b', c', d'⟩ := y
  rw [Bool.eq_iff_iff, decide_eq_true_iff]
  simp [eqL, eqE, eq64, and_assoc]
theorem znS (N : Nat) (a b z : List UInt64) (ha : a.length = 4) (hb : b.length = 4) : ∀ (k n j : Nat) (c : UInt64) (t : List UInt64), j + k = 4 -> k < n -> t.length = 4 -> c.toNat <= 1 ->
    lv (t.take j) + 18446744073709551616 ^ j * c.toNat = lv (a.take j) + lv (b.take j) ->
    ∃ (c' : UInt64) (t' : List UInt64) (n' : Nat), t'.length = 4 /\ c'.toNat <= 1 /\ lv t' + 18446744073709551616 ^ 4 * c'.toNat = lv a + lv b /\ zup N n c (j : Int) a b z t = zup N (n' + 1) c' 4 a b z t' := by
  intro k
  induction k with
  | zero =>
    intro n j c t hj hn ht hc hv
    obtain ⟨n, rfl⟩ : ∃ m, n = m + 1 := ⟨n - 1, by omega⟩
    obtain rfl : j = 4 := by omega
    rw [List.take_of_length_le (l := t) (by omega), List.take_of_length_le (l := a) (by omega), List.take_of_length_le (l := b) (by omega)] at hv
    exact ⟨c, t, n, ht, hc, hv, rfl⟩
  | succ k ih =>
    intro n j c t hj hn ht hc hv
    obtain ⟨n, rfl⟩ : ∃ m, n = m + 1 := ⟨n - 1, by omega⟩
    obtain ⟨s, d, h1, h2, h3⟩ := zfA (x := a.getD j 0) (y := b.getD j 0) hc
    rw [zo4]
    unfold zxA
    rw [zae (show (j : Int) < 4 by omega), cond_true, zaD (by omega)]
    simp only [za4, zaq, Int.toNat_natCast]
    rw [zax (by omega)]
    simp only [Bool.and_self, mst2, h1, bsm]
    refine ih n (j + 1) _ _ (by omega) (by omega) (by rw [zaB]; exact ht) h2 ?_
    rw [zbd _ _ (by omega), zav a, zav b, Nat.pow_succ]
    exact alg4 _ _ _ _ _ _ _ _ _ _ hv h3
where
  alg4 (B A1 A2 A3 P x y c s d : Nat) (hv : A1 + P * c = A2 + A3) (h3 : s + B * d = x + y + c) : A1 + P * s + P * B * d = A2 + P * x + (A3 + P * y) := by
    have e : P * (s + B * d) = P * (x + y + c) := by rw [h3]
    grind
theorem spl4 {l : List UInt64} (h : l.length <= 4) : ∃ x, Fr.of? (zan [(0 : UInt64), 0, 0, 0] (Int.toNat 0) (List.take (Int.toNat (((4 : Nat) : Int) - 0)) l)) = some x /\ (zan [(0 : UInt64), 0, 0, 0] (Int.toNat 0) (List.take (Int.toNat (((4 : Nat) : Int) - 0)) l)).length = 4 /\ fv x = lv l := by
  rw [show Int.toNat (((4 : Nat) : Int) - 0) = 4 from rfl, List.take_of_length_le h]
  match l, h with
  | [], _ => exact ⟨(⟨0, 0, 0, 0⟩ : Fr), rfl, rfl, by simp [fv, Fr.l, lv]⟩
  | [a], _ => exact ⟨(⟨a, 0, 0, 0⟩ : Fr), rfl, rfl, by simp [fv, Fr.l, lv]⟩
  | [a, b], _ => exact ⟨(⟨a, b, 0, 0⟩ : Fr), rfl, rfl, by simp [fv, Fr.l, lv]⟩
  | [a, b, c], _ => exact ⟨(⟨a, b, c, 0⟩ : Fr), rfl, rfl, by simp [fv, Fr.l, lv]⟩
  | [a, b, c, d], _ => exact ⟨(⟨a, b, c, d⟩ : Fr), rfl, rfl, by simp [fv, Fr.l, lv]⟩
theorem zmR {N : Nat} {l : List UInt64} (h : l.length <= 4) : q175 N l = some (frN (lv l), ()) := by
  obtain ⟨x, h1, h2, h3⟩ := spl4 h
  unfold q175
  rw [h2, h1, show Nat.beq 4 4 = true from rfl]
  simp only [mst2, bsm]
  rw [← h3, zr9]
theorem zxP {N : Nat} {l : List UInt64} (h : l.length <= 4) : q203 N l = some (frN (lv l), ()) := by
  obtain ⟨x, h1, h2, h3⟩ := spl4 h
  unfold q203
  rw [h2, h1, show Nat.beq 4 4 = true from rfl]
  simp only [mst2, bsm]
  rw [← h3, zr9]
theorem zsa (N : Nat) (a b : List UInt64) (ha : a.length = 4) (hb : b.length = 4) : ∀ (k n j : Nat) (c : UInt64) (t : List UInt64), j + k = 4 -> k < n -> t.length = 4 -> c.toNat <= 1 ->
    lv (t.take j) + 18446744073709551616 ^ j * c.toNat = lv (a.take j) + lv (b.take j) ->
    ∃ (c' : UInt64) (t' : List UInt64) (n' : Nat), t'.length = 4 /\ c'.toNat <= 1 /\ lv t' + 18446744073709551616 ^ 4 * c'.toNat = lv a + lv b /\ zfZ N n a b mL c (j : Int) t = zfZ N (n' + 1) a b mL c' 4 t' := by
  intro k
  induction k with
  | zero =>
    intro n j c t hj hn ht hc hv
    obtain ⟨n, rfl⟩ : ∃ m, n = m + 1 := ⟨n - 1, by omega⟩
    obtain rfl : j = 4 := by omega
    rw [List.take_of_length_le (l := t) (by omega), List.take_of_length_le (l := a) (by omega), List.take_of_length_le (l := b) (by omega)] at hv
    exact ⟨c, t, n, ht, hc, hv, rfl⟩
  | succ k ih =>
    intro n j c t hj hn ht hc hv
    obtain ⟨n, rfl⟩ : ∃ m, n = m + 1 := ⟨n - 1, by omega⟩
    obtain ⟨s, d, h1, h2, h3⟩ := zfA (x := a.getD j 0) (y := b.getD j 0) hc
    rw [zhg]
    unfold ziu
    rw [show List.length mL = 4 from rfl, zae (show (j : Int) < ((4 : Nat) : Int) by omega), cond_true, zaD (by omega)]
    simp only [za4, zaq, Int.toNat_natCast]
    rw [zax (show j < a.length by omega), zax (show j < b.length by omega), zax (show j < t.length by omega)]
    simp only [Bool.and_self, mst2, h1, bsm]
    refine ih n (j + 1) _ _ (by omega) (by omega) (by rw [zaB]; exact ht) h2 ?_
    rw [zbd _ _ (by omega), zav a, zav b, Nat.pow_succ]
    exact znS.alg4 _ _ _ _ _ _ _ _ _ _ hv h3
theorem zxQ {t t' : List UInt64} {c' : UInt64} (ht : t.length = 4) (ht' : t'.length = 4) (h : lv (t'.take mL.length) + lv mL = lv (t.take mL.length) + 18446744073709551616 ^ mL.length * c'.toNat) : lv t' + RR = lv t + 18446744073709551616 ^ 4 * c'.toNat := by
  rw [show mL.length = 4 from rfl, zkY, List.take_of_length_le (by omega), List.take_of_length_le (by omega)] at h
  exact h
theorem zxR {N : Nat} (hN : 10 < N) {a b : List UInt64} (ha : a.length = 4) (hb : b.length = 4) (hal : lv a < RR) (hbl : lv b < RR) : ∃ r, q176 N a b mL = some (r, ()) /\ r.length = 4 /\ lv r = (lv a + lv b) % RR := by
  have hRR := zxO
  obtain ⟨c', t', n', h1, h2, h3, h4⟩ := zsa N a b ha hb 4 N 0 0 [0, 0, 0, 0] rfl (by omega) rfl (by decide) (by simp [lv])
  have hq : q176 N a b mL = zfZ N N a b mL 0 ((0 : Nat) : Int) [0, 0, 0, 0] := by
    unfold q176
    rw [show List.length mL = 4 from rfl, Int.toNat_natCast, zaI rfl, zay (by omega)]
    simp only [Bool.and_self, mst2]
    rfl
  obtain ⟨c2, t2, g1, g2, g3, g4⟩ := zr5 (N := N) (t := t') (m := mL) (by rw [h1]; decide) (by omega) (by show 4 < N; omega)
  have g5 := zxQ h1 (by omega) g3
  have ht2 := zmJ t2
  rw [g1, h1] at ht2
  have hmod : ∀ x, x < 2 * RR -> RR <= x -> x % RR = x - RR := fun x h1 h2 => by rw [Nat.mod_eq_sub_mod h2, Nat.mod_eq_of_lt (by omega)]
  rw [hq, h4, zhg]
  unfold ziu
  rw [show List.length mL = 4 from rfl, zad (by omega), cond_false, h1, zax (show 0 < 4 by omega)]
  simp only [mst2, g4, bsm, g1, h1]
  rw [show Nat.beq 4 4 = true from rfl]
  simp only [mst2]
  rw [zmL (N := N) (a := t') (m := mL) (by decide) (by rw [h1]; rfl) (by show 4 < N; omega), zkY]
  simp only [bsm]
  by_cases hc : c' = 1
  . rw [hc] at h3 ⊢
    rw [show UInt64.toNat 1 = 1 from rfl] at h3
    simp only [beq_self_eq_true, cond_true]
    refine ⟨t2, rfl, by omega, ?_⟩
    rw [hmod _ (by omega) (by omega)]
    omega
  . have hc0 : c'.toNat = 0 := by
      have : c'.toNat ≠ 1 := fun h => hc (UInt64.toNat_inj.1 h)
      omega
    rw [hc0] at h3
    rw [beq_eq_false_iff_ne.2 hc, cond_false]
    by_cases h : lv t' < RR
    . rw [decide_eq_true h, Bool.not_true, cond_false]
      exact ⟨t', rfl, h1, by rw [← h3, Nat.mul_zero, Nat.add_zero, Nat.mod_eq_of_lt h]⟩
    . rw [decide_eq_false h, Bool.not_false, cond_true]
      refine ⟨t2, rfl, by omega, ?_⟩
      rw [hmod _ (by omega) (by omega)]
      omega
theorem zAM {N : Nat} (hN : 10 < N) {a b : Fr} (ha : fv a < RR) (hb : fv b < RR) : q81 N a b = some (frN ((fv a + fv b) % RR), ()) := by
  obtain ⟨r, h1, h2, h3⟩ := zxR hN (a := a.l) (b := b.l) rfl rfl ha hb
  have hq : q81 N a b = Option.bind (q176 N a.l b.l mL) fun r1 => Option.bind (q175 N r1.1) fun r2 => some ((Prod.fst r2, ())) := rfl
  rw [hq, h1]
  simp only [bsm]
  rw [zmR (by omega)]
  simp only [bsm]
  rw [h3]
  rfl
theorem zsb {N : Nat} (hN : 10 < N) {a b : Fr} (hb : fv b < RR) : q94 N a b = some (frN (fv a * fv b % RR), ()) := by
  obtain ⟨r, h1, h2, h3⟩ := zr7 hN (a := a.l) (b := b.l) rfl rfl hb
  obtain ⟨s, g1, g2, g3⟩ := zr7 hN (a := r) (b := [14526898881837571181, 3129137299524312099, 419701826671360399, 524908885293268753]) h1 rfl (by decide +kernel)
  have hq : q94 N a b = Option.bind (q184 N a.l b.l mL) fun r1 => Option.bind (q184 N (List.take r1.1.length (List.drop 0 r1.1)) ([14526898881837571181, 3129137299524312099, 419701826671360399, 524908885293268753]) mL) fun r2 => Option.bind (q175 N (List.take r2.1.length (List.drop 0 r2.1))) fun r3 => some ((Prod.fst r3, ())) := rfl
  rw [hq, h2]
  simp only [bsm, List.drop_zero, List.take_length]
  rw [g2]
  simp only [bsm, List.drop_zero, List.take_length]
  rw [zmR (by omega)]
  simp only [bsm]
  rw [g3, h3, Nat.mul_assoc, Nat.mod_mul_mod]
  have e : fv a * fv b * Binv * (lv [14526898881837571181, 3129137299524312099, 419701826671360399, 524908885293268753] * Binv) % RR = fv a * fv b % RR := by
    rw [← Nat.mul_mod_mod, zxL, Nat.mul_mod_mod, Nat.mul_assoc, Nat.mul_comm Binv, ← Nat.mul_mod_mod, zr4, Nat.mul_one]
  rw [← e]
  rfl
end
section
theorem alg5 (B A1 A2 A3 P x y c s d : Nat) (hv : A1 + A3 = A2 + P * c) (h3 : s + y + c = x + B * d) : A1 + P * s + (A3 + P * y) = A2 + P * x + P * B * d := by
  have e : P * (s + y + c) = P * (x + B * d) := by rw [h3]
  grind
theorem zxS {a b : Nat} (ha : a < RR) (hb : b < RR) : (a + (RR - b)) % RR = if b <= a then a - b else a + RR - b := by
  split
  . rw [show a + (RR - b) = (a - b) + RR by omega, Nat.add_mod_right, Nat.mod_eq_of_lt (by omega)]
  . rw [Nat.mod_eq_of_lt (by omega)]; omega
theorem zsc (N : Nat) (a b : List UInt64) (ha : a.length = 4) (hb : b.length = 4) : ∀ (k n j : Nat) (c : UInt64) (t : List UInt64), j + k = 4 -> k < n -> t.length = 4 -> c.toNat <= 1 ->
    lv (t.take j) + lv (b.take j) = lv (a.take j) + 18446744073709551616 ^ j * c.toNat ->
    ∃ (c' : UInt64) (t' : List UInt64) (n' : Nat), t'.length = 4 /\ c'.toNat <= 1 /\ lv t' + lv b = lv a + 18446744073709551616 ^ 4 * c'.toNat /\ zf1 N n a b mL c (j : Int) t = zf1 N (n' + 1) a b mL c' 4 t' := by
  intro k
  induction k with
  | zero =>
    intro n j c t hj hn ht hc hv
    obtain ⟨n, rfl⟩ : ∃ m, n = m + 1 := ⟨n - 1, by omega⟩
    obtain rfl : j = 4 := by omega
    rw [List.take_of_length_le (l := t) (by omega), List.take_of_length_le (l := a) (by omega), List.take_of_length_le (l := b) (by omega)] at hv
    exact ⟨c, t, n, ht, hc, hv, rfl⟩
  | succ k ih =>
    intro n j c t hj hn ht hc hv
    obtain ⟨n, rfl⟩ : ∃ m, n = m + 1 := ⟨n - 1, by omega⟩
    obtain ⟨s, d, h1, h2, h3⟩ := zr2 (x := a.getD j 0) (y := b.getD j 0) hc
    rw [zhh]
    unfold ziv
    rw [show List.length mL = 4 from rfl, zae (show (j : Int) < ((4 : Nat) : Int) by omega), cond_true, zaD (by omega)]
    simp only [za4, zaq, Int.toNat_natCast]
    rw [zax (show j < a.length by omega), zax (show j < b.length by omega), zax (show j < t.length by omega)]
    simp only [Bool.and_self, mst2, h1, bsm]
    refine ih n (j + 1) _ _ (by omega) (by omega) (by rw [zaB]; exact ht) h2 ?_
    rw [zbd _ _ (by omega), zav a, zav b, Nat.pow_succ]
    exact alg5 _ _ _ _ _ _ _ _ _ _ hv h3
theorem zo9 (N : Nat) (t0 : List UInt64) : ∀ (k n j : Nat) (c : UInt64) (t : List UInt64), j + k = 4 -> k < n -> t.length = 4 -> c.toNat <= 1 -> (∀ p, j <= p -> t.getD p 0 = t0.getD p 0) ->
    lv (t.take j) + 18446744073709551616 ^ j * c.toNat = lv (t0.take j) + lv (mL.take j) ->
    ∃ (c' : UInt64) (r : List UInt64), c'.toNat <= 1 /\ r.length = 4 /\ lv r + 18446744073709551616 ^ 4 * c'.toNat = lv (t0.take 4) + RR /\ zfz N n mL c (j : Int) t = some (r, ()) := by
  intro k
  induction k with
  | zero =>
    intro n j c t hj hn ht hc hp hv
    obtain ⟨n, rfl⟩ : ∃ m, n = m + 1 := ⟨n - 1, by omega⟩
    obtain rfl : j = 4 := by omega
    rw [List.take_of_length_le (l := t) (by omega), show List.take 4 mL = mL from rfl, zkY] at hv
    refine ⟨c, t, hc, ht, hv, ?_⟩
    rw [zf0]
    unfold zfy
    rw [show List.length mL = 4 from rfl, zad (by omega), cond_false]
  | succ k ih =>
    intro n j c t hj hn ht hc hp hv
    obtain ⟨n, rfl⟩ : ∃ m, n = m + 1 := ⟨n - 1, by omega⟩
    obtain ⟨s, d, h1, h2, h3⟩ := zfA (x := t.getD j 0) (y := mL.getD j 0) hc
    rw [zf0]
    unfold zfy
    rw [show List.length mL = 4 from rfl, zae (show (j : Int) < ((4 : Nat) : Int) by omega), cond_true, zaD (by omega)]
    rw [ht, zae (show (j : Int) < ((4 : Nat) : Int) by omega)]
    simp only [zaq, Int.toNat_natCast, Bool.and_self, mst2, h1, bsm]
    refine ih n (j + 1) _ _ (by omega) (by omega) (by rw [zaB]; exact ht) h2 ?_ ?_
    . intro p h
      rw [zbg, if_neg (by omega)]
      exact hp p (by omega)
    . rw [zbd _ _ (by omega), zav t0, zav mL, Nat.pow_succ, ← hp j (Nat.le_refl _)]
      exact znS.alg4 _ _ _ _ _ _ _ _ _ _ hv h3
theorem zxT {N : Nat} (hN : 10 < N) {a b : List UInt64} (ha : a.length = 4) (hb : b.length = 4) (hal : lv a < RR) (hbl : lv b < RR) : ∃ r, q177 N a b mL = some (r, ()) /\ r.length = 4 /\ lv r = (lv a + (RR - lv b)) % RR := by
  have hRR := zxO
  obtain ⟨c', t', n', h1, h2, h3, h4⟩ := zsc N a b ha hb 4 N 0 0 [0, 0, 0, 0] rfl (by omega) rfl (by decide) (by simp [lv])
  have hq : q177 N a b mL = zf1 N N a b mL 0 ((0 : Nat) : Int) [0, 0, 0, 0] := by
    unfold q177
    rw [show List.length mL = 4 from rfl, Int.toNat_natCast, zaI rfl, zay (by omega)]
    simp only [Bool.and_self, mst2]
    rfl
  have htl := zmJ t'
  rw [h1] at htl
  rw [hq, h4, zhh]
  unfold ziv
  rw [show List.length mL = 4 from rfl, zad (by omega), cond_false, zxS hal hbl]
  by_cases hc : c' = 1
  . rw [hc] at h3 ⊢
    rw [show UInt64.toNat 1 = 1 from rfl] at h3
    rw [beq_self_eq_true, cond_true]
    obtain ⟨c2, r, g1, g4, g2, g3⟩ := zo9 N t' 4 N 0 0 t' rfl (by omega) h1 (by decide) (fun _ _ => rfl) (by simp [lv])
    rw [List.take_of_length_le (by omega)] at g2
    have hrl := zmJ r
    rw [g4] at hrl
    rw [if_neg (by omega)]
    exact ⟨r, g3, g4, by omega⟩
  . have hc0 : c'.toNat = 0 := by
      have : c'.toNat ≠ 1 := fun h => hc (UInt64.toNat_inj.1 h)
      omega
    rw [hc0] at h3
    rw [beq_eq_false_iff_ne.2 hc, cond_false, if_pos (by omega)]
    exact ⟨t', rfl, h1, by omega⟩
theorem zAN {N : Nat} (hN : 10 < N) {a b : Fr} (ha : fv a < RR) (hb : fv b < RR) : q83 N a b = some (frN ((fv a + (RR - fv b)) % RR), ()) := by
  obtain ⟨r, h1, h2, h3⟩ := zxT hN (a := a.l) (b := b.l) rfl rfl ha hb
  have hq : q83 N a b = Option.bind (q177 N a.l b.l mL) fun r1 => Option.bind (q175 N r1.1) fun r2 => some ((Prod.fst r2, ())) := rfl
  rw [hq, h1]
  simp only [bsm]
  rw [zmR (by omega)]
  simp only [bsm]
  rw [h3]
  rfl
theorem zsd : fv ⟨0, 0, 0, 0⟩ = 0 := by decide
theorem zjM (n : UInt64) : fv ⟨n, 0, 0, 0⟩ = n.toNat := by simp [fv, Fr.l, lv]
theorem zAO : 0 < RR := by decide
theorem zvJ {N : Nat} (hN : 10 < N) {a : Fr} (ha : fv a < RR) : q85 N a = some (frN ((RR - fv a) % RR), ()) := by
  unfold q85
  rw [zAN hN (by rw [zsd]; exact zAO) ha, zsd, Nat.zero_add]
  rfl
theorem zAP {N : Nat} (hN : 10 < N) (a : Fr) : q69 N a = some (decide (fv a < RR), ()) := by
  have hq : q69 N a = Option.bind (q168 N a.l mL) fun r1 => some ((Prod.fst r1, ())) := rfl
  rw [hq, zmL (N := N) (a := a.l) (m := mL) (by decide) rfl (by show 4 < N; omega), zkY]
  rfl
theorem zxU (x y : Nat) : ltI (cmpN x y) 0 = decide (x < y) := by
  unfold cmpN
  split
  . rename_i h; rw [decide_eq_true h]; rfl
  . rename_i h
    rw [decide_eq_false h]
    split <;> rfl
theorem zvK {N : Nat} (hN : 10 < N) (a : Fr) : q79 N a = some (decide (fv a < RR), ()) := by
  have hq : q79 N a = Option.bind (q61 N a.l mL) fun r1 => some (((ltI r1.1 (0 : Int)), ())) := rfl
  rw [hq, zAI (N := N) (a := a.l) (b := mL) (show (4 : Nat) < 1000000 by omega) (show (4 : Nat) < 1000000 by omega) (show max 4 4 < N by omega), zkY]
  simp only [bsm]
  rw [zxU]
  rfl
theorem zxV (a E i M : Nat) : (a ^ (E / 2 ^ (i + 1)) * a ^ (E / 2 ^ (i + 1)) * (if E / 2 ^ i % 2 = 1 then a else 1)) = a ^ (E / 2 ^ i) := by
  have e : E / 2 ^ i = 2 * (E / 2 ^ (i + 1)) + E / 2 ^ i % 2 := by
    rw [Nat.pow_succ, ← Nat.div_div_eq_div_mul]; omega
  have h2 : E / 2 ^ i % 2 = 0 \/ E / 2 ^ i % 2 = 1 := by omega
  rw [← Nat.pow_add]
  rcases h2 with h | h
  . rw [h, if_neg (by omega), Nat.mul_one]; congr 1; omega
  . rw [h, if_pos rfl, ← Nat.pow_succ]; congr 1; omega
def Cg (a b : Nat) : Prop := a % RR = b % RR
theorem Cg.rfl' {a : Nat} : Cg a a := rfl
theorem Cg.symm {a b : Nat} (h : Cg a b) : Cg b a := Eq.symm h
theorem Cg.trans {a b c : Nat} (h : Cg a b) (g : Cg b c) : Cg a c := Eq.trans h g
theorem Cg.mul {a b c d : Nat} (h1 : Cg a b) (h2 : Cg c d) : Cg (a * c) (b * d) := by
  unfold Cg at *
  rw [Nat.mul_mod, h1, h2, ← Nat.mul_mod]
theorem Cg.add {a b c d : Nat} (h1 : Cg a b) (h2 : Cg c d) : Cg (a + c) (b + d) := by
  unfold Cg at *
  rw [Nat.add_mod, h1, h2, ← Nat.add_mod]
theorem Cg.pow {a b : Nat} (h1 : Cg a b) (n : Nat) : Cg (a ^ n) (b ^ n) := by
  induction n with
  | zero => exact Cg.rfl'
  | succ n ih => rw [Nat.pow_succ, Nat.pow_succ]; exact ih.mul h1
theorem Cg.mod (a : Nat) : Cg (a % RR) a := Nat.mod_mod _ _
theorem Cg.lt {a b : Nat} (h : Cg a b) (ha : a < RR) : a = b % RR := by
  unfold Cg at h
  rw [← h, Nat.mod_eq_of_lt ha]
theorem zAQ {N : Nat} (hN : 10 < N) (a : Fr) (ha : fv a < RR) (e z : List UInt64) (he : e.length < 1000) : ∀ (i n : Nat) (x : Fr), i < n -> i <= 64 * e.length -> fv x < RR -> Cg (fv x) (fv a ^ (lv e / 2 ^ i)) ->
    zo3 N n e ((i : Int) - 1) a.l z x.l = some (frN (fv a ^ lv e % RR), ()) := by
  intro i
  induction i with
  | zero =>
    intro n x hn hi hx hx2
    obtain ⟨n, rfl⟩ : ∃ m, n = m + 1 := ⟨n - 1, by omega⟩
    rw [zit]
    unfold zo2
    rw [zaG (by omega), cond_false, show Fr.of? x.l = some x from rfl, show List.length x.l = 4 from rfl, show Nat.beq 4 4 = true from rfl]
    simp only [mst2, bsm]
    rw [Nat.pow_zero, Nat.div_one] at hx2
    have : x = frN (fv a ^ lv e % RR) := zvH (hx2.lt hx)
    rw [← this]
  | succ i ih =>
    intro n x hn hi hx hx2
    obtain ⟨n, rfl⟩ : ∃ m, n = m + 1 := ⟨n - 1, by omega⟩
    have hpb := zxV (fv a) (lv e) i 0
    obtain ⟨b, h1, h2⟩ := zxI (N := N) (a := e) (i := i) (by omega)
    have hy2 : Cg (fv (frN (fv x * fv x % RR))) (fv a ^ (lv e / 2 ^ (i + 1)) * fv a ^ (lv e / 2 ^ (i + 1))) := by rw [ziw]; exact (Cg.mod _).trans (hx2.mul hx2)
    rw [zit]
    unfold zo2
    rw [show ((i + 1 : Nat) : Int) - 1 = (i : Int) by omega, zaq, cond_true, show Fr.of? x.l = some x from rfl, show Fr.of? a.l = some a from rfl, zbD (by omega) (by omega)]
    simp only [bsm]
    rw [zsb hN hx]
    simp only [bsm]
    rw [h1]
    simp only [bsm]
    have hbb : (b == 1) = decide (lv e / 2 ^ i % 2 = 1) := by
      rw [Bool.eq_iff_iff, beq_iff_eq, decide_eq_true_iff, ← h2, ← UInt64.toNat_inj]
      rfl
    rw [hbb]
    by_cases hb : lv e / 2 ^ i % 2 = 1
    . rw [decide_eq_true hb, cond_true, zsb hN ha]
      simp only [bsm]
      rw [if_pos hb] at hpb
      refine ih n _ (by omega) (by omega) (by rw [ziw]; exact zhj _) ?_
      rw [ziw, ← hpb]
      exact (Cg.mod _).trans (hy2.mul Cg.rfl')
    . rw [decide_eq_false hb, cond_false]
      rw [if_neg hb, Nat.mul_one] at hpb
      refine ih n _ (by omega) (by omega) (by rw [ziw]; exact zhj _) ?_
      rw [hpb] at hy2
      exact hy2
theorem zAR {N : Nat} {a : Fr} {e : List UInt64} (ha : fv a < RR) (he : 64 * e.length + 100 < N) (he2 : e.length < 1000) : q73 N a e = some (frN (fv a ^ lv e % RR), ()) := by
  unfold q73
  rw [show q173 N 1 = some ((⟨1, 0, 0, 0⟩ : Fr), ()) from rfl]
  simp only [bsm]
  rw [show wr (64 * (e.length : Int)) = ((64 * e.length : Nat) : Int) by rw [zbD (by omega) (by omega)]; omega, zbD (by omega) (by omega)]
  have hlt : lv e / 2 ^ (64 * e.length) = 0 := by
    apply Nat.div_eq_of_lt
    have := zmJ e
    rw [Nat.pow_mul]
    exact this
  exact zAQ (by omega) a ha e [0, 0, 0, 0] he2 (64 * e.length) N ⟨1, 0, 0, 0⟩ (by omega) (Nat.le_refl _) (by rw [zjM]; decide) (by rw [hlt, Nat.pow_zero, zjM]; exact Cg.rfl')
end
section
def nd (q : Nat) : Nat -> Nat -> Bool
  | 0, lo => !(Nat.beq (q % lo) 0)
  | k + 1, lo => nd q k lo && nd q k (lo + 2 ^ k)
end
section
theorem zaf (x : Fr) : Fr.mk x.a0 x.a1 x.a2 x.a3 = x := rfl
theorem zag : Fr.mk 0 0 0 0 = Fr.zero := rfl
def eqF (x y : Fr) : Bool := decide (x = y)
theorem znT {x y : Fr} (h : x = y) : eqF x y = true := decide_eq_true h
theorem zhk {x y : Fr} (h : x ≠ y) : eqF x y = false := decide_eq_false h
theorem zxW (x y : Fr) : eqF x y = true ↔ x = y := decide_eq_true_iff
theorem zah (x y : Fr) : eqL El.u64 [x.a0, x.a1, x.a2, x.a3] [y.a0, y.a1, y.a2, y.a3] = eqF x y := zvI x y
theorem zai (x : Fr) (n : UInt64) : eqL El.u64 [x.a0, x.a1, x.a2, x.a3] [n, (0 : UInt64), (0 : UInt64), (0 : UInt64)] = eqF x ⟨n, 0, 0, 0⟩ := zvI x ⟨n, 0, 0, 0⟩
def zCZ (log : Nat) : Nat := 7 ^ ((RR - 1) / 2 ^ log) % RR
theorem zmS (N : Nat) (n : UInt64) : q173 N n = some ((⟨n, 0, 0, 0⟩ : Fr), ()) := rfl
class Big (N : Nat) : Prop where
  h : 2000 <= N
instance : Big 2000 := ⟨Nat.le_refl _⟩
end
end Go.Proofs.Ytgimohchocjgcaa.V
