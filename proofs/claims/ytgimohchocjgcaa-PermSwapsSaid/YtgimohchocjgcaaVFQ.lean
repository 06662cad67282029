import Derived.Test.YtgimohchocjgcaaVFP
import Derived.KernelRfl
set_option linter.unusedVariables false
set_option linter.unusedSimpArgs false
namespace Go.Proofs.Ytgimohchocjgcaa.V
theorem mst2 {R : Type} {x : Option R} : must true x = x := by rw [mst]
theorem bsm {α β : Type} {a : α} {f : α → Option β} : Option.bind (some a) f = f a := by rw [Option.bind_some]
theorem below_step (a m : List UInt64) (k : Nat) : lv (a.take (k + 1)) < lv (m.take (k + 1)) ↔ ((a.getD k 0).toNat < (m.getD k 0).toNat ∨ ((a.getD k 0).toNat = (m.getD k 0).toNat ∧ lv (a.take k) < lv (m.take k))) := by
  have h1 := lv_take_lt a k
  have h2 := lv_take_lt m k
  rw [lv_take_succ, lv_take_succ]
  generalize lv (a.take k) = A at *
  generalize lv (m.take k) = M at *
  generalize (18446744073709551616 ^ k : Nat) = P at *
  generalize (a.getD k 0).toNat = x
  generalize (m.getD k 0).toNat = y
  rcases Nat.lt_trichotomy x y with h | h | h
  · have h3 : P * (x + 1) ≤ P * y := Nat.mul_le_mul_left _ h
    rw [Nat.mul_add, Nat.mul_one] at h3
    exact ⟨fun _ => .inl h, fun _ => by omega⟩
  · subst h
    constructor
    · intro h; exact .inr ⟨rfl, by omega⟩
    · rintro (h | ⟨_, h⟩) <;> omega
  · have h3 : P * (y + 1) ≤ P * x := Nat.mul_le_mul_left _ h
    rw [Nat.mul_add, Nat.mul_one] at h3
    constructor
    · intro h; omega
    · rintro (h | ⟨h, _⟩) <;> omega
theorem m168_eq (N : Nat) (a m : List UInt64) (hm : m.length < 1000000) (ha : m.length ≤ a.length) : ∀ (k n : Nat), k ≤ m.length → k < n → m168_2 N n a m ((k : Int) - 1) = some (decide (lv (a.take k) < lv (m.take k)), ()) := by
  intro k
  induction k with
  | zero =>
    intro n hk hn
    obtain ⟨n, rfl⟩ : ∃ m, n = m + 1 := ⟨n - 1, by omega⟩
    rw [m168_2_succ]
    unfold c168_2
    rw [leI_false (by omega), cond_false]
    simp [lv]
  | succ k ih =>
    intro n hk hn
    obtain ⟨n, rfl⟩ : ∃ m, n = m + 1 := ⟨n - 1, by omega⟩
    rw [m168_2_succ]
    unfold c168_2
    rw [show ((k + 1 : Nat) : Int) - 1 = (k : Int) by omega, leI_zero, cond_true, ltI_true (show (k : Int) < (a.length : Int) by omega), ltI_true (show (k : Int) < (m.length : Int) by omega)]
    simp only [Bool.and_self, mst, Int.toNat_natCast]
    rw [wr_id (by omega) (by omega), ih n (by omega) (by omega)]
    have e := below_step a m k
    by_cases h : a.getD k 0 = m.getD k 0
    · rw [h]
      simp only [beq_self_eq_true, Bool.not_true, cond_false]
      rw [h] at e
      congr 2
      rw [Bool.eq_iff_iff, decide_eq_true_iff, decide_eq_true_iff, e]
      constructor
      · intro h; exact .inr ⟨rfl, h⟩
      · rintro (h | ⟨_, h⟩)
        · omega
        · exact h
    · rw [beq_eq_false_iff_ne.2 h]
      simp only [Bool.not_false, cond_true]
      have hne : (a.getD k 0).toNat ≠ (m.getD k 0).toNat := fun h2 => h (UInt64.toNat_inj.1 h2)
      congr 2
      rw [Bool.eq_iff_iff, decide_eq_true_iff, e]
      simp only [ltN, decide_eq_true_iff]
      constructor
      · intro h; exact .inl h
      · rintro (h | ⟨h, _⟩)
        · exact h
        · exact absurd h hne
theorem q168_eq {N : Nat} {a m : List UInt64} (hm : m.length < 1000000) (ha : m.length = a.length) (hN : m.length < N) : q168 N a m = some (decide (lv a < lv m), ()) := by
  unfold q168
  rw [wr_id (by omega) (by omega), m168_eq N a m hm (by omega) m.length N (Nat.le_refl _) hN, List.take_of_length_le (by omega), List.take_of_length_le (by omega)]
theorem m214_eq (N : Nat) (m : List UInt64) (tn : Nat) (hm : m.length ≤ tn) (hb : tn < 1000000) (t0 : List UInt64) : ∀ (k n j : Nat) (c : UInt64) (t : List UInt64), j + k = m.length → k < n → t.length = tn → c.toNat ≤ 1 → (∀ p, j ≤ p → t.getD p 0 = t0.getD p 0) →
    lv (t.take j) + lv (m.take j) = lv (t0.take j) + 18446744073709551616 ^ j * c.toNat →
    ∃ (c' : UInt64) (t' : List UInt64), t'.length = tn ∧ c'.toNat ≤ 1 ∧ lv (t'.take m.length) + lv m = lv (t0.take m.length) + 18446744073709551616 ^ m.length * c'.toNat ∧ m214_2 N n 0 tn m c (j : Int) t = some (t', ()) := by
  intro k
  induction k with
  | zero =>
    intro n j c t hj hn ht hc hp hv
    obtain ⟨n, rfl⟩ : ∃ m, n = m + 1 := ⟨n - 1, by omega⟩
    obtain rfl : j = m.length := by omega
    rw [List.take_of_length_le (l := m) (by omega)] at hv
    refine ⟨c, t, ht, hc, hv, ?_⟩
    rw [m214_2_succ]
    unfold c214_2
    rw [ltI_false (by omega), cond_false]
  | succ k ih =>
    intro n j c t hj hn ht hc hp hv
    obtain ⟨n, rfl⟩ : ∃ m, n = m + 1 := ⟨n - 1, by omega⟩
    obtain ⟨s, d, h1, h2, h3⟩ := kSub_eq (x := t.getD j 0) (y := m.getD j 0) hc
    rw [m214_2_succ]
    unfold c214_2
    rw [wr_add1 (by omega)]
    simp only [ltI_nat, leI_zero, Int.toNat_natCast, Nat.zero_add]
    rw [ltN_true (show j < m.length by omega), ltN_true (show j < tn by omega), cond_true]
    simp only [Bool.and_self, mst, h1, Option.bind_some]
    refine ih n (j + 1) _ _ (by omega) (by omega) (by rw [length_setL]; exact ht) h2 ?_ ?_
    · intro p h
      rw [getD_setL, if_neg (by omega)]
      exact hp p (by omega)
    · rw [lv_take_setL _ _ (by omega), lv_take_succ m, lv_take_succ t0, ← hp j (Nat.le_refl _), Nat.pow_succ]
      generalize lv (List.take j t) = A1 at *
      generalize lv (List.take j m) = A2 at *
      generalize lv (List.take j t0) = A3 at *
      generalize (18446744073709551616 ^ j : Nat) = P at *
      generalize (m.getD j 0).toNat = y at *
      generalize (t.getD j 0).toNat = x at *
      generalize d.toNat = d0 at *
      generalize s.toNat = s at *
      generalize c.toNat = c0 at *
      have e : P * s + P * y + P * c0 = P * x + P * 18446744073709551616 * d0 := by
        have : P * (s + y + c0) = P * (x + 18446744073709551616 * d0) := by rw [h3]
        grind
      grind
theorem q214_eq {N : Nat} {t m : List UInt64} (hm : m.length ≤ t.length) (hb : t.length < 1000000) (hN : m.length < N) :
    ∃ (c' : UInt64) (t' : List UInt64), t'.length = t.length ∧ c'.toNat ≤ 1 ∧ lv (t'.take m.length) + lv m = lv (t.take m.length) + 18446744073709551616 ^ m.length * c'.toNat ∧ q214 N t m = some (t', ()) :=
  m214_eq N m t.length hm hb t m.length N 0 0 t (by omega) hN rfl (by decide) (fun _ _ => rfl) (by simp [lv])
theorem alg1 (B A1 A2 A3 P x y w c0 c1 s : Nat) (hv : A1 + P * c0 = A2 + x * A3) (h4 : s + B * c1 = x * y + w + c0) : A1 + P * s + P * B * c1 = A2 + P * w + x * (A3 + P * y) := by
  have e : P * s + P * B * c1 = P * (x * y + w + c0) := by rw [← h4]; grind
  grind
theorem alg2 (B A1 A2 A3 P x y w c0 c1 s : Nat) (hv : B * (A1 + P * c0) = A2 + x * A3) (h4 : s + B * c1 = x * y + w + c0) : B * (A1 + P * s + P * B * c1) = A2 + P * B * w + x * (A3 + P * B * y) := by
  have e : P * s + P * B * c1 = P * (x * y + w + c0) := by rw [← h4]; grind
  grind
theorem m184_14_eq (N : Nat) (A : List UInt64 → List UInt64 → List UInt64 → Int → UInt64 → Int → List UInt64 → Option (List UInt64 × Unit)) (a b m t0 : List UInt64) (iv : UInt64) (i : Nat) (hi : i < 4) (ha : a.length = 4) (hb : b.length = 4) : ∀ (k n j : Nat) (c : UInt64) (t : List UInt64), j + k = 4 → k < n → t.length = 6 →
    lv (t.take j) + 18446744073709551616 ^ j * c.toNat = lv (t0.take j) + (a.getD i 0).toNat * lv (b.take j) → (∀ p, j ≤ p → t.getD p 0 = t0.getD p 0) →
    ∃ (c' : UInt64) (t' : List UInt64) (n' : Nat), t'.length = 6 ∧ lv (t'.take 4) + 18446744073709551616 ^ 4 * c'.toNat = lv (t0.take 4) + (a.getD i 0).toNat * lv b ∧ t'.getD 4 0 = t0.getD 4 0 ∧
      m184_14 N A n a b m 4 iv (i : Int) c (j : Int) t = m184_14 N A (n' + 1) a b m 4 iv (i : Int) c' 4 t' := by
  intro k
  induction k with
  | zero =>
    intro n j c t hj hn ht hv hp
    obtain ⟨n, rfl⟩ : ∃ m, n = m + 1 := ⟨n - 1, by omega⟩
    obtain rfl : j = 4 := by omega
    rw [List.take_of_length_le (l := b) (by omega)] at hv
    exact ⟨c, t, n, ht, hv, hp 4 (Nat.le_refl _), rfl⟩
  | succ k ih =>
    intro n j c t hj hn ht hv hp
    obtain ⟨n, rfl⟩ : ∃ m, n = m + 1 := ⟨n - 1, by omega⟩
    obtain ⟨hi', lo, h1, s1, k1, h2, s2, k2, h3, h4⟩ := mac' N (a.getD i 0) (b.getD j 0) (t.getD j 0) c
    rw [m184_14_succ]
    unfold c184_14
    rw [ltI_true (show (j : Int) < 4 by omega), cond_true, wr_add1 (by omega)]
    simp only [ltI_nat, leI_zero, Int.toNat_natCast]
    rw [ltN_true (show i < a.length by omega), ltN_true (show j < b.length by omega), ltN_true (show j < t.length by omega)]
    simp only [Bool.and_self, mst2, h1, h2, h3, bsm]
    refine ih n (j + 1) _ _ (by omega) (by omega) (by rw [length_setL]; exact ht) ?_ ?_
    · rw [lv_take_setL _ _ (by omega), lv_take_succ t0, lv_take_succ b, ← hp j (Nat.le_refl _), Nat.pow_succ]
      exact alg1 _ _ _ _ _ _ _ _ _ _ _ hv h4
    · intro p h
      rw [getD_setL, if_neg (by omega)]
      exact hp p (by omega)
theorem m184_27_eq (N : Nat) (A : List UInt64 → List UInt64 → List UInt64 → Int → UInt64 → Int → List UInt64 → Option (List UInt64 × Unit)) (a b m t0 : List UInt64) (iv x : UInt64) (i : Int) (hm : m.length = 4) : ∀ (k n j : Nat) (c : UInt64) (t : List UInt64), 1 ≤ j → j + k = 4 → k < n → t.length = 6 →
    18446744073709551616 * (lv (t.take (j - 1)) + 18446744073709551616 ^ (j - 1) * c.toNat) = lv (t0.take j) + x.toNat * lv (m.take j) → (∀ p, j - 1 ≤ p → t.getD p 0 = t0.getD p 0) →
    ∃ (c' : UInt64) (t' : List UInt64) (n' : Nat), t'.length = 6 ∧ 18446744073709551616 * (lv (t'.take 3) + 18446744073709551616 ^ 3 * c'.toNat) = lv (t0.take 4) + x.toNat * lv m ∧ t'.getD 4 0 = t0.getD 4 0 ∧ t'.getD 5 0 = t0.getD 5 0 ∧
      m184_27 N A n a b m 4 iv i c x (j : Int) t = m184_27 N A (n' + 1) a b m 4 iv i c' x 4 t' := by
  intro k
  induction k with
  | zero =>
    intro n j c t h1 hj hn ht hv hp
    obtain ⟨n, rfl⟩ : ∃ m, n = m + 1 := ⟨n - 1, by omega⟩
    obtain rfl : j = 4 := by omega
    rw [List.take_of_length_le (l := m) (by omega)] at hv
    exact ⟨c, t, n, ht, hv, hp 4 (by omega), hp 5 (by omega), rfl⟩
  | succ k ih =>
    intro n j c t hj1 hj hn ht hv hp
    obtain ⟨n, rfl⟩ : ∃ m, n = m + 1 := ⟨n - 1, by omega⟩
    obtain ⟨j, rfl⟩ : ∃ p, j = p + 1 := ⟨j - 1, by omega⟩
    obtain ⟨hi', lo, h1, s1, k1, h2, s2, k2, h3, h4⟩ := mac' N x (m.getD (j + 1) 0) (t.getD (j + 1) 0) c
    rw [m184_27_succ]
    unfold c184_27
    rw [ltI_true (show ((j + 1 : Nat) : Int) < 4 by omega), cond_true, wr_add1 (by omega), wr_sub1 (by omega)]
    simp only [ltI_nat, leI_zero, Int.toNat_natCast]
    rw [ltN_true (show j + 1 < m.length by omega), ltN_true (show j + 1 < t.length by omega), ltN_true (show j < t.length by omega)]
    simp only [Bool.and_self, mst2, h1, h2, h3, bsm]
    refine ih n (j + 1 + 1) _ _ (by omega) (by omega) (by omega) (by rw [length_setL]; exact ht) ?_ ?_
    · simp only [Nat.add_sub_cancel] at hv ⊢
      rw [lv_take_setL _ _ (by omega), lv_take_succ t0, lv_take_succ m, ← hp (j + 1) (by omega), Nat.pow_succ]
      exact alg2 _ _ _ _ _ _ _ _ _ _ _ hv h4
    · intro p h
      rw [getD_setL, if_neg (by omega)]
      exact hp p (by omega)
end Go.Proofs.Ytgimohchocjgcaa.V
