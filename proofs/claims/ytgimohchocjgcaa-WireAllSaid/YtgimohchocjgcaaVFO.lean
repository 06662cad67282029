import Derived.Test.YtgimohchocjgcaaVFN
import Derived.Test.YtgimohchocjgcaaVLP
set_option linter.unusedVariables false
set_option linter.unusedSimpArgs false
namespace Go.Proofs.Ytgimohchocjgcaa.V
theorem mst {R : Type} {x : Option R} : must true x = x := rfl
def RR : Nat := 52435875175126190479447740508185965837690552500527637822603658699938581184513
def Binv : Nat := 12549076656233958353659347336803947287922716146853412054870763148006372261952
theorem binv_is : 18446744073709551616 ^ 4 * Binv % RR = 1 := by decide +kernel
def fv (x : Fr) : Nat := lv x.l
theorem fv_lt (x : Fr) : fv x < 18446744073709551616 ^ 4 := lv_lt x.l
theorem fr_ext {x y : Fr} (h : fv x = fv y) : x = y := by
  obtain ⟨a, b, c, d⟩ := x
  obtain ⟨a', b', c', d'⟩ := y
  simp only [fv, Fr.l, lv] at h
  have h1 := a.toNat_lt
  have h2 := b.toNat_lt
  have h3 := c.toNat_lt
  have h4 := d.toNat_lt
  have h5 := a'.toNat_lt
  have h6 := b'.toNat_lt
  have h7 := c'.toNat_lt
  have h8 := d'.toNat_lt
  have e1 : a.toNat = a'.toNat := by omega
  have e2 : b.toNat = b'.toNat := by omega
  have e3 : c.toNat = c'.toNat := by omega
  have e4 : d.toNat = d'.toNat := by omega
  rw [UInt64.toNat_inj.1 e1, UInt64.toNat_inj.1 e2, UInt64.toNat_inj.1 e3, UInt64.toNat_inj.1 e4]
theorem of4 {l : List UInt64} (h : l.length = 4) : ∃ x : Fr, Fr.of? l = some x ∧ x.l = l := by
  match l, h with
  | [a, b, c, d], _ => exact ⟨⟨a, b, c, d⟩, rfl, rfl⟩
theorem mac (N : Nat) (x y t c : UInt64) : ∃ hi lo, q163 N x y = some (hi, lo, ()) ∧ ∃ s1 k1, kAdd lo t 0 = some (s1, k1) ∧ ∃ s2 k2, kAdd s1 c 0 = some (s2, k2) ∧ s2.toNat + 18446744073709551616 * (hi + k1 + k2).toNat = x.toNat * y.toNat + t.toNat + c.toNat := by
  obtain ⟨hi, lo, h1, h2⟩ := q163_eq N x y
  obtain ⟨s1, k1, h3, h4, h5⟩ := kAdd_eq (x := lo) (y := t) (c := 0) (by decide)
  obtain ⟨s2, k2, h6, h7, h8⟩ := kAdd_eq (x := s1) (y := c) (c := 0) (by decide)
  refine ⟨hi, lo, h1, s1, k1, h3, s2, k2, h6, ?_⟩
  have hz : (0 : UInt64).toNat = 0 := rfl
  have hxy : x.toNat * y.toNat ≤ 18446744073709551615 * 18446744073709551615 := Nat.mul_le_mul (by have := x.toNat_lt; omega) (by have := y.toNat_lt; omega)
  have ht := t.toNat_lt
  have hc := c.toNat_lt
  have hs := s2.toNat_lt
  rw [hz] at h5 h8
  have e : (hi + k1 + k2).toNat = hi.toNat + k1.toNat + k2.toNat := by
    rw [UInt64.toNat_add, UInt64.toNat_add]
    omega
  rw [e]
  omega
theorem kadd0 (x y : UInt64) : ∃ s d, kAdd x y 0 = some (s, d) ∧ d.toNat ≤ 1 ∧ s.toNat + 18446744073709551616 * d.toNat = x.toNat + y.toNat := by
  obtain ⟨s, d, h1, h2, h3⟩ := kAdd_eq (x := x) (y := y) (c := 0) (by decide)
  exact ⟨s, d, h1, h2, by simpa using h3⟩
theorem m172_8_eq (N : Nat) (A : Int → List UInt64 → List UInt64 → List UInt64 → List UInt64 → List UInt64 → Option (Fr × Unit)) (a b z m t0 : List UInt64) (i : Nat) (hi : i < 4) (ha : a.length = 4) : ∀ (k n j : Nat) (c : UInt64) (t : List UInt64), j + k = 4 → k < n → t.length = 5 →
    lv (t.take j) + 18446744073709551616 ^ j * c.toNat = lv (t0.take j) + lv (a.take j) * (b.getD i 0).toNat → (∀ p, j ≤ p → t.getD p 0 = t0.getD p 0) →
    ∃ (c' : UInt64) (t' : List UInt64) (n' : Nat), t'.length = 5 ∧ lv (t'.take 4) + 18446744073709551616 ^ 4 * c'.toNat = lv (t0.take 4) + lv a * (b.getD i 0).toNat ∧ t'.getD 4 0 = t0.getD 4 0 ∧
      m172_8 N A n (i : Int) c (i : Int) (j : Int) a b z m t = m172_8 N A (n' + 1) (i : Int) c' (i : Int) 4 a b z m t' := by
  intro k
  induction k with
  | zero =>
    intro n j c t hj hn ht hv hp
    obtain ⟨n, rfl⟩ : ∃ m, n = m + 1 := ⟨n - 1, by omega⟩
    obtain rfl : j = 4 := by omega
    rw [List.take_of_length_le (l := a) (by omega)] at hv
    exact ⟨c, t, n, ht, hv, hp 4 (Nat.le_refl _), rfl⟩
  | succ k ih =>
    intro n j c t hj hn ht hv hp
    obtain ⟨n, rfl⟩ : ∃ m, n = m + 1 := ⟨n - 1, by omega⟩
    obtain ⟨hi', lo, h1, s1, k1, h2, s2, k2, h3, h4⟩ := mac N (a.getD j 0) (b.getD i 0) (t.getD j 0) c
    rw [m172_8_succ]
    unfold c172_8
    rw [ltI_true (by omega), cond_true, wr_add1 (by omega)]
    simp only [ltI_nat, leI_zero, Int.toNat_natCast]
    rw [ltN_true (by omega), ltN_true (by omega), ltN_true (by omega)]
    simp only [Bool.and_self, mst, h1, h2, h3, Option.bind_some]
    refine ih n (j + 1) _ _ (by omega) (by omega) (by rw [length_setL]; exact ht) ?_ ?_
    · rw [lv_take_setL _ _ (by omega), lv_take_succ t0, lv_take_succ a, ← hp j (Nat.le_refl _), Nat.pow_succ]
      generalize lv (List.take j t) = A1 at *
      generalize lv (List.take j t0) = A2 at *
      generalize lv (List.take j a) = A3 at *
      generalize (18446744073709551616 ^ j : Nat) = P at *
      generalize (b.getD i 0).toNat = y at *
      generalize (a.getD j 0).toNat = x at *
      generalize (t.getD j 0).toNat = w at *
      generalize (hi' + k1 + k2).toNat = c1 at *
      generalize s2.toNat = s at *
      generalize c.toNat = c0 at *
      have e : P * s + P * 18446744073709551616 * c1 = P * (x * y + w + c0) := by rw [← h4]; grind
      grind
    · intro p h
      rw [getD_setL, if_neg (by omega)]
      exact hp p (by omega)
theorem m172_22_eq (N : Nat) (A : Int → List UInt64 → List UInt64 → List UInt64 → List UInt64 → List UInt64 → Option (Fr × Unit)) (a b z m t0 : List UInt64) (i : Int) (top more x : UInt64) (hm : m.length = 4) : ∀ (k n j : Nat) (c : UInt64) (t : List UInt64), 1 ≤ j → j + k = 4 → k < n → t.length = 5 →
    18446744073709551616 * (lv (t.take (j - 1)) + 18446744073709551616 ^ (j - 1) * c.toNat) = lv (t0.take j) + x.toNat * lv (m.take j) → (∀ p, j - 1 ≤ p → t.getD p 0 = t0.getD p 0) →
    ∃ (c' : UInt64) (t' : List UInt64) (n' : Nat), t'.length = 5 ∧ 18446744073709551616 * (lv (t'.take 3) + 18446744073709551616 ^ 3 * c'.toNat) = lv (t0.take 4) + x.toNat * lv m ∧
      m172_22 N A n c top more x (j : Int) i a b z m t = m172_22 N A (n' + 1) c' top more x 4 i a b z m t' := by
  intro k
  induction k with
  | zero =>
    intro n j c t h1 hj hn ht hv hp
    obtain ⟨n, rfl⟩ : ∃ m, n = m + 1 := ⟨n - 1, by omega⟩
    obtain rfl : j = 4 := by omega
    rw [List.take_of_length_le (l := m) (by omega)] at hv
    exact ⟨c, t, n, ht, hv, rfl⟩
  | succ k ih =>
    intro n j c t hj1 hj hn ht hv hp
    obtain ⟨n, rfl⟩ : ∃ m, n = m + 1 := ⟨n - 1, by omega⟩
    obtain ⟨j, rfl⟩ : ∃ p, j = p + 1 := ⟨j - 1, by omega⟩
    obtain ⟨hi', lo, h1, s1, k1, h2, s2, k2, h3, h4⟩ := mac N x (m.getD (j + 1) 0) (t.getD (j + 1) 0) c
    rw [m172_22_succ]
    unfold c172_22
    rw [ltI_true (by omega), cond_true, wr_add1 (by omega), wr_sub1 (by omega)]
    simp only [ltI_nat, leI_zero, Int.toNat_natCast]
    rw [ltN_true (by omega), ltN_true (by omega), ltN_true (by omega)]
    simp only [Bool.and_self, mst, h1, h2, h3, Option.bind_some]
    refine ih n (j + 1 + 1) _ _ (by omega) (by omega) (by omega) (by rw [length_setL]; exact ht) ?_ ?_
    · simp only [Nat.add_sub_cancel] at hv ⊢
      rw [lv_take_setL _ _ (by omega), lv_take_succ t0, lv_take_succ m, ← hp (j + 1) (by omega), Nat.pow_succ]
      generalize lv (List.take j t) = A1 at *
      generalize lv (List.take (j + 1) t0) = A2 at *
      generalize lv (List.take (j + 1) m) = A3 at *
      generalize (18446744073709551616 ^ j : Nat) = P at *
      generalize (m.getD (j + 1) 0).toNat = y at *
      generalize (t.getD (j + 1) 0).toNat = w at *
      generalize (hi' + k1 + k2).toNat = c1 at *
      generalize s2.toNat = s at *
      generalize c.toNat = c0 at *
      generalize x.toNat = x0 at *
      have e : P * s + P * 18446744073709551616 * c1 = P * (x0 * y + w + c0) := by rw [← h4]; grind
      grind
    · intro p h
      rw [getD_setL, if_neg (by omega)]
      exact hp p (by omega)
end Go.Proofs.Ytgimohchocjgcaa.V
