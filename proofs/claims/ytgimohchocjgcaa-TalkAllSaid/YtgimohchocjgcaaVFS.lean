import Derived.Test.YtgimohchocjgcaaVFR
import Derived.KernelRfl
set_option linter.unusedVariables false
set_option linter.unusedSimpArgs false
namespace Go.Proofs.Ytgimohchocjgcaa.V
def frN (n : Nat) : Fr := ⟨UInt64.ofNat n, UInt64.ofNat (n / 18446744073709551616), UInt64.ofNat (n / 18446744073709551616 / 18446744073709551616), UInt64.ofNat (n / 18446744073709551616 / 18446744073709551616 / 18446744073709551616)⟩
theorem fv_frN {n : Nat} (h : n < 18446744073709551616 ^ 4) : fv (frN n) = n := by
  simp only [fv, frN, Fr.l, lv, UInt64.toNat_ofNat']
  omega
theorem RR_lt : RR < 18446744073709551616 ^ 4 := by decide
theorem fv_frN' {n : Nat} (h : n < RR) : fv (frN n) = n := fv_frN (Nat.lt_trans h RR_lt)
theorem fv_mod (n : Nat) : fv (frN (n % RR)) = n % RR := fv_frN' (mod_lt_RR n)
theorem is_frN {x : Fr} {n : Nat} (h : fv x = n) : x = frN n := fr_ext (by rw [fv_frN (by rw [← h]; exact fv_lt x), h])
theorem frN_fv (x : Fr) : frN (fv x) = x := (is_frN rfl).symm
theorem eqL_fr (x y : Fr) : eqL El.u64 [x.a0, x.a1, x.a2, x.a3] [y.a0, y.a1, y.a2, y.a3] = decide (x = y) := by
  obtain ⟨a, b, c, d⟩ := x
  obtain ⟨a', b', c', d'⟩ := y
  rw [Bool.eq_iff_iff, decide_eq_true_iff]
  simp [eqL, eqE, eq64, and_assoc]
theorem m80_4_eq (N : Nat) (a b z : List UInt64) (ha : a.length = 4) (hb : b.length = 4) : ∀ (k n j : Nat) (c : UInt64) (t : List UInt64), j + k = 4 → k < n → t.length = 4 → c.toNat ≤ 1 →
    lv (t.take j) + 18446744073709551616 ^ j * c.toNat = lv (a.take j) + lv (b.take j) →
    ∃ (c' : UInt64) (t' : List UInt64) (n' : Nat), t'.length = 4 ∧ c'.toNat ≤ 1 ∧ lv t' + 18446744073709551616 ^ 4 * c'.toNat = lv a + lv b ∧ m80_4 N n c (j : Int) a b z t = m80_4 N (n' + 1) c' 4 a b z t' := by
  intro k
  induction k with
  | zero =>
    intro n j c t hj hn ht hc hv
    obtain ⟨n, rfl⟩ : ∃ m, n = m + 1 := ⟨n - 1, by omega⟩
    obtain rfl : j = 4 := by omega
    rw [List.take_of_length_le (l := t) (by omega), List.take_of_length_le (l := a) (by omega), List.take_of_length_le (l := b) (by omega)] at hv
    exact ⟨c, t, n, ht, hc, hv, rfl⟩
  | succ k ih =>
    intro n j c t hj hn ht hc hv
    obtain ⟨n, rfl⟩ : ∃ m, n = m + 1 := ⟨n - 1, by omega⟩
    obtain ⟨s, d, h1, h2, h3⟩ := kAdd_eq (x := a.getD j 0) (y := b.getD j 0) hc
    rw [m80_4_succ]
    unfold c80_4
    rw [ltI_true (show (j : Int) < 4 by omega), cond_true, wr_add1 (by omega)]
    simp only [ltI_nat, leI_zero, Int.toNat_natCast]
    rw [ltN_true (by omega)]
    simp only [Bool.and_self, mst2, h1, bsm]
    refine ih n (j + 1) _ _ (by omega) (by omega) (by rw [length_setL]; exact ht) h2 ?_
    rw [lv_take_setL _ _ (by omega), lv_take_succ a, lv_take_succ b, Nat.pow_succ]
    exact alg4 _ _ _ _ _ _ _ _ _ _ hv h3
where
  alg4 (B A1 A2 A3 P x y c s d : Nat) (hv : A1 + P * c = A2 + A3) (h3 : s + B * d = x + y + c) : A1 + P * s + P * B * d = A2 + P * x + (A3 + P * y) := by
    have e : P * (s + B * d) = P * (x + y + c) := by rw [h3]
    grind
theorem spl4 {l : List UInt64} (h : l.length ≤ 4) : ∃ x, Fr.of? (splice [(0 : UInt64), 0, 0, 0] (Int.toNat 0) (List.take (Int.toNat (((4 : Nat) : Int) - 0)) l)) = some x ∧ (splice [(0 : UInt64), 0, 0, 0] (Int.toNat 0) (List.take (Int.toNat (((4 : Nat) : Int) - 0)) l)).length = 4 ∧ fv x = lv l := by
  rw [show Int.toNat (((4 : Nat) : Int) - 0) = 4 from rfl, List.take_of_length_le h]
  match l, h with
  | [], _ => exact ⟨(⟨0, 0, 0, 0⟩ : Fr), rfl, rfl, by simp [fv, Fr.l, lv]⟩
  | [a], _ => exact ⟨(⟨a, 0, 0, 0⟩ : Fr), rfl, rfl, by simp [fv, Fr.l, lv]⟩
  | [a, b], _ => exact ⟨(⟨a, b, 0, 0⟩ : Fr), rfl, rfl, by simp [fv, Fr.l, lv]⟩
  | [a, b, c], _ => exact ⟨(⟨a, b, c, 0⟩ : Fr), rfl, rfl, by simp [fv, Fr.l, lv]⟩
  | [a, b, c, d], _ => exact ⟨(⟨a, b, c, d⟩ : Fr), rfl, rfl, by simp [fv, Fr.l, lv]⟩
theorem q175_eq {N : Nat} {l : List UInt64} (h : l.length ≤ 4) : q175 N l = some (frN (lv l), ()) := by
  obtain ⟨x, h1, h2, h3⟩ := spl4 h
  unfold q175
  rw [h2, h1, show Nat.beq 4 4 = true from rfl]
  simp only [mst2, bsm]
  rw [← h3, frN_fv]
theorem q203_eq {N : Nat} {l : List UInt64} (h : l.length ≤ 4) : q203 N l = some (frN (lv l), ()) := by
  obtain ⟨x, h1, h2, h3⟩ := spl4 h
  unfold q203
  rw [h2, h1, show Nat.beq 4 4 = true from rfl]
  simp only [mst2, bsm]
  rw [← h3, frN_fv]
theorem m176_4_eq (N : Nat) (a b : List UInt64) (ha : a.length = 4) (hb : b.length = 4) : ∀ (k n j : Nat) (c : UInt64) (t : List UInt64), j + k = 4 → k < n → t.length = 4 → c.toNat ≤ 1 →
    lv (t.take j) + 18446744073709551616 ^ j * c.toNat = lv (a.take j) + lv (b.take j) →
    ∃ (c' : UInt64) (t' : List UInt64) (n' : Nat), t'.length = 4 ∧ c'.toNat ≤ 1 ∧ lv t' + 18446744073709551616 ^ 4 * c'.toNat = lv a + lv b ∧ m176_4 N n a b mL c (j : Int) t = m176_4 N (n' + 1) a b mL c' 4 t' := by
  intro k
  induction k with
  | zero =>
    intro n j c t hj hn ht hc hv
    obtain ⟨n, rfl⟩ : ∃ m, n = m + 1 := ⟨n - 1, by omega⟩
    obtain rfl : j = 4 := by omega
    rw [List.take_of_length_le (l := t) (by omega), List.take_of_length_le (l := a) (by omega), List.take_of_length_le (l := b) (by omega)] at hv
    exact ⟨c, t, n, ht, hc, hv, rfl⟩
  | succ k ih =>
    intro n j c t hj hn ht hc hv
    obtain ⟨n, rfl⟩ : ∃ m, n = m + 1 := ⟨n - 1, by omega⟩
    obtain ⟨s, d, h1, h2, h3⟩ := kAdd_eq (x := a.getD j 0) (y := b.getD j 0) hc
    rw [m176_4_succ]
    unfold c176_4
    rw [show List.length mL = 4 from rfl, ltI_true (show (j : Int) < ((4 : Nat) : Int) by omega), cond_true, wr_add1 (by omega)]
    simp only [ltI_nat, leI_zero, Int.toNat_natCast]
    rw [ltN_true (show j < a.length by omega), ltN_true (show j < b.length by omega), ltN_true (show j < t.length by omega)]
    simp only [Bool.and_self, mst2, h1, bsm]
    refine ih n (j + 1) _ _ (by omega) (by omega) (by rw [length_setL]; exact ht) h2 ?_
    rw [lv_take_setL _ _ (by omega), lv_take_succ a, lv_take_succ b, Nat.pow_succ]
    exact m80_4_eq.alg4 _ _ _ _ _ _ _ _ _ _ hv h3
theorem sub_val {t t' : List UInt64} {c' : UInt64} (ht : t.length = 4) (ht' : t'.length = 4) (h : lv (t'.take mL.length) + lv mL = lv (t.take mL.length) + 18446744073709551616 ^ mL.length * c'.toNat) : lv t' + RR = lv t + 18446744073709551616 ^ 4 * c'.toNat := by
  rw [show mL.length = 4 from rfl, lv_mL, List.take_of_length_le (by omega), List.take_of_length_le (by omega)] at h
  exact h
theorem q176_eq {N : Nat} (hN : 10 < N) {a b : List UInt64} (ha : a.length = 4) (hb : b.length = 4) (hal : lv a < RR) (hbl : lv b < RR) : ∃ r, q176 N a b mL = some (r, ()) ∧ r.length = 4 ∧ lv r = (lv a + lv b) % RR := by
  have hRR := RR_lt
  obtain ⟨c', t', n', h1, h2, h3, h4⟩ := m176_4_eq N a b ha hb 4 N 0 0 [0, 0, 0, 0] rfl (by omega) rfl (by decide) (by simp [lv])
  have hq : q176 N a b mL = m176_4 N N a b mL 0 ((0 : Nat) : Int) [0, 0, 0, 0] := by
    unfold q176
    rw [show List.length mL = 4 from rfl, Int.toNat_natCast, eqI_true rfl, leN_true (by omega)]
    simp only [Bool.and_self, mst2]
    rfl
  obtain ⟨c2, t2, g1, g2, g3, g4⟩ := q214_eq (N := N) (t := t') (m := mL) (by rw [h1]; decide) (by omega) (by show 4 < N; omega)
  have g5 := sub_val h1 (by omega) g3
  have ht2 := lv_lt t2
  rw [g1, h1] at ht2
  have hmod : ∀ x, x < 2 * RR → RR ≤ x → x % RR = x - RR := fun x h1 h2 => by rw [Nat.mod_eq_sub_mod h2, Nat.mod_eq_of_lt (by omega)]
  rw [hq, h4, m176_4_succ]
  unfold c176_4
  rw [show List.length mL = 4 from rfl, ltI_false (by omega), cond_false, h1, ltN_true (show 0 < 4 by omega)]
  simp only [mst2, g4, bsm, g1, h1]
  rw [show Nat.beq 4 4 = true from rfl]
  simp only [mst2]
  rw [q168_eq (N := N) (a := t') (m := mL) (by decide) (by rw [h1]; rfl) (by show 4 < N; omega), lv_mL]
  simp only [bsm]
  by_cases hc : c' = 1
  · rw [hc] at h3 ⊢
    rw [show UInt64.toNat 1 = 1 from rfl] at h3
    simp only [beq_self_eq_true, cond_true]
    refine ⟨t2, rfl, by omega, ?_⟩
    rw [hmod _ (by omega) (by omega)]
    omega
  · have hc0 : c'.toNat = 0 := by
      have : c'.toNat ≠ 1 := fun h => hc (UInt64.toNat_inj.1 h)
      omega
    rw [hc0] at h3
    rw [beq_eq_false_iff_ne.2 hc, cond_false]
    by_cases h : lv t' < RR
    · rw [decide_eq_true h, Bool.not_true, cond_false]
      exact ⟨t', rfl, h1, by rw [← h3, Nat.mul_zero, Nat.add_zero, Nat.mod_eq_of_lt h]⟩
    · rw [decide_eq_false h, Bool.not_false, cond_true]
      refine ⟨t2, rfl, by omega, ?_⟩
      rw [hmod _ (by omega) (by omega)]
      omega
theorem q81_eq {N : Nat} (hN : 10 < N) {a b : Fr} (ha : fv a < RR) (hb : fv b < RR) : q81 N a b = some (frN ((fv a + fv b) % RR), ()) := by
  obtain ⟨r, h1, h2, h3⟩ := q176_eq hN (a := a.l) (b := b.l) rfl rfl ha hb
  have hq : q81 N a b = Option.bind (q176 N a.l b.l mL) fun r1 => Option.bind (q175 N (Prod.fst r1)) fun r2 => some ((Prod.fst r2, ())) := rfl
  rw [hq, h1]
  simp only [bsm]
  rw [q175_eq (by omega)]
  simp only [bsm]
  rw [h3]
  rfl
theorem q94_eq {N : Nat} (hN : 10 < N) {a b : Fr} (hb : fv b < RR) : q94 N a b = some (frN (fv a * fv b % RR), ()) := by
  obtain ⟨r, h1, h2, h3⟩ := q184_eq hN (a := a.l) (b := b.l) rfl rfl hb
  obtain ⟨s, g1, g2, g3⟩ := q184_eq hN (a := r) (b := [14526898881837571181, 3129137299524312099, 419701826671360399, 524908885293268753]) h1 rfl (by decide +kernel)
  have hq : q94 N a b = Option.bind (q184 N a.l b.l mL) fun r1 => Option.bind (q184 N (List.take (List.length (Prod.fst r1)) (List.drop 0 (Prod.fst r1))) ([14526898881837571181, 3129137299524312099, 419701826671360399, 524908885293268753]) mL) fun r2 => Option.bind (q175 N (List.take (List.length (Prod.fst r2)) (List.drop 0 (Prod.fst r2)))) fun r3 => some ((Prod.fst r3, ())) := rfl
  rw [hq, h2]
  simp only [bsm, List.drop_zero, List.take_length]
  rw [g2]
  simp only [bsm, List.drop_zero, List.take_length]
  rw [q175_eq (by omega)]
  simp only [bsm]
  rw [g3, h3, Nat.mul_assoc, Nat.mod_mul_mod]
  have e : fv a * fv b * Binv * (lv [14526898881837571181, 3129137299524312099, 419701826671360399, 524908885293268753] * Binv) % RR = fv a * fv b % RR := by
    rw [← Nat.mul_mod_mod, sqN2_is, Nat.mul_mod_mod, Nat.mul_assoc, Nat.mul_comm Binv, ← Nat.mul_mod_mod, binv_is, Nat.mul_one]
  rw [← e]
  rfl
end Go.Proofs.Ytgimohchocjgcaa.V
