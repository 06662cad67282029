import Derived.Test.YtgimohchocjgcaaVFS
import Derived.KernelRfl
set_option linter.unusedVariables false
set_option linter.unusedSimpArgs false
namespace Go.Proofs.Ytgimohchocjgcaa.V
theorem alg5 (B A1 A2 A3 P x y c s d : Nat) (hv : A1 + A3 = A2 + P * c) (h3 : s + y + c = x + B * d) : A1 + P * s + (A3 + P * y) = A2 + P * x + P * B * d := by
  have e : P * (s + y + c) = P * (x + B * d) := by rw [h3]
  grind
theorem m82_5_eq (N : Nat) (a b z m : List UInt64) (ha : a.length = 4) (hb : b.length = 4) (cc : UInt64) : ∀ (k n j : Nat) (c : UInt64) (t : List UInt64), j + k = 4 → k < n → t.length = 4 → c.toNat ≤ 1 →
    lv (t.take j) + lv (b.take j) = lv (a.take j) + 18446744073709551616 ^ j * c.toNat →
    ∃ (c' : UInt64) (t' : List UInt64) (n' : Nat), t'.length = 4 ∧ c'.toNat ≤ 1 ∧ lv t' + lv b = lv a + 18446744073709551616 ^ 4 * c'.toNat ∧ m82_5 N n c cc (j : Int) a b z m t = m82_5 N (n' + 1) c' cc 4 a b z m t' := by
  intro k
  induction k with
  | zero =>
    intro n j c t hj hn ht hc hv
    obtain ⟨n, rfl⟩ : ∃ m, n = m + 1 := ⟨n - 1, by omega⟩
    obtain rfl : j = 4 := by omega
    rw [List.take_of_length_le (l := t) (by omega), List.take_of_length_le (l := a) (by omega), List.take_of_length_le (l := b) (by omega)] at hv
    exact ⟨c, t, n, ht, hc, hv, rfl⟩
  | succ k ih =>
    intro n j c t hj hn ht hc hv
    obtain ⟨n, rfl⟩ : ∃ m, n = m + 1 := ⟨n - 1, by omega⟩
    obtain ⟨s, d, h1, h2, h3⟩ := kSub_eq (x := a.getD j 0) (y := b.getD j 0) hc
    rw [m82_5_succ]
    unfold c82_5
    rw [ltI_true (show (j : Int) < 4 by omega), cond_true, wr_add1 (by omega)]
    simp only [ltI_nat, leI_zero, Int.toNat_natCast]
    rw [ltN_true (by omega)]
    simp only [Bool.and_self, mst2, h1, bsm]
    refine ih n (j + 1) _ _ (by omega) (by omega) (by rw [length_setL]; exact ht) h2 ?_
    rw [lv_take_setL _ _ (by omega), lv_take_succ a, lv_take_succ b, Nat.pow_succ]
    exact alg5 _ _ _ _ _ _ _ _ _ _ hv h3
theorem m82_12_eq (N : Nat) (z m t0 : List UInt64) (hm : m.length = 4) : ∀ (k n j : Nat) (c : UInt64) (t : List UInt64), j + k = 4 → k < n → t.length = 4 → c.toNat ≤ 1 → (∀ p, j ≤ p → t.getD p 0 = t0.getD p 0) →
    lv (t.take j) + 18446744073709551616 ^ j * c.toNat = lv (t0.take j) + lv (m.take j) →
    ∃ (c' : UInt64) (r : Fr), c'.toNat ≤ 1 ∧ fv r + 18446744073709551616 ^ 4 * c'.toNat = lv (t0.take 4) + lv m ∧ m82_12 N n c (j : Int) z m t = some (r, ()) := by
  intro k
  induction k with
  | zero =>
    intro n j c t hj hn ht hc hp hv
    obtain ⟨n, rfl⟩ : ∃ m, n = m + 1 := ⟨n - 1, by omega⟩
    obtain rfl : j = 4 := by omega
    rw [List.take_of_length_le (l := t) (by omega), List.take_of_length_le (l := m) (by omega)] at hv
    obtain ⟨r, h1, h2⟩ := of4 ht
    refine ⟨c, r, hc, by rw [fv, h2]; exact hv, ?_⟩
    rw [m82_12_succ]
    unfold c82_12
    rw [ltI_false (by omega), cond_false, ht, h1]
    rfl
  | succ k ih =>
    intro n j c t hj hn ht hc hp hv
    obtain ⟨n, rfl⟩ : ∃ m, n = m + 1 := ⟨n - 1, by omega⟩
    obtain ⟨s, d, h1, h2, h3⟩ := kAdd_eq (x := t.getD j 0) (y := m.getD j 0) hc
    rw [m82_12_succ]
    unfold c82_12
    rw [ltI_true (show (j : Int) < 4 by omega), cond_true, wr_add1 (by omega)]
    simp only [ltI_nat, leI_zero, Int.toNat_natCast]
    rw [ltN_true (by omega)]
    simp only [Bool.and_self, mst2, h1, bsm]
    refine ih n (j + 1) _ _ (by omega) (by omega) (by rw [length_setL]; exact ht) h2 ?_ ?_
    · intro p h
      rw [getD_setL, if_neg (by omega)]
      exact hp p (by omega)
    · rw [lv_take_setL _ _ (by omega), lv_take_succ t0, lv_take_succ m, Nat.pow_succ, ← hp j (Nat.le_refl _)]
      exact m80_4_eq.alg4 _ _ _ _ _ _ _ _ _ _ hv h3
theorem sub_mod {a b : Nat} (ha : a < RR) (hb : b < RR) : (a + (RR - b)) % RR = if b ≤ a then a - b else a + RR - b := by
  split
  · rw [show a + (RR - b) = (a - b) + RR by omega, Nat.add_mod_right, Nat.mod_eq_of_lt (by omega)]
  · rw [Nat.mod_eq_of_lt (by omega)]; omega
theorem q82_eq {N : Nat} (hN : 10 < N) {a b : Fr} (ha : fv a < RR) (hb : fv b < RR) : q82 N a b = some (frN ((fv a + (RR - fv b)) % RR), ()) := by
  have hRR := RR_lt
  obtain ⟨c', t', n', h1, h2, h3, h4⟩ := m82_5_eq N a.l b.l [0, 0, 0, 0] mL rfl rfl 0 4 N 0 0 [0, 0, 0, 0] rfl (by omega) rfl (by decide) (by simp [lv])
  have hq : q82 N a b = m82_5 N N 0 0 ((0 : Nat) : Int) a.l b.l [0, 0, 0, 0] mL [0, 0, 0, 0] := rfl
  have e1 : lv a.l = fv a := rfl
  have e2 : lv b.l = fv b := rfl
  rw [e1, e2] at h3
  have htl := lv_lt t'
  rw [h1] at htl
  rw [hq, h4, m82_5_succ]
  unfold c82_5
  rw [ltI_false (by omega), cond_false, h1, sub_mod ha hb]
  by_cases hc : c' = 0
  · rw [hc] at h3 ⊢
    rw [show UInt64.toNat 0 = 0 from rfl] at h3
    obtain ⟨r, g1, g2⟩ := of4 h1
    rw [beq_self_eq_true, cond_true, show Nat.beq 4 4 = true from rfl, g1]
    simp only [mst2, bsm]
    have hfr : fv r = lv t' := by rw [fv, g2]
    rw [if_pos (by omega)]
    have : r = frN (fv a - fv b) := is_frN (by omega)
    rw [← this]
  · have hc0 : c'.toNat = 1 := by
      have : c'.toNat ≠ 0 := fun h => hc (UInt64.toNat_inj.1 h)
      omega
    rw [hc0] at h3
    rw [beq_eq_false_iff_ne.2 hc, cond_false]
    obtain ⟨c2, r, g1, g2, g3⟩ := m82_12_eq N [0, 0, 0, 0] mL t' rfl 4 N 0 0 t' rfl (by omega) h1 (by decide) (fun _ _ => rfl) (by simp [lv])
    rw [List.take_of_length_le (by omega), lv_mL] at g2
    have hfr := fv_lt r
    rw [if_neg (by omega)]
    have : r = frN (fv a + RR - fv b) := is_frN (by omega)
    rw [← this]
    exact g3
theorem m177_4_eq (N : Nat) (a b : List UInt64) (ha : a.length = 4) (hb : b.length = 4) : ∀ (k n j : Nat) (c : UInt64) (t : List UInt64), j + k = 4 → k < n → t.length = 4 → c.toNat ≤ 1 →
    lv (t.take j) + lv (b.take j) = lv (a.take j) + 18446744073709551616 ^ j * c.toNat →
    ∃ (c' : UInt64) (t' : List UInt64) (n' : Nat), t'.length = 4 ∧ c'.toNat ≤ 1 ∧ lv t' + lv b = lv a + 18446744073709551616 ^ 4 * c'.toNat ∧ m177_4 N n a b mL c (j : Int) t = m177_4 N (n' + 1) a b mL c' 4 t' := by
  intro k
  induction k with
  | zero =>
    intro n j c t hj hn ht hc hv
    obtain ⟨n, rfl⟩ : ∃ m, n = m + 1 := ⟨n - 1, by omega⟩
    obtain rfl : j = 4 := by omega
    rw [List.take_of_length_le (l := t) (by omega), List.take_of_length_le (l := a) (by omega), List.take_of_length_le (l := b) (by omega)] at hv
    exact ⟨c, t, n, ht, hc, hv, rfl⟩
  | succ k ih =>
    intro n j c t hj hn ht hc hv
    obtain ⟨n, rfl⟩ : ∃ m, n = m + 1 := ⟨n - 1, by omega⟩
    obtain ⟨s, d, h1, h2, h3⟩ := kSub_eq (x := a.getD j 0) (y := b.getD j 0) hc
    rw [m177_4_succ]
    unfold c177_4
    rw [show List.length mL = 4 from rfl, ltI_true (show (j : Int) < ((4 : Nat) : Int) by omega), cond_true, wr_add1 (by omega)]
    simp only [ltI_nat, leI_zero, Int.toNat_natCast]
    rw [ltN_true (show j < a.length by omega), ltN_true (show j < b.length by omega), ltN_true (show j < t.length by omega)]
    simp only [Bool.and_self, mst2, h1, bsm]
    refine ih n (j + 1) _ _ (by omega) (by omega) (by rw [length_setL]; exact ht) h2 ?_
    rw [lv_take_setL _ _ (by omega), lv_take_succ a, lv_take_succ b, Nat.pow_succ]
    exact alg5 _ _ _ _ _ _ _ _ _ _ hv h3
theorem m177_10_eq (N : Nat) (t0 : List UInt64) : ∀ (k n j : Nat) (c : UInt64) (t : List UInt64), j + k = 4 → k < n → t.length = 4 → c.toNat ≤ 1 → (∀ p, j ≤ p → t.getD p 0 = t0.getD p 0) →
    lv (t.take j) + 18446744073709551616 ^ j * c.toNat = lv (t0.take j) + lv (mL.take j) →
    ∃ (c' : UInt64) (r : List UInt64), c'.toNat ≤ 1 ∧ r.length = 4 ∧ lv r + 18446744073709551616 ^ 4 * c'.toNat = lv (t0.take 4) + RR ∧ m177_10 N n mL c (j : Int) t = some (r, ()) := by
  intro k
  induction k with
  | zero =>
    intro n j c t hj hn ht hc hp hv
    obtain ⟨n, rfl⟩ : ∃ m, n = m + 1 := ⟨n - 1, by omega⟩
    obtain rfl : j = 4 := by omega
    rw [List.take_of_length_le (l := t) (by omega), show List.take 4 mL = mL from rfl, lv_mL] at hv
    refine ⟨c, t, hc, ht, hv, ?_⟩
    rw [m177_10_succ]
    unfold c177_10
    rw [show List.length mL = 4 from rfl, ltI_false (by omega), cond_false]
  | succ k ih =>
    intro n j c t hj hn ht hc hp hv
    obtain ⟨n, rfl⟩ : ∃ m, n = m + 1 := ⟨n - 1, by omega⟩
    obtain ⟨s, d, h1, h2, h3⟩ := kAdd_eq (x := t.getD j 0) (y := mL.getD j 0) hc
    rw [m177_10_succ]
    unfold c177_10
    rw [show List.length mL = 4 from rfl, ltI_true (show (j : Int) < ((4 : Nat) : Int) by omega), cond_true, wr_add1 (by omega)]
    rw [ht, ltI_true (show (j : Int) < ((4 : Nat) : Int) by omega)]
    simp only [leI_zero, Int.toNat_natCast, Bool.and_self, mst2, h1, bsm]
    refine ih n (j + 1) _ _ (by omega) (by omega) (by rw [length_setL]; exact ht) h2 ?_ ?_
    · intro p h
      rw [getD_setL, if_neg (by omega)]
      exact hp p (by omega)
    · rw [lv_take_setL _ _ (by omega), lv_take_succ t0, lv_take_succ mL, Nat.pow_succ, ← hp j (Nat.le_refl _)]
      exact m80_4_eq.alg4 _ _ _ _ _ _ _ _ _ _ hv h3
theorem q177_eq {N : Nat} (hN : 10 < N) {a b : List UInt64} (ha : a.length = 4) (hb : b.length = 4) (hal : lv a < RR) (hbl : lv b < RR) : ∃ r, q177 N a b mL = some (r, ()) ∧ r.length = 4 ∧ lv r = (lv a + (RR - lv b)) % RR := by
  have hRR := RR_lt
  obtain ⟨c', t', n', h1, h2, h3, h4⟩ := m177_4_eq N a b ha hb 4 N 0 0 [0, 0, 0, 0] rfl (by omega) rfl (by decide) (by simp [lv])
  have hq : q177 N a b mL = m177_4 N N a b mL 0 ((0 : Nat) : Int) [0, 0, 0, 0] := by
    unfold q177
    rw [show List.length mL = 4 from rfl, Int.toNat_natCast, eqI_true rfl, leN_true (by omega)]
    simp only [Bool.and_self, mst2]
    rfl
  have htl := lv_lt t'
  rw [h1] at htl
  rw [hq, h4, m177_4_succ]
  unfold c177_4
  rw [show List.length mL = 4 from rfl, ltI_false (by omega), cond_false, sub_mod hal hbl]
  by_cases hc : c' = 1
  · rw [hc] at h3 ⊢
    rw [show UInt64.toNat 1 = 1 from rfl] at h3
    rw [beq_self_eq_true, cond_true]
    obtain ⟨c2, r, g1, g4, g2, g3⟩ := m177_10_eq N t' 4 N 0 0 t' rfl (by omega) h1 (by decide) (fun _ _ => rfl) (by simp [lv])
    rw [List.take_of_length_le (by omega)] at g2
    have hrl := lv_lt r
    rw [g4] at hrl
    rw [if_neg (by omega)]
    exact ⟨r, g3, g4, by omega⟩
  · have hc0 : c'.toNat = 0 := by
      have : c'.toNat ≠ 1 := fun h => hc (UInt64.toNat_inj.1 h)
      omega
    rw [hc0] at h3
    rw [beq_eq_false_iff_ne.2 hc, cond_false, if_pos (by omega)]
    exact ⟨t', rfl, h1, by omega⟩
theorem q83_eq {N : Nat} (hN : 10 < N) {a b : Fr} (ha : fv a < RR) (hb : fv b < RR) : q83 N a b = some (frN ((fv a + (RR - fv b)) % RR), ()) := by
  obtain ⟨r, h1, h2, h3⟩ := q177_eq hN (a := a.l) (b := b.l) rfl rfl ha hb
  have hq : q83 N a b = Option.bind (q177 N a.l b.l mL) fun r1 => Option.bind (q175 N (Prod.fst r1)) fun r2 => some ((Prod.fst r2, ())) := rfl
  rw [hq, h1]
  simp only [bsm]
  rw [q175_eq (by omega)]
  simp only [bsm]
  rw [h3]
  rfl
theorem fv_zero : fv ⟨0, 0, 0, 0⟩ = 0 := by decide
theorem q69_eq {N : Nat} (hN : 10 < N) (a : Fr) : q69 N a = some (decide (fv a < RR), ()) := by
  have hq : q69 N a = Option.bind (q168 N a.l mL) fun r1 => some ((Prod.fst r1, ())) := rfl
  rw [hq, q168_eq (N := N) (a := a.l) (m := mL) (by decide) rfl (by show 4 < N; omega), lv_mL]
  rfl
theorem q76_eq' {N : Nat} (hN : 10 < N) {a b : Fr} (ha : fv a < RR) : q76 N a b = some (frN (fv a * fv b % RR), ()) := by
  obtain ⟨r, h1, h2⟩ := q76_eq hN (b := b) ha
  rw [h1, is_frN h2]
def Cg (a b : Nat) : Prop := a % RR = b % RR
theorem Cg.rfl' {a : Nat} : Cg a a := rfl
theorem Cg.symm {a b : Nat} (h : Cg a b) : Cg b a := Eq.symm h
theorem Cg.trans {a b c : Nat} (h : Cg a b) (g : Cg b c) : Cg a c := Eq.trans h g
theorem Cg.mul {a b c d : Nat} (h1 : Cg a b) (h2 : Cg c d) : Cg (a * c) (b * d) := by
  unfold Cg at *
  rw [Nat.mul_mod, h1, h2, ← Nat.mul_mod]
theorem Cg.add {a b c d : Nat} (h1 : Cg a b) (h2 : Cg c d) : Cg (a + c) (b + d) := by
  unfold Cg at *
  rw [Nat.add_mod, h1, h2, ← Nat.add_mod]
theorem Cg.pow {a b : Nat} (h1 : Cg a b) (n : Nat) : Cg (a ^ n) (b ^ n) := by
  induction n with
  | zero => exact Cg.rfl'
  | succ n ih => rw [Nat.pow_succ, Nat.pow_succ]; exact ih.mul h1
theorem Cg.mod (a : Nat) : Cg (a % RR) a := Nat.mod_mod _ _
theorem Cg.of_eq {a b : Nat} (h : a = b) : Cg a b := by rw [h]; exact Cg.rfl'
theorem Cg.lt {a b : Nat} (h : Cg a b) (ha : a < RR) : a = b % RR := by
  unfold Cg at h
  rw [← h, Nat.mod_eq_of_lt ha]
end Go.Proofs.Ytgimohchocjgcaa.V
