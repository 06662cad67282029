import Derived.Test.YtgimohchocjgcaaVFQ
import Derived.KernelRfl
set_option linter.unusedVariables false
set_option linter.unusedSimpArgs false
namespace Go.Proofs.Ytgimohchocjgcaa.V
theorem lv_top5 {t : List UInt64} (h : t.length = 6) : lv (t.take 5) = lv (t.take 4) + 18446744073709551616 ^ 4 * (t.getD 4 0).toNat := lv_take_succ t 4
theorem e45 : wr (4 + 1) = ((5 : Nat) : Int) := by decide +kernel
theorem e43 : wr (4 - 1) = ((3 : Nat) : Int) := by decide +kernel
theorem i4 : (4 : Int) = ((4 : Nat) : Int) := rfl
theorem c184_14_out (N : Nat) (A : List UInt64 → List UInt64 → List UInt64 → Int → UInt64 → Int → List UInt64 → Option (List UInt64 × Unit)) (A14 : List UInt64 → List UInt64 → List UInt64 → Int → UInt64 → Int → UInt64 → Int → List UInt64 → Option (List UInt64 × Unit)) (a b : List UInt64) (i : Int) (c iv : UInt64) (t : List UInt64) (ht : t.length = 6)
    {top x hi0 lo0 s0 k0 : UInt64} (h1 : kAdd (t.getD 4 0) c 0 = some (top, x)) (h2 : q163 N (t.getD 0 0 * iv) 18446744069414584321 = some (hi0, lo0, ())) (h3 : kAdd (t.getD 0 0) lo0 0 = some (s0, k0)) :
    c184_14 N A A14 a b mL 4 iv i c 4 t = m184_27 N A N a b mL 4 iv i (hi0 + k0) (t.getD 0 0 * iv) 1 (setL (setL t 4 top) 5 x) := by
  unfold c184_14
  rw [ltI_false (by omega), cond_false, ht, e45, i4]
  simp only [leI_zero, ltI_nat, Int.toNat_natCast, length_setL, ht]
  rw [ltN_true (by omega), ltN_true (by omega)]
  simp only [Bool.and_self, mst2, h1, bsm]
  rw [ltI_true (show (0 : Int) < ((6 : Nat) : Int) by omega), show List.length mL = 4 from rfl, ltI_true (show (0 : Int) < ((4 : Nat) : Int) by omega)]
  have e0 : List.getD (setL (setL t 4 top) 5 x) 0 0 = t.getD 0 0 := by
    rw [getD_setL, if_neg (by omega), getD_setL, if_neg (by omega)]
  rw [e0, show List.getD mL 0 0 = 18446744069414584321 from rfl]
  simp only [mst2, h2, h3, bsm]
theorem c184_27_out (N : Nat) (A : List UInt64 → List UInt64 → List UInt64 → Int → UInt64 → Int → List UInt64 → Option (List UInt64 × Unit)) (A27 : List UInt64 → List UInt64 → List UInt64 → Int → UInt64 → Int → UInt64 → UInt64 → Int → List UInt64 → Option (List UInt64 × Unit)) (a b : List UInt64) (i : Nat) (hi : i < 100) (c iv x : UInt64) (t : List UInt64) (ht : t.length = 6)
    {s k : UInt64} (h1 : kAdd (t.getD 4 0) c 0 = some (s, k)) :
    c184_27 N A A27 a b mL 4 iv (i : Int) c x 4 t = A a b mL 4 iv ((i + 1 : Nat) : Int) (setL (setL t 3 s) 4 (t.getD 5 0 + k)) := by
  unfold c184_27
  rw [ltI_false (by omega), cond_false, ht, e45, e43, i4, wr_add1 (by omega)]
  simp only [leI_zero, ltI_nat, Int.toNat_natCast, length_setL, ht]
  rw [ltN_true (by omega), ltN_true (by omega), ltN_true (by omega)]
  simp only [Bool.and_self, mst2, h1, bsm]
theorem m184_10_step {N : Nat} (hN : 10 < N) (a b t : List UInt64) (i : Nat) (hi : i < 4) (ha : a.length = 4) (hb : b.length = 4) (ht : t.length = 6) (hlt : lv (t.take 5) < lv b + RR) (n : Nat) :
    ∃ t' x, t'.length = 6 ∧ 18446744073709551616 * lv (t'.take 5) = lv (t.take 5) + (a.getD i 0).toNat * lv b + x * RR ∧ x < 18446744073709551616 ∧
      m184_10 N (n + 1) a b mL 4 18446744069414584319 (i : Int) t = m184_10 N n a b mL 4 18446744069414584319 ((i + 1 : Nat) : Int) t' := by
  have hal := lv_lt b
  rw [hb] at hal
  have hRR : RR < 18446744073709551616 ^ 4 := by decide
  have htt := lv_top5 ht
  have ht4 : (t.getD 4 0).toNat ≤ 1 := by omega
  obtain ⟨c1, t1, n1, g1, g2, g3, g4⟩ := m184_14_eq N (m184_10 N n) a b mL t 18446744069414584319 i hi ha hb 4 N 0 0 t rfl (by omega) ht (by simp [lv]) (fun _ _ => rfl)
  obtain ⟨top, more, f1, f2, f3⟩ := kadd0 (t1.getD 4 0) c1
  obtain ⟨hi0, lo0, e1, e2⟩ := q163_eq N (t1.getD 0 0 * 18446744069414584319) 18446744069414584321
  obtain ⟨s0, k0, d1, d2, d3⟩ := kadd0 (t1.getD 0 0) lo0
  have hs0 : s0.toNat = 0 := by
    have hl := inv_low (t1.getD 0 0)
    have := (t1.getD 0 0).toNat_lt
    have := lo0.toNat_lt
    have := s0.toNat_lt
    rw [show UInt64.toNat 18446744069414584321 = 18446744069414584321 from rfl] at e2
    rw [← e2] at hl
    omega
  have hc : (hi0 + k0).toNat = hi0.toNat + k0.toNat := by
    have := hi0.toNat_lt
    have hx : (t1.getD 0 0 * 18446744069414584319).toNat * UInt64.toNat 18446744069414584321 ≤ 18446744073709551615 * 18446744069414584321 := Nat.mul_le_mul (by have := (t1.getD 0 0 * 18446744069414584319).toNat_lt; omega) (Nat.le_refl _)
    rw [UInt64.toNat_add]
    omega
  have hst : (setL (setL t1 4 top) 5 more).length = 6 := by rw [length_setL, length_setL]; exact g1
  have hsT : ∀ j, j ≤ 4 → List.take j (setL (setL t1 4 top) 5 more) = List.take j t1 := fun j hj => by rw [take_setL _ _ (by omega), take_setL _ _ hj]
  have hv2 : 18446744073709551616 * (lv (List.take (1 - 1) (setL (setL t1 4 top) 5 more)) + 18446744073709551616 ^ (1 - 1) * (hi0 + k0).toNat) = lv (List.take 1 (setL (setL t1 4 top) 5 more)) + (t1.getD 0 0 * 18446744069414584319).toNat * lv (mL.take 1) := by
    have e5 : lv (t1.take 1) = (t1.getD 0 0).toNat := by rw [lv_take_succ]; simp [lv]
    have e6 : lv (mL.take 1) = 18446744069414584321 := by decide +kernel
    rw [hsT 1 (by omega), e5, e6, hc]
    rw [show UInt64.toNat 18446744069414584321 = 18446744069414584321 from rfl] at e2
    simp only [Nat.sub_self, List.take_zero, lv, Nat.pow_zero]
    omega
  obtain ⟨c2, t2, n2, p1, p2, p4, p5, p3⟩ := m184_27_eq N (m184_10 N n) a b mL (setL (setL t1 4 top) 5 more) 18446744069414584319 (t1.getD 0 0 * 18446744069414584319) (i : Int) rfl 3 N 1 (hi0 + k0) (setL (setL t1 4 top) 5 more) (Nat.le_refl _) rfl (by omega) hst hv2 (fun _ _ => rfl)
  rw [getD_setL, if_neg (by omega), getD_setL, if_pos ⟨rfl, by omega⟩] at p4
  rw [getD_setL, if_pos ⟨rfl, by rw [length_setL]; omega⟩] at p5
  obtain ⟨t3, k3, r1, r2, r3⟩ := kadd0 (t2.getD 4 0) c2
  rw [hsT 4 (Nat.le_refl _)] at p2
  refine ⟨setL (setL t2 3 t3) 4 (t2.getD 5 0 + k3), (t1.getD 0 0 * 18446744069414584319).toNat, by rw [length_setL, length_setL]; exact p1, ?_, (t1.getD 0 0 * 18446744069414584319).toNat_lt, ?_⟩
  · have hm : (t2.getD 5 0 + k3).toNat = more.toNat + k3.toNat := by rw [p5, UInt64.toNat_add]; omega
    have hL : lv (List.take 5 (setL (setL t2 3 t3) 4 (t2.getD 5 0 + k3))) = lv (t2.take 3) + 18446744073709551616 ^ 3 * t3.toNat + 18446744073709551616 ^ 4 * (more.toNat + k3.toNat) := by
      rw [lv_top5 (by rw [length_setL, length_setL]; exact p1), take_setL _ _ (Nat.le_refl _), getD_setL, if_pos ⟨rfl, by rw [length_setL]; omega⟩, lv_take_setL _ _ (by omega), hm]
    rw [hL, htt]
    rw [lv_mL] at p2
    rw [g3] at f3
    rw [p4] at r3
    generalize lv (List.take 3 t2) = A1 at *
    generalize lv (List.take 4 t1) = A2 at *
    generalize lv (List.take 4 t) = A3 at *
    generalize (t1.getD 0 0 * 18446744069414584319).toNat * RR = X at *
    generalize (a.getD i 0).toNat * lv b = Y at *
    omega
  · rw [m184_10_succ]
    unfold c184_10
    rw [ltI_true (show (i : Int) < 4 by omega), cond_true]
    refine g4.trans ?_
    rw [m184_14_succ, c184_14_out N _ _ a b (i : Int) c1 18446744069414584319 t1 g1 f1 e1 d1]
    refine p3.trans ?_
    rw [m184_27_succ, c184_27_out N _ _ a b i (by omega) c2 _ _ t2 p1 r1]
theorem alg3 (P A1 A2 A3 y q x M : Nat) (hv : P * A3 = A1 * A2 + q * M) : P * (A3 + y * A2 + x * M) = (A1 + P * y) * A2 + (q + P * x) * M := by grind
theorem m184_10_out {N : Nat} (hN : 10 < N) (a b t : List UInt64) (n : Nat) (ht : t.length = 6) (hb : lv (t.take 5) < RR + 18446744073709551616 ^ 4) :
    ∃ r, r.length = 4 ∧ m184_10 N (n + 1) a b mL 4 18446744069414584319 4 t = some (r, ()) ∧ lv r = if lv (t.take 5) < RR then lv (t.take 5) else lv (t.take 5) - RR := by
  have hRR : RR < 18446744073709551616 ^ 4 := by decide
  have htt := lv_top5 ht
  have h4 := lv_take_lt t 4
  obtain ⟨c', t', g1, g2, g3, g4⟩ := q214_eq (N := N) (t := t) (m := mL) (by rw [ht]; decide) (by omega) (by show 4 < N; omega)
  have hml : mL.length = 4 := rfl
  rw [hml, lv_mL] at g3
  rw [ht] at g1
  have hl4 := lv_take_lt t' 4
  have e4 : Int.toNat (((4 : Nat) : Int) - 0) = 4 := by decide
  rw [m184_10_succ]
  unfold c184_10
  rw [ltI_false (by omega), cond_false, ht, i4]
  have c1 : lv (t.take 5) < RR → (t.getD 4 0).toNat = 0 := fun h => by omega
  simp only [leI_zero, ltI_nat, leI_nat, Int.toNat_natCast, e4]
  rw [ltN_true (show 4 < 6 by omega), leN_true (show 4 ≤ 6 by omega), ltN_true (show 0 < 6 by omega), ltN_true (show 0 < 4 by omega)]
  simp only [Bool.and_self, mst2, g4, bsm, g1]
  rw [leN_true (show 4 ≤ 6 by omega), show Nat.beq 6 6 = true from rfl]
  simp only [mst2]
  by_cases hz : t.getD 4 0 = 0
  · rw [hz]
    have hz' : (t.getD 4 0).toNat = 0 := by rw [hz]; rfl
    simp only [beq_self_eq_true, Bool.not_true, cond_false]
    rw [q168_eq (N := N) (a := t.take 4) (m := mL) (by decide) (by rw [List.length_take]; omega) (by show 4 < N; omega), lv_mL]
    simp only [bsm]
    by_cases h : lv (t.take 4) < RR
    · rw [decide_eq_true h]
      simp only [Bool.not_true, cond_false]
      have h5 : lv (t.take 5) = lv (t.take 4) := by rw [htt, hz', Nat.mul_zero, Nat.add_zero]
      refine ⟨_, by rw [List.length_take, ht]; rfl, rfl, ?_⟩
      rw [h5, if_pos h]
    · rw [decide_eq_false h]
      simp only [Bool.not_false, cond_true]
      have h5 : lv (t.take 5) = lv (t.take 4) := by rw [htt, hz', Nat.mul_zero, Nat.add_zero]
      refine ⟨_, by rw [List.length_take, g1]; rfl, rfl, ?_⟩
      rw [h5, if_neg h]
      rw [h5] at hb
      omega
  · have hz' : (t.getD 4 0).toNat ≠ 0 := fun h => hz (UInt64.toNat_inj.1 h)
    rw [beq_eq_false_iff_ne.2 hz]
    simp only [Bool.not_false, cond_true]
    have hn : ¬ lv (t.take 5) < RR := fun h => hz' (c1 h)
    refine ⟨_, by rw [List.length_take, g1]; rfl, rfl, ?_⟩
    rw [if_neg hn]
    omega
theorem m184_4_step (N n : Nat) (a b : List UInt64) (iv : UInt64) (i : Nat) (hi : i < 6) : m184_4 N (n + 1) a b mL 4 iv (i : Int) = m184_4 N n a b mL 4 (iv * (2 - 18446744069414584321 * iv)) ((i + 1 : Nat) : Int) := by
  rw [m184_4_succ]
  unfold c184_4
  rw [ltI_true (by omega), cond_true, show List.length mL = 4 from rfl, ltI_true (by omega), mst2, wr_add1 (by omega), show List.getD mL 0 0 = 18446744069414584321 from rfl]
theorem m184_4_end (N n : Nat) (a b : List UInt64) (iv : UInt64) : m184_4 N (n + 1) a b mL 4 iv ((6 : Nat) : Int) = m184_10 N N a b mL 4 (0 - iv) 0 [0, 0, 0, 0, 0, 0] := by
  rw [m184_4_succ]
  unfold c184_4
  have e : wr (4 + 2) = 6 := by decide +kernel
  have e1 : Int.toNat 6 = 6 := by decide
  have e2 : List.replicate 6 (0 : UInt64) = [0, 0, 0, 0, 0, 0] := by decide
  rw [ltI_false (by omega), cond_false, e, e1, e2, leI_true (by omega), eqI_true (by omega), leN_true (by omega)]
  simp only [Bool.and_self, mst2]
def ivs (x : UInt64) : UInt64 := x * (2 - 18446744069414584321 * x)
theorem m184_4_is (N : Nat) (a b : List UInt64) (n : Nat) : m184_4 N (n + 7) a b mL 4 18446744069414584321 0 = m184_10 N N a b mL 4 18446744069414584319 0 [0, 0, 0, 0, 0, 0] := by
  have e : (0 : UInt64) - ivs (ivs (ivs (ivs (ivs (ivs 18446744069414584321))))) = 18446744069414584319 := by decide +kernel
  refine (m184_4_step N (n + 6) a b _ 0 (by omega)).trans ((m184_4_step N (n + 5) a b _ 1 (by omega)).trans ((m184_4_step N (n + 4) a b _ 2 (by omega)).trans ((m184_4_step N (n + 3) a b _ 3 (by omega)).trans ((m184_4_step N (n + 2) a b _ 4 (by omega)).trans ((m184_4_step N (n + 1) a b _ 5 (by omega)).trans ((m184_4_end N n a b _).trans ?_))))))
  exact congrArg (fun v => m184_10 N N a b mL 4 v 0 [0, 0, 0, 0, 0, 0]) e
theorem q184_eq {N : Nat} (hN : 10 < N) {a b : List UInt64} (ha : a.length = 4) (hb : b.length = 4) (hlt : lv b < RR) : ∃ r, r.length = 4 ∧ q184 N a b mL = some (r, ()) ∧ lv r = lv a * lv b * Binv % RR := by
  have hRR : RR < 18446744073709551616 ^ 4 := by decide
  have hR0 : 0 < RR := by decide
  have loop : ∀ (k n i : Nat) (t : List UInt64) (q : Nat), i + k = 4 → k < n → t.length = 6 → lv (t.take 5) < lv b + RR → 18446744073709551616 ^ i * lv (t.take 5) = lv (a.take i) * lv b + q * RR →
      ∃ (t' : List UInt64) (q' n' : Nat), t'.length = 6 ∧ lv (t'.take 5) < lv b + RR ∧ 18446744073709551616 ^ 4 * lv (t'.take 5) = lv a * lv b + q' * RR ∧ m184_10 N n a b mL 4 18446744069414584319 (i : Int) t = m184_10 N (n' + 1) a b mL 4 18446744069414584319 4 t' := by
    intro k
    induction k with
    | zero =>
      intro n i t q hi hn ht hl hv
      obtain ⟨n, rfl⟩ : ∃ m, n = m + 1 := ⟨n - 1, by omega⟩
      obtain rfl : i = 4 := by omega
      rw [List.take_of_length_le (l := a) (by omega)] at hv
      exact ⟨t, q, n, ht, hl, hv, rfl⟩
    | succ k ih =>
      intro n i t q hi hn ht hl hv
      obtain ⟨n, rfl⟩ : ∃ m, n = m + 1 := ⟨n - 1, by omega⟩
      obtain ⟨t', x, h1, h2, h3, h4⟩ := m184_10_step hN a b t i (by omega) ha hb ht hl n
      have hb : (a.getD i 0).toNat ≤ 18446744073709551615 := by have := (a.getD i 0).toNat_lt; omega
      have h5 : (a.getD i 0).toNat * lv b ≤ 18446744073709551615 * lv b := Nat.mul_le_mul_right _ hb
      have h6 : x * RR ≤ 18446744073709551615 * RR := Nat.mul_le_mul_right _ (by omega)
      rw [h4]
      exact ih n (i + 1) t' (q + 18446744073709551616 ^ i * x) (by omega) (by omega) h1 (by omega) (by
        rw [Nat.pow_succ, Nat.mul_assoc, h2, lv_take_succ a]
        exact alg3 _ _ _ _ _ _ _ _ hv)
  obtain ⟨t', q', n', h1, h2, h3, h4⟩ := loop 4 N 0 [0, 0, 0, 0, 0, 0] 0 rfl (by omega) rfl (by simp [lv]; omega) (by simp [lv])
  obtain ⟨n, hn⟩ : ∃ n, N = n + 7 := ⟨N - 7, by omega⟩
  have hq : q184 N a b mL = m184_4 N N a b mL 4 18446744069414584321 0 := rfl
  obtain ⟨r, hr1, hr2, hr3⟩ := m184_10_out hN a b t' n' h1 (by omega)
  refine ⟨r, hr1, ?_, ?_⟩
  · rw [hq]
    have e := m184_4_is N a b n
    rw [← hn] at e
    rw [e]
    exact h4.trans hr2
  · refine mont_val h3 ?_ ?_
    · split at hr3 <;> omega
    · split at hr3 <;> omega
end Go.Proofs.Ytgimohchocjgcaa.V
