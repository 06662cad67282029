import Derived.Test.YtgimohchocjgcaaVLO
set_option linter.unusedVariables false
set_option linter.unusedSimpArgs false
namespace Go.Proofs.Ytgimohchocjgcaa.V
theorem lv_bit (a : List UInt64) (k : Nat) : (lv a).testBit k = ((a.getD (k / 64) 0).toNat).testBit (k % 64) := by
  induction a generalizing k with
  | nil => simp [lv]
  | cons x a ih =>
    have hx := x.toNat_lt
    have e : lv (x :: a) = 2 ^ 64 * lv a + x.toNat := by simp only [lv]; rw [Nat.add_comm]
    rw [e, Nat.testBit_two_pow_mul_add _ hx]
    split
    · rename_i h
      rw [Nat.div_eq_of_lt h, Nat.mod_eq_of_lt h]; rfl
    · rename_i h
      rw [ih]
      have e1 : k / 64 = (k - 64) / 64 + 1 := by omega
      have e2 : k % 64 = (k - 64) % 64 := by omega
      rw [e1, e2, List.getD_cons_succ]
theorem bit_nat (n k : Nat) : n / 2 ^ k % 2 = (n.testBit k).toNat := by
  rw [Nat.testBit_eq_decide_div_mod_eq]
  have := Nat.mod_two_eq_zero_or_one (n / 2 ^ k)
  rcases this with h | h <;> simp [h]
theorem and_one (x : UInt64) : (x &&& 1).toNat = x.toNat % 2 := by
  rw [UInt64.toNat_and]
  exact Nat.and_two_pow_sub_one_eq_mod x.toNat 1
theorem shl1_or {x c : UInt64} (hc : c.toNat ≤ 1) : (shl64 x 1 ||| c).toNat = x.toNat * 2 % 18446744073709551616 + c.toNat := by
  rw [UInt64.toNat_or]
  have e : (shl64 x 1).toNat = 2 ^ 1 * (x.toNat % 9223372036854775808) := by
    unfold shl64
    rw [UInt64.toNat_ofNat']
    omega
  rw [e, ← Nat.two_pow_add_eq_or_of_lt (by omega)]
  omega
theorem tdiv_nat (n k : Nat) : Int.tdiv (n : Int) (k : Int) = ((n / k : Nat) : Int) := rfl
theorem u64I_nat {n : Nat} (h : n < 18446744073709551616) : (u64I (n : Int)).toNat = n := by
  unfold u64I
  rw [UInt64.toNat_ofNat']
  omega
theorem m52_11_eq (N : Nat) (A : List UInt64 → Int → List UInt64 → List UInt64 → Option (List UInt64 × Int × Unit)) (a m r0 : List UInt64) (i : Int) (c0 : Nat) (hb : r0.length < 1000000) : ∀ n k : Nat, ∀ c : UInt64, ∀ r : List UInt64, k ≤ r0.length → r0.length - k < n → r.length = r0.length → c.toNat ≤ 1 →
    (∀ j, k ≤ j → r.getD j 0 = r0.getD j 0) → lv (r.take k) + 18446744073709551616 ^ k * c.toNat = 2 * lv (r0.take k) + c0 →
    ∃ r' c', r'.length = r0.length ∧ lv r' + 18446744073709551616 ^ r0.length * c' = 2 * lv r0 + c0 ∧ m52_11 N A n a i c (r0.length : Int) (k : Int) m r = Option.bind (q61 N r' m) fun z => cond (leI 0 z.1) (m52_18 N A N a i 0 (r'.length : Int) 0 m r') (A a i m r') := by
  intro n
  induction n with
  | zero => intro k c r _ h; omega
  | succ n ih =>
    intro k c r hk hn hl hc hsame hinv
    rw [m52_11_succ]
    unfold c52_11
    rw [ltI_nat]
    by_cases h : k < r0.length
    · rw [ltN_true h, cond_true, leI_zero, ltI_nat, ltN_true (by omega), must_tt, must_tt, must_tt, wr_add1 (by omega)]
      simp only [Int.toNat_natCast]
      have hx := (r.getD k 0).toNat_lt
      have e63 : (shr64 (r.getD k 0) (UInt64.toNat 63)).toNat = (r.getD k 0).toNat / 9223372036854775808 := by
        rw [shr64_nat]; rfl
      have e1 : (shl64 (r.getD k 0) (UInt64.toNat 1) ||| c).toNat = (r.getD k 0).toNat * 2 % 18446744073709551616 + c.toNat := shl1_or hc
      refine ih (k + 1) _ _ h (by omega) (by rw [length_setL]; exact hl) (by rw [e63]; omega) (fun j hj => ?_) ?_
      · rw [getD_setL, if_neg (by omega)]
        exact hsame j (by omega)
      · rw [lv_take_setL r _ (by omega), lv_take_succ, e63, e1, ← hsame k (Nat.le_refl _), Nat.pow_succ]
        generalize 18446744073709551616 ^ k = p at hinv ⊢
        generalize (r.getD k 0).toNat = x at hx ⊢
        have key : p * (x * 2 % 18446744073709551616 + c.toNat) + p * 18446744073709551616 * (x / 9223372036854775808) = p * (2 * x) + p * c.toNat := by
          rw [Nat.mul_assoc, ← Nat.mul_add, ← Nat.mul_add]
          congr 1
          omega
        have : 2 * (p * x) = p * (2 * x) := Nat.mul_left_comm _ _ _
        omega
    · obtain rfl : k = r0.length := by omega
      rw [ltN_false h, cond_false]
      refine ⟨r, c.toNat, hl, ?_, rfl⟩
      rw [lv_take_all (by omega), lv_take_all (by omega)] at hinv
      exact hinv
theorem m52_18_eq (N : Nat) (A : List UInt64 → Int → List UInt64 → List UInt64 → Option (List UInt64 × Int × Unit)) (a m r0 : List UInt64) (i : Int) (hb : r0.length < 1000000) : ∀ n k : Nat, ∀ c : UInt64, ∀ r : List UInt64, k ≤ r0.length → r0.length - k < n → r.length = r0.length → c.toNat ≤ 1 →
    (∀ j, k ≤ j → r.getD j 0 = r0.getD j 0) → lv (r.take k) + lv (m.take k) = lv (r0.take k) + 18446744073709551616 ^ k * c.toNat →
    ∃ r' c', r'.length = r0.length ∧ lv r' + lv (m.take r0.length) = lv r0 + 18446744073709551616 ^ r0.length * c' ∧ m52_18 N A n a i c (r0.length : Int) (k : Int) m r = A a i m r' := by
  intro n
  induction n with
  | zero => intro k c r _ h; omega
  | succ n ih =>
    intro k c r hk hn hl hc hsame hinv
    rw [m52_18_succ]
    unfold c52_18
    rw [ltI_nat]
    by_cases h : k < r0.length
    · rw [ltN_true h, cond_true, leI_zero, ltI_nat, ltN_true (by omega), must_tt, q160_eq]
      simp only [Option.bind_some, Int.toNat_natCast]
      obtain ⟨s, d, h1, h2, h3⟩ := kSub_eq (x := r.getD k 0) (y := m.getD k 0) hc
      rw [h1]
      simp only [Option.bind_some]
      rw [must_tt, wr_add1 (by omega)]
      refine ih (k + 1) d (setL r k s) h (by omega) (by rw [length_setL]; exact hl) h2 (fun j hj => ?_) ?_
      · rw [getD_setL, if_neg (by omega)]
        exact hsame j (by omega)
      · rw [lv_take_setL r s (by omega), lv_take_succ, lv_take_succ, ← hsame k (Nat.le_refl _), Nat.pow_succ]
        generalize 18446744073709551616 ^ k = p at hinv ⊢
        have : p * (s.toNat + (m.getD k 0).toNat + c.toNat) = p * ((r.getD k 0).toNat + 18446744073709551616 * d.toNat) := by rw [h3]
        simp only [Nat.mul_add] at this
        rw [← Nat.mul_assoc p 18446744073709551616] at this
        omega
    · obtain rfl : k = r0.length := by omega
      rw [ltN_false h, cond_false]
      refine ⟨r, c.toNat, hl, ?_, rfl⟩
      rw [lv_take_all (l := r) (by omega), lv_take_all (l := r0) (by omega)] at hinv
      exact hinv
theorem m52_1000_eq (N : Nat) (a m : List UInt64) (ha : a.length < 1000) (hm : m.length < 1000) (hm0 : 0 < lv m) (hN : 2000 ≤ N) : ∀ n i : Nat, ∀ r : List UInt64, i < n → i ≤ 64 * a.length → r.length = m.length + 1 → lv r = lv a / 2 ^ i % lv m →
    ∃ s, m52_1000 N n a (i : Int) m r = some (s, 0, ()) ∧ Nrm s ∧ lv s = lv a % lv m := by
  intro n
  induction n with
  | zero => intro i r h; omega
  | succ n ih =>
    intro i r hn hi hl hinv
    rw [m52_1000_succ]
    unfold c52_1000
    cases i with
    | zero =>
      rw [show wr (((0 : Nat) : Int) - 1) = -1 from wr_id (by omega) (by omega), show ltI (-1) 0 = true from rfl, cond_true, q158_eq (by omega) (by omega)]
      refine ⟨cutL r, rfl, Nrm_cutL _, ?_⟩
      rw [lv_cutL, hinv]; simp
    | succ i =>
      rw [wr_sub1 (by omega), ltI_zero, cond_false]
      have e1 : wr (Int.tdiv (i : Int) 64) = ((i / 64 : Nat) : Int) := by
        rw [show (64 : Int) = ((64 : Nat) : Int) from rfl, tdiv_nat, wr_id (by omega) (by omega)]
      have e2 : Int.tmod (i : Int) 64 = ((i % 64 : Nat) : Int) := rfl
      rw [e1, e2, leI_zero, ltI_nat, ltN_true (by omega), must_tt]
      simp only [Int.toNat_natCast]
      rw [u64I_nat (by omega)]
      have hbit : (shr64 (a.getD (i / 64) 0) (i % 64) &&& 1).toNat = lv a / 2 ^ i % 2 := by
        rw [and_one, shr64_nat, bit_nat, bit_nat, lv_bit]
      have hbit1 : lv a / 2 ^ i % 2 ≤ 1 := by omega
      obtain ⟨r1, c1, h1, h2, h3⟩ := m52_11_eq N (m52_1000 N n) a m r (i : Int) (lv a / 2 ^ i % 2) (by omega) N 0 (shr64 (a.getD (i / 64) 0) (i % 64) &&& 1) r (Nat.zero_le _) (by omega) rfl (by rw [hbit]; omega) (fun j _ => rfl) (by rw [hbit]; simp [lv])
      rw [show m52_11 N (m52_1000 N n) N a (i : Int) (shr64 (a.getD (i / 64) 0) (i % 64) &&& 1) (r.length : Int) 0 m r = _ from h3]
      have hdiv : lv a / 2 ^ i = 2 * (lv a / 2 ^ (i + 1)) + lv a / 2 ^ i % 2 := by
        rw [Nat.pow_succ, ← Nat.div_div_eq_div_mul]; omega
      generalize hq : lv a / 2 ^ (i + 1) = Q at hinv hdiv
      generalize hb : lv a / 2 ^ i % 2 = bt at *
      have hr : lv r < lv m := by rw [hinv]; exact Nat.mod_lt _ hm0
      have hmb := lv_lt m
      have hc1 : c1 = 0 := by
        cases c1 with
        | zero => rfl
        | succ c1 =>
          rw [hl, Nat.pow_succ, Nat.mul_add] at h2
          generalize 18446744073709551616 ^ m.length = p at hmb h2
          omega
      rw [hc1, Nat.mul_zero, Nat.add_zero] at h2
      rw [q61_eq (by omega) (by omega) (by omega)]
      simp only [Option.bind_some]
      have hmod : (2 * Q + bt) % lv m = (2 * lv r + bt) % lv m := by
        rw [hinv, Nat.add_mod, Nat.mul_mod, Nat.add_mod (2 * (Q % lv m)), Nat.mul_mod 2 (Q % lv m), Nat.mod_mod]
      by_cases hge : lv m ≤ lv r1
      · have : leI 0 (cmpN (lv r1) (lv m)) = true := by
          unfold cmpN
          rw [if_neg (by omega)]
          split <;> rfl
        rw [this, cond_true]
        obtain ⟨r2, c2, g1, g2, g3⟩ := m52_18_eq N (m52_1000 N n) a m r1 (i : Int) (by omega) N 0 0 r1 (Nat.zero_le _) (by omega) rfl (by simp) (fun j _ => rfl) (by simp [lv])
        rw [show m52_18 N (m52_1000 N n) N a (i : Int) 0 (r1.length : Int) 0 m r1 = _ from g3]
        rw [lv_take_all (l := m) (by omega)] at g2
        have hr1 := lv_lt r1
        have hr2 := lv_lt r2
        have hc2 : c2 = 0 := by
          cases c2 with
          | zero => rfl
          | succ c2 =>
            rw [g1] at hr2
            rw [Nat.mul_add] at g2
            generalize 18446744073709551616 ^ r1.length = p at hr1 hr2 g2
            omega
        rw [hc2, Nat.mul_zero, Nat.add_zero] at g2
        refine ih i r2 (by omega) (by omega) (by omega) ?_
        rw [hdiv, hmod, ← h2]
        rw [Nat.mod_eq_sub_mod hge, Nat.mod_eq_of_lt (by omega)]
        omega
      · have : leI 0 (cmpN (lv r1) (lv m)) = false := by
          unfold cmpN
          rw [if_pos (by omega)]
          rfl
        rw [this, cond_false]
        refine ih i r1 (by omega) (by omega) (by omega) ?_
        rw [hdiv, hmod, ← h2, Nat.mod_eq_of_lt (by omega)]
theorem q52_eq {N : Nat} {a m : List UInt64} (ha : a.length < 30) (hm : m.length < 1000) (hN : 2000 ≤ N) :
    (lv m = 0 ∧ q52 N a m = some ([], 7, ())) ∨ (0 < lv m ∧ ∃ s, q52 N a m = some (s, 0, ()) ∧ Nrm s ∧ lv s = lv a % lv m) := by
  unfold q52
  rw [q158_eq (by omega) (by omega)]
  simp only [Option.bind_some]
  have hcl := cutL_len m
  by_cases h : lv m = 0
  · left
    refine ⟨h, ?_⟩
    rw [cutL_zero h]
    rfl
  · right
    refine ⟨by omega, ?_⟩
    have hne : (cutL m).length ≠ 0 := by
      intro e
      have : cutL m = [] := List.eq_nil_of_length_eq_zero e
      have h2 := lv_cutL m
      rw [this] at h2
      exact h h2.symm
    rw [eqI_false (by omega), cond_false, wr_add1 (by omega), leI_zero, eqI_true rfl, must_t (by simp only [Bool.true_and, Int.toNat_natCast]; exact leN_true (by omega))]
    have e64 : wr ((64 : Int) * (a.length : Int)) = ((64 * a.length : Nat) : Int) := by rw [wr_id (by omega) (by omega)]; omega
    rw [e64]
    simp only [Int.toNat_natCast]
    have h0 : lv a / 2 ^ (64 * a.length) = 0 := by
      refine Nat.div_eq_of_lt ?_
      have := lv_lt a
      rw [show (18446744073709551616 : Nat) = 2 ^ 64 by decide, ← Nat.pow_mul] at this
      exact this
    obtain ⟨s, h1, h2, h3⟩ := m52_1000_eq N a (cutL m) (by omega) (by omega) (by rw [lv_cutL]; omega) hN N (64 * a.length) (List.replicate ((cutL m).length + 1) 0) (by omega) (Nat.le_refl _) (by simp) (by rw [lv_zeros, h0]; simp)
    exact ⟨s, h1, h2, by rw [h3, lv_cutL]⟩
end Go.Proofs.Ytgimohchocjgcaa.V
