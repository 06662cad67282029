import Derived.Test.YtgimohchocjgcaaVLK3
set_option linter.unusedVariables false
set_option linter.unusedSimpArgs false
namespace Go.Proofs.Ytgimohchocjgcaa.V
theorem m56_eq (N : Nat) (a : List UInt64) (ha : a.length < 1000) : ∀ n k : Nat, k ≤ a.length → k < n → (∀ j, k ≤ j → a.getD j 0 = 0) → m56_2 N n a (k : Int) = some ((cutL a).length, ()) := by
  intro n
  induction n with
  | zero => intro k _ h; omega
  | succ n ih =>
    intro k hk hn h0
    rw [m56_2_succ]
    unfold c56_2
    have fin : (k = 0 ∨ a.getD (k - 1) 0 ≠ 0) → must (leI 0 (k : Int) && leI (k : Int) (a.length : Int)) (some ((List.take (Int.toNat ((k : Int) - 0)) a).length, ())) = some ((cutL a).length, ()) := fun h1 => by
      have e1 : Int.toNat ((k : Int) - 0) = k := by omega
      rw [e1, leI_zero, leI_true (by omega), Bool.and_self, mt, cutL_take a k hk h0 h1]
    cases k with
    | zero =>
      rw [show ltI 0 ((0 : Nat) : Int) = false from rfl, cond_false]
      exact fin (.inl rfl)
    | succ k =>
      rw [ltI_true (by omega), cond_true, wr_sub1 (by omega), leI_zero, ltI_true (show (k : Int) < (a.length : Int) by omega), Bool.and_self, mt]
      simp only [Int.toNat_natCast]
      by_cases hz : a.getD k 0 = 0
      · rw [hz]
        simp only [beq_self_eq_true, cond_true]
        refine ih k (by omega) (by omega) fun j hj => ?_
        by_cases e : j = k
        · rw [e]; exact hz
        · exact h0 j (by omega)
      · rw [beq_eq_false_iff_ne.2 hz, cond_false]
        exact fin (.inr hz)
theorem q56_eq {N : Nat} {a : List UInt64} (ha : a.length < 1000) (hN : a.length < N) : q56 N a = some ((cutL a).length, ()) :=
  m56_eq N a ha N a.length (Nat.le_refl _) hN fun j hj => getD_zero hj
theorem bitV (l : List UInt64) (i : Nat) : (shr64 (l.getD (i / 64) 0) (i % 64) &&& 1) = if (lv l).testBit i then 1 else 0 := by
  apply UInt64.toNat_inj.1
  rw [and_one, shr64_nat, bit_nat, ← lv_bit]
  cases (lv l).testBit i <;> rfl
theorem sh_nat (i : Nat) : UInt64.toNat (UInt64.ofNat (Int.toNat (Int.tmod (i : Int) 64))) = i % 64 := by
  rw [show (64 : Int) = ((64 : Nat) : Int) from rfl, tmod_nat, Int.toNat_natCast, UInt64.toNat_ofNat']
  exact Nat.mod_eq_of_lt (Nat.lt_trans (Nat.mod_lt _ (by decide)) (by decide))
theorem div_nat {i : Nat} (h : i < 100000) : wr (Int.tdiv (i : Int) 64) = ((i / 64 : Nat) : Int) := by
  rw [show (64 : Int) = ((64 : Nat) : Int) from rfl, tdiv_nat, wr_id (by omega) (by omega)]
theorem mod_ok (i : Nat) : leI 0 (Int.tmod (i : Int) 64) = true ∧ ltI (Int.tmod (i : Int) 64) 18446744073709551616 = true := by
  rw [show (64 : Int) = ((64 : Nat) : Int) from rfl, tmod_nat]
  exact ⟨leI_zero _, ltI_true (by omega)⟩
theorem m7_eq (a p m : List UInt64) (k : Nat) (hk : k < 256) (ha : a.length ≤ 8) (hm : m.length ≤ 20) (hb : ∀ i, (lv m).testBit i = (decide (k ≤ i) && (lv a).testBit (i - k)))
    (hend : (Option.bind (q52 2000 m p) fun rr0 => cond ((eqI (Prod.fst (Prod.snd rr0)) (0 : Int))) (cond ((eqI ((List.length (Prod.fst rr0) : Nat) : Int) (0 : Int))) (Option.bind (q56 2000 a) fun rr1 => some (((leI ((wr ((64 : Int) * ((Prod.fst rr1 : Nat) : Int)))) ((wr ((64 : Int) * ((List.length m : Nat) : Int))))), ()))) (some ((false, ())))) (some ((false, ())))) = some (true, ())) :
    ∀ j n i : Nat, i + j = 64 * m.length → j < n → m7_10 2000 n a (k : Int) (i : Int) p m = some (true, ()) := by
  have hw : wr ((64 : Int) * (m.length : Int)) = ((64 * m.length : Nat) : Int) := by
    rw [wr_id (by omega) (by omega)]; omega
  intro j
  induction j with
  | zero =>
    intro n i hi hn
    obtain ⟨n, rfl⟩ : ∃ q, n = q + 1 := ⟨n - 1, by omega⟩
    rw [m7_10_succ]
    unfold c7_10
    rw [hw, show ltI (i : Int) ((64 * m.length : Nat) : Int) = false from ltI_false (by omega), cond_false, ← hw]
    exact hend
  | succ j ih =>
    intro n i hi hn
    obtain ⟨n, rfl⟩ : ∃ q, n = q + 1 := ⟨n - 1, by omega⟩
    have hnext : m7_10 2000 n a (k : Int) (wr ((i : Int) + 1)) p m = some (true, ()) := by
      rw [wr_add1 (by omega)]
      exact ih n (i + 1) (by omega) (by omega)
    have hdm : i / 64 < m.length := by omega
    rw [m7_10_succ]
    unfold c7_10
    rw [hw, show ltI (i : Int) ((64 * m.length : Nat) : Int) = true from ltI_true (by omega), cond_true, div_nat (i := i) (by omega), sh_nat i, (mod_ok i).1, (mod_ok i).2, leI_zero, show ltI ((i / 64 : Nat) : Int) (m.length : Int) = true from ltI_true (by omega), Int.toNat_natCast]
    simp only [Bool.and_self, mt]
    rw [bitV m i, hb i, hnext]
    by_cases hki : k ≤ i
    · have e1 : wr ((i : Int) - (k : Int)) = ((i - k : Nat) : Int) := by
        rw [wr_id (by omega) (by omega)]; omega
      rw [show leI (k : Int) (i : Int) = true from leI_true (by omega), cond_true, e1, div_nat (i := i - k) (by omega), sh_nat (i - k), (mod_ok (i - k)).1, (mod_ok (i - k)).2, leI_zero, Int.toNat_natCast, decide_eq_true hki, Bool.true_and]
      by_cases hq : (i - k) / 64 < a.length
      · rw [show ltI (((i - k) / 64 : Nat) : Int) (a.length : Int) = true from ltI_true (by omega), cond_true]
        simp only [Bool.and_self, mt]
        rw [bitV a (i - k)]
        cases (lv a).testBit (i - k) <;> rfl
      · rw [show ltI (((i - k) / 64 : Nat) : Int) (a.length : Int) = false from ltI_false (by omega), cond_false]
        have hz : (lv a).testBit (i - k) = false := by
          rw [lv_bit, getD_zero (by omega)]
          simp
        rw [hz]
        rfl
    · rw [show leI (k : Int) (i : Int) = false from leI_false (by omega), cond_false, decide_eq_false hki, Bool.false_and]
      rfl
theorem limb_shifts_plain (a : List UInt64) (n : UInt8) : q7 2000 a n = some (true, ()) := by
  unfold q7
  rw [begun1]
  simp only [bs]
  rw [Bool.not_true, cond_false]
  by_cases hl : 8 < a.length
  · rw [show ltI (8 : Int) (a.length : Int) = true from ltI_true (by omega), cond_true]
  rw [show ltI (8 : Int) (a.length : Int) = false from ltI_false (by omega), cond_false]
  have hk : n.toNat < 256 := n.toNat_lt
  generalize n.toNat = k at hk
  have e1 : wr (((k / 64 : Nat) : Int) + 1) = ((k / 64 + 1 : Nat) : Int) := wr_add1 (by omega)
  rw [div_nat (i := k) (by omega), e1, sh_nat k, (mod_ok k).1, (mod_ok k).2, leI_zero, eqI_true rfl, Int.toNat_natCast, Int.toNat_natCast, leI_zero, List.length_replicate, show ltI ((k / 64 : Nat) : Int) ((k / 64 + 1 : Nat) : Int) = true from ltI_true (by omega), show leN ((k / 64 + 1) * 8) 140737488355328 = true from leN_true (by omega)]
  simp only [Bool.and_self, mt]
  generalize hp : setL (List.replicate (k / 64 + 1) (0 : UInt64)) (k / 64) (shl64 1 (k % 64)) = p
  have hpl : p.length = k / 64 + 1 := by rw [← hp, length_setL, List.length_replicate]
  have hpv : lv p = 2 ^ k := by
    have h := lv_setL (List.replicate (k / 64 + 1) (0 : UInt64)) (k / 64) (shl64 1 (k % 64)) (by simp)
    have h0 : (List.replicate (k / 64 + 1) (0 : UInt64)).getD (k / 64) 0 = 0 := by
      rw [List.getD_eq_getElem?_getD, List.getElem?_replicate]
      split <;> rfl
    rw [hp, h0, lv_zeros, show (0 : UInt64).toNat = 0 from rfl, Nat.mul_zero, Nat.add_zero, Nat.zero_add] at h
    have hs : (shl64 1 (k % 64)).toNat = 2 ^ (k % 64) := by
      unfold shl64
      rw [UInt64.toNat_ofNat', show (1 : UInt64).toNat = 1 from rfl, Nat.one_mul]
      exact Nat.mod_eq_of_lt (Nat.pow_lt_pow_right (by decide) (Nat.mod_lt _ (by decide)))
    rw [h, hs, show (18446744073709551616 : Nat) = 2 ^ 64 by decide, ← Nat.pow_mul, ← Nat.pow_add, Nat.div_add_mod]
  obtain ⟨m, m1, m2, m3⟩ := q55_eq (N := 2000) (a := a) (b := p) (by omega) (by omega) (by omega)
  rw [m1]
  simp only [bs]
  rw [hpv] at m3
  have hml : m.length ≤ 13 := by
    by_cases h : m.length = 0
    · omega
    · have g1 := lv_ge m2 (k := m.length - 1) (by omega)
      have g2 : lv m < 18446744073709551616 ^ 12 := by
        rw [m3]
        have ha := lv_len (s := a) (k := 8) (by omega)
        have hk2 : 2 ^ k ≤ 18446744073709551616 ^ 4 := by
          rw [show (18446744073709551616 : Nat) ^ 4 = 2 ^ 256 by decide]
          exact Nat.pow_le_pow_right (by decide) (by omega)
        calc lv a * 2 ^ k < 18446744073709551616 ^ 8 * 2 ^ k := Nat.mul_lt_mul_of_pos_right ha (Nat.pow_pos (by decide))
          _ ≤ 18446744073709551616 ^ 8 * 18446744073709551616 ^ 4 := Nat.mul_le_mul_left _ hk2
          _ = 18446744073709551616 ^ 12 := by decide
      have g3 : m.length - 1 < 12 := (Nat.pow_lt_pow_iff_right (by decide : 1 < 18446744073709551616)).1 (Nat.lt_of_le_of_lt g1 g2)
      omega
  refine m7_eq a p m k hk (by omega) (by omega) (fun i => ?_) ?_ (64 * m.length) 2000 0 (by omega) (by omega)
  · rw [m3, Nat.mul_comm, Nat.testBit_two_pow_mul]
  · rcases q52_eq (N := 2000) (a := m) (m := p) (by omega) (by omega) (by omega) with ⟨h, _⟩ | ⟨_, s, s1, s2, s3⟩
    · exfalso
      rw [hpv] at h
      exact absurd h (Nat.ne_of_gt (Nat.pow_pos (by decide)))
    · rw [hpv, m3, Nat.mul_mod_left] at s3
      have hs : s = [] := by
        have := cutL_zero s3
        rw [show cutL s = s from s2] at this
        exact this
      rw [s1]
      simp only [bs]
      rw [eqI_true rfl, cond_true, hs, show eqI ((([] : List UInt64).length : Nat) : Int) 0 = true from rfl, cond_true, q56_eq (N := 2000) (by omega) (by omega)]
      simp only [bs]
      have hle : (cutL a).length ≤ m.length := by
        by_cases h : (cutL a).length ≤ m.length
        · exact h
        · exfalso
          have hc : Nrm (cutL a) := Nrm_cutL a
          have g1 := lv_ge hc (k := m.length) (by omega)
          rw [lv_cutL] at g1
          have g2 := lv_lt m
          rw [m3] at g2
          have g3 : lv a ≤ lv a * 2 ^ k := Nat.le_mul_of_pos_right _ (Nat.pow_pos (by decide))
          omega
      have hcl := cutL_len a
      rw [wr_id (x := 64 * ((cutL a).length : Int)) (by omega) (by omega), wr_id (x := 64 * (m.length : Int)) (by omega) (by omega), leI_true (by omega)]
end Go.Proofs.Ytgimohchocjgcaa.V
