import Derived.Test.YtgimohchocjgcaaVLP
set_option linter.unusedVariables false
set_option linter.unusedSimpArgs false
namespace Go.Proofs.Ytgimohchocjgcaa.V
theorem q165_eq (N : Nat) (a : List UInt64) (i : Nat) : q165 N a (i : Int) = some (a.getD i 0, ()) := by
  unfold q165
  rw [ltI_nat]
  by_cases h : i < a.length
  · rw [ltN_true h, cond_true, leI_zero, Bool.true_and, must_t rfl]
    rfl
  · rw [ltN_false h, cond_false, getD_zero (by omega)]
theorem m161_eq (N : Nat) (a : List UInt64) (ha : a.length * 8 ≤ 140737488355328) : ∀ n k : Nat, k ≤ a.length → k < n → (∀ j, k ≤ j → a.getD j 0 = 0) → m161_2 N n a (k : Int) = some (cutL a, ()) := by
  intro n
  induction n with
  | zero => intro k _ h; omega
  | succ n ih =>
    intro k hk hn h0
    rw [m161_2_succ]
    unfold c161_2
    have fin : (k = 0 ∨ a.getD (k - 1) 0 ≠ 0) → must (leI 0 (k : Int) && leI (k : Int) (a.length : Int)) (must (leN ((0 + (List.take (Int.toNat ((k : Int) - 0)) a).length) * 8) 140737488355328) (some (List.take (Int.toNat ((k : Int) - 0)) a, ()))) = some (cutL a, ()) := fun h1 => by
      have e1 : Int.toNat ((k : Int) - 0) = k := by omega
      rw [e1, leI_zero, leI_nat, leN_true hk, must_tt, must_t (leN_true (by rw [List.length_take]; omega)), cutL_take a k hk h0 h1]
    cases k with
    | zero =>
      rw [show ltI 0 ((0 : Nat) : Int) = false from rfl, cond_false]
      exact fin (.inl rfl)
    | succ k =>
      rw [ltI_true (by omega), cond_true, wr_sub1 (by omega), leI_zero, ltI_nat, ltN_true (by omega), must_tt]
      simp only [Int.toNat_natCast]
      by_cases hz : a.getD k 0 = 0
      · rw [hz]
        simp only [beq_self_eq_true, cond_true]
        refine ih k (by omega) (by omega) fun j hj => ?_
        by_cases e : j = k
        · rw [e]; exact hz
        · exact h0 j (by omega)
      · rw [beq_eq_false_iff_ne.2 hz, cond_false]
        exact fin (.inr hz)
theorem q161_eq {N : Nat} {a : List UInt64} (ha : a.length < 1000000) (hN : a.length < N) : q161 N a = some (cutL a, ()) := by
  unfold q161
  exact m161_eq N a (by omega) N a.length (Nat.le_refl _) hN fun j hj => getD_zero hj
theorem lv_append1 (l : List UInt64) (x : UInt64) : lv (l ++ [x]) = lv l + 18446744073709551616 ^ l.length * x.toNat := by
  induction l with
  | nil => simp [lv]
  | cons y l ih =>
    simp only [List.cons_append, lv, ih, List.length_cons, Nat.pow_succ]
    generalize 18446744073709551616 ^ l.length = p
    rw [Nat.mul_add, Nat.add_assoc, Nat.mul_comm p 18446744073709551616, Nat.mul_assoc]
theorem m65_eq (N : Nat) (a b : List UInt64) (hl : a.length = b.length) (hb : a.length < 1000000) : ∀ n k : Nat, k < n → k ≤ a.length → m65_7 N n ((k : Int) - 1) a b = some (cmpN (lv (a.take k)) (lv (b.take k)), ()) := by
  intro n
  induction n with
  | zero => intro k h; omega
  | succ n ih =>
    intro k hn hk
    rw [m65_7_succ]
    unfold c65_7
    cases k with
    | zero =>
      rw [show leI 0 (((0 : Nat) : Int) - 1) = false from rfl, cond_false]
      simp [cmpN, lv]
    | succ k =>
      have e0 : ((k + 1 : Nat) : Int) - 1 = (k : Int) := by omega
      rw [e0, leI_zero, cond_true, ltI_nat, ltI_nat, ltN_true (show k < a.length by omega), ltN_true (show k < b.length by omega), must_tt, must_tt, must_tt, must_tt, lv_take_succ, lv_take_succ]
      simp only [Int.toNat_natCast]
      have h1 := lv_take_lt a k
      have h2 := lv_take_lt b k
      generalize 18446744073709551616 ^ k = p at h1 h2 ⊢
      by_cases e1 : (a.getD k 0).toNat < (b.getD k 0).toNat
      · rw [ltN_true e1, cond_true]
        have : p * ((a.getD k 0).toNat + 1) ≤ p * (b.getD k 0).toNat := Nat.mul_le_mul_left _ e1
        rw [Nat.mul_add] at this
        simp only [cmpN]
        rw [if_pos (by omega)]
      · rw [ltN_false e1, cond_false]
        by_cases e2 : (b.getD k 0).toNat < (a.getD k 0).toNat
        · rw [ltN_true e2, cond_true]
          have : p * ((b.getD k 0).toNat + 1) ≤ p * (a.getD k 0).toNat := Nat.mul_le_mul_left _ e2
          rw [Nat.mul_add] at this
          simp only [cmpN]
          rw [if_neg (by omega), if_pos (by omega)]
        · rw [ltN_false e2, cond_false, wr_id (by omega) (by omega), ih k (by omega) (by omega)]
          have e3 : (a.getD k 0).toNat = (b.getD k 0).toNat := by omega
          simp only [cmpN, e3, Nat.add_lt_add_iff_right]
theorem lv_ge {s : List UInt64} (h : Nrm s) {k : Nat} (hk : k < s.length) : 18446744073709551616 ^ k ≤ lv s := by
  rcases Nat.lt_or_ge (lv s) (18446744073709551616 ^ k) with h1 | h1
  · have := Nrm_len h h1; omega
  · exact h1
theorem q65_eq {N : Nat} {a b : List UInt64} (ha : a.length < 1000000) (hb : b.length < 1000000) (hN : max a.length b.length < N) : q65 N a b = some (cmpN (lv a) (lv b), ()) := by
  unfold q65
  rw [q161_eq (by omega) (by omega), q161_eq (by omega) (by omega)]
  simp only [Option.bind_some]
  have hal := cutL_len a
  have hbl := cutL_len b
  have ha1 := lv_lt (cutL a)
  have hb1 := lv_lt (cutL b)
  rw [← lv_cutL a, ← lv_cutL b]
  by_cases h : (cutL a).length = (cutL b).length
  · rw [eqI_true (by omega)]
    simp only [Bool.not_true, cond_false]
    rw [wr_id (by omega) (by omega), m65_eq N (cutL a) (cutL b) h (by omega) N _ (by omega) (Nat.le_refl _), lv_take_all (Nat.le_refl _), lv_take_all (by omega)]
  · rw [eqI_false (by omega)]
    simp only [Bool.not_false, cond_true]
    rw [ltI_nat]
    by_cases h2 : (cutL a).length < (cutL b).length
    · rw [ltN_true h2, cond_true]
      have := lv_ge (Nrm_cutL b) h2
      rw [show cmpN (lv (cutL a)) (lv (cutL b)) = -1 from if_pos (by omega)]
    · rw [ltN_false h2, cond_false]
      have := lv_ge (Nrm_cutL a) (k := (cutL b).length) (by omega)
      have e : cmpN (lv (cutL a)) (lv (cutL b)) = 1 := by unfold cmpN; rw [if_neg (by omega), if_pos (by omega)]
      rw [e]
theorem m64_eq (N : Nat) (a b : List UInt64) (hm : max a.length b.length < 999999) (hN : max a.length b.length < N) (hle : lv b ≤ lv a) : ∀ n i : Nat, ∀ c : UInt64, ∀ out : List UInt64, i ≤ max a.length b.length → max a.length b.length - i < n → out.length = i → c.toNat ≤ 1 →
    lv out + lv (b.take i) = lv (a.take i) + 18446744073709551616 ^ i * c.toNat → ∃ s, m64_6 N n a b c (i : Int) out = some (s, 0, ()) ∧ Nrm s ∧ lv s = lv a - lv b := by
  intro n
  induction n with
  | zero => intro i c out _ h; omega
  | succ n ih =>
    intro i c out hi hn hl hc hinv
    rw [m64_6_succ]
    unfold c64_6
    rw [mxI_nat, ltI_nat]
    by_cases h : i < max a.length b.length
    · rw [ltN_true h, cond_true, q165_eq, q165_eq]
      simp only [Option.bind_some]
      obtain ⟨s, d, h1, h2, h3⟩ := kSub_eq (x := a.getD i 0) (y := b.getD i 0) hc
      rw [h1]
      simp only [Option.bind_some]
      rw [must_t (leN_true (by simp; omega)), wr_add1 (by omega)]
      refine ih (i + 1) d (out ++ [s]) h (by omega) (by simp; omega) h2 ?_
      rw [lv_append1, hl, lv_take_succ, lv_take_succ, Nat.pow_succ]
      generalize 18446744073709551616 ^ i = p at hinv ⊢
      have : p * (s.toNat + (b.getD i 0).toNat + c.toNat) = p * ((a.getD i 0).toNat + 18446744073709551616 * d.toNat) := by rw [h3]
      simp only [Nat.mul_add] at this
      rw [← Nat.mul_assoc p 18446744073709551616] at this
      omega
    · rw [ltN_false h, cond_false, q161_eq (by omega) (by omega)]
      refine ⟨cutL out, rfl, Nrm_cutL _, ?_⟩
      rw [lv_cutL]
      rw [lv_take_all (by omega), lv_take_all (by omega)] at hinv
      have ho := lv_lt out
      rw [hl] at ho
      generalize 18446744073709551616 ^ i = p at hinv ho
      have hc0 : c.toNat = 0 := by
        cases hq : c.toNat with
        | zero => rfl
        | succ z =>
          have : c.toNat = 1 := by omega
          rw [this] at hinv
          omega
      rw [hc0] at hinv
      omega
theorem q64_eq {N : Nat} {a b : List UInt64} (ha : a.length < 999999) (hb : b.length < 999999) (hN : max a.length b.length < N) :
    (lv a < lv b ∧ q64 N a b = some ([], 1, ())) ∨ (lv b ≤ lv a ∧ ∃ s, q64 N a b = some (s, 0, ()) ∧ Nrm s ∧ lv s = lv a - lv b) := by
  unfold q64
  rw [q65_eq (by omega) (by omega) hN]
  simp only [Option.bind_some]
  by_cases h : lv a < lv b
  · left
    refine ⟨h, ?_⟩
    rw [show cmpN (lv a) (lv b) = -1 from if_pos h]
    rfl
  · right
    refine ⟨by omega, ?_⟩
    have : ltI (cmpN (lv a) (lv b)) 0 = false := by
      unfold cmpN
      rw [if_neg h]
      split <;> rfl
    rw [this, cond_false]
    exact m64_eq N a b (by omega) hN (by omega) N 0 0 [] (Nat.zero_le _) (by omega) rfl (by simp) (by simp [lv])
theorem q162_eq {N : Nat} {a : List UInt64} {i : Nat} (hi : i < 1000000) : ∃ x : UInt64, q162 N a (i : Int) = some (x, ()) ∧ x.toNat = lv a / 2 ^ i % 2 := by
  unfold q162
  have e1 : wr (Int.tdiv (i : Int) 64) = ((i / 64 : Nat) : Int) := by
    rw [show (64 : Int) = ((64 : Nat) : Int) from rfl, tdiv_nat, wr_id (by omega) (by omega)]
  have e2 : Int.tmod (i : Int) 64 = ((i % 64 : Nat) : Int) := rfl
  rw [e1, e2, leI_nat]
  by_cases h : a.length ≤ i / 64
  · rw [leN_true h, cond_true]
    refine ⟨0, rfl, ?_⟩
    rw [bit_nat, lv_bit, getD_zero h]
    simp
  · rw [leN_false h, cond_false, leI_zero, ltI_nat, ltN_true (by omega), must_tt, must_t (leI_zero _), must_t (ltI_true (by omega))]
    simp only [Int.toNat_natCast]
    refine ⟨_, rfl, ?_⟩
    rw [and_one, shr64_nat, UInt64.toNat_ofNat', Nat.mod_eq_of_lt (show i % 64 < 2 ^ 64 by omega), bit_nat, bit_nat, lv_bit]
end Go.Proofs.Ytgimohchocjgcaa.V
