import Derived.Test.YtgimohchocjgcaaVLX
import Derived.Test.YtgimohchocjgcaaVLP
import Derived.Test.YtgimohchocjgcaaVLR
set_option linter.unusedVariables false
set_option linter.unusedSimpArgs false
namespace Go.Proofs.Ytgimohchocjgcaa.V
def byt (a : List UInt64) (m : Nat) : UInt8 := UInt8.ofNat (shr64 (a.getD (m / 8) 0) (8 * (m % 8))).toNat
theorem byt_zero {a : List UInt64} {m : Nat} (h : 8 * a.length ≤ m) : byt a m = 0 := by
  unfold byt
  rw [getD_zero (by omega)]
  have : (shr64 0 (8 * (m % 8))).toNat = 0 := by rw [shr64_nat]; simp
  rw [this]; rfl
def Fits (a : List UInt64) (n : Nat) : Prop := ∀ m, n ≤ m → byt a m = 0
def IsPut (a : List UInt64) (n : Nat) (out : List UInt8) (j : Nat) : Prop := out.length = n ∧ ∀ m, m < n → out.getD (n - 1 - m) 0 = if m < j then byt a m else 0
theorem isPut_step {a : List UInt64} {n j : Nat} {out : List UInt8} (h : IsPut a n out j) (hj : j < n) : IsPut a n (setL out (n - 1 - j) (byt a j)) (j + 1) := by
  obtain ⟨h1, h2⟩ := h
  refine ⟨by rw [length_setL]; exact h1, fun m hm => ?_⟩
  rw [getD_setL]
  by_cases e : m = j
  · subst e
    rw [if_pos ⟨rfl, by omega⟩, if_pos (by omega)]
  · rw [if_neg (by omega), h2 m hm]
    by_cases e2 : m < j
    · rw [if_pos e2, if_pos (by omega)]
    · rw [if_neg e2, if_neg (by omega)]
theorem isPut_more {a : List UInt64} {n j k : Nat} {out : List UInt8} (h : IsPut a n out j) (hk : ∀ m, j ≤ m → m < k → m < n → byt a m = 0) (hjk : j ≤ k) : IsPut a n out k := by
  obtain ⟨h1, h2⟩ := h
  refine ⟨h1, fun m hm => ?_⟩
  rw [h2 m hm]
  by_cases e : m < j
  · rw [if_pos e, if_pos (by omega)]
  · rw [if_neg e]
    by_cases e2 : m < k
    · rw [if_pos e2, hk m (by omega) e2 hm]
    · rw [if_neg e2]
theorem isPut_zero (a : List UInt64) (n : Nat) : IsPut a n (List.replicate n 0) 0 := by
  refine ⟨by simp, fun m hm => ?_⟩
  rw [List.getD_eq_getElem?_getD, List.getElem?_replicate]
  split <;> simp
theorem u8nat (x : UInt8) : x.toNat < 256 := x.toNat_lt
theorem m57_9_eq (N : Nat) (A : Int → Int → Int → List UInt8 → List UInt64 → Option (List UInt8 × Int × Unit)) (a : List UInt64) (n1 i : Nat) (hn1 : n1 ≤ 192) (hi : i < 1000) : ∀ n k : Nat, ∀ out : List UInt8, k ≤ 8 → 8 - k < n → IsPut a n1 out (8 * i + k) → (∀ m, n1 ≤ m → m < 8 * i + k → byt a m = 0) →
    ((∃ m, n1 ≤ m ∧ byt a m ≠ 0) ∧ m57_9 N A n (n1 : Int) (i : Int) (a.getD i 0) (a.length : Int) (i : Int) (k : Int) out a = some ([], 8, ())) ∨
    (∃ out', IsPut a n1 out' (8 * (i + 1)) ∧ (∀ m, n1 ≤ m → m < 8 * (i + 1) → byt a m = 0) ∧ m57_9 N A n (n1 : Int) (i : Int) (a.getD i 0) (a.length : Int) (i : Int) (k : Int) out a = A (n1 : Int) (a.length : Int) ((i + 1 : Nat) : Int) out' a) := by
  intro n
  induction n with
  | zero => intro k out _ h; omega
  | succ n ih =>
    intro k out hk hn hput hz
    rw [m57_9_succ]
    unfold c57_9
    by_cases h : k < 8
    · have e1 : wr (wr (wr ((n1 : Int) - 1) - wr (8 * (i : Int))) - (k : Int)) = (n1 : Int) - 1 - 8 * (i : Int) - (k : Int) := by
        rw [wr_id (x := (n1 : Int) - 1) (by omega) (by omega), wr_id (x := 8 * (i : Int)) (by omega) (by omega), wr_id (x := (n1 : Int) - 1 - 8 * (i : Int)) (by omega) (by omega), wr_id (by omega) (by omega)]
      have e2 : wr (8 * (k : Int)) = ((8 * k : Nat) : Int) := by rw [wr_id (by omega) (by omega)]; omega
      have e3 : UInt8.ofNat (UInt64.toNat (shr64 (a.getD i 0) (UInt64.toNat (u64I ((8 * k : Nat) : Int))))) = byt a (8 * i + k) := by
        unfold byt
        rw [u64I_nat (by omega), show (8 * i + k) / 8 = i by omega, show (8 * i + k) % 8 = k by omega]
      rw [ltI_true (show (k : Int) < 8 by omega), cond_true, e1, e2, e3, wr_add1 (by omega)]
      by_cases hb : 8 * i + k < n1
      · rw [ltI_false (by omega), cond_false, leI_true (show (0 : Int) ≤ (n1 : Int) - 1 - 8 * (i : Int) - (k : Int) by omega), cond_true, ltI_true (by have := hput.1; omega), must_tt]
        have e4 : Int.toNat ((n1 : Int) - 1 - 8 * (i : Int) - (k : Int)) = n1 - 1 - (8 * i + k) := by omega
        rw [e4]
        exact ih (k + 1) _ h (by omega) (isPut_step hput hb) (fun m h1 h2 => by
          by_cases e : m < 8 * i + k
          · exact hz m h1 e
          · omega)
      · rw [ltI_true (by omega), cond_true]
        by_cases hc : byt a (8 * i + k) = 0
        · rw [hc]
          simp only [beq_self_eq_true, Bool.not_true, cond_false]
          rw [leI_false (show ¬ (0 : Int) ≤ (n1 : Int) - 1 - 8 * (i : Int) - (k : Int) by omega), cond_false]
          exact ih (k + 1) _ h (by omega) (isPut_more hput (fun m _ _ h3 => by omega) (by omega)) (fun m h1 h2 => by
            by_cases e : m = 8 * i + k
            · rw [e]; exact hc
            · exact hz m h1 (by omega))
        · rw [beq_eq_false_iff_ne.2 hc]
          simp only [Bool.not_false, cond_true]
          exact .inl ⟨⟨8 * i + k, by omega, hc⟩, trivial⟩
    · obtain rfl : k = 8 := by omega
      rw [ltI_false (by omega), cond_false, wr_add1 (by omega)]
      exact .inr ⟨out, hput, hz, rfl⟩
theorem m57_6_eq (N : Nat) (a : List UInt64) (n1 : Nat) (hn1 : n1 ≤ 192) (ha : a.length < 1000) (hN : 10 < N) : ∀ n i : Nat, ∀ out : List UInt8, i ≤ a.length → a.length - i < n → IsPut a n1 out (8 * i) → (∀ m, n1 ≤ m → m < 8 * i → byt a m = 0) →
    ((¬ Fits a n1) ∧ m57_6 N n (n1 : Int) (a.length : Int) (i : Int) out a = some ([], 8, ())) ∨ (Fits a n1 ∧ ∃ out', IsPut a n1 out' n1 ∧ m57_6 N n (n1 : Int) (a.length : Int) (i : Int) out a = some (out', 0, ())) := by
  intro n
  induction n with
  | zero => intro i out _ h; omega
  | succ n ih =>
    intro i out hi hn hput hz
    rw [m57_6_succ]
    unfold c57_6
    rw [ltI_nat]
    by_cases h : i < a.length
    · rw [ltN_true h, cond_true, leI_zero, must_tt]
      simp only [Int.toNat_natCast]
      rcases m57_9_eq N (m57_6 N n) a n1 i hn1 (by omega) N 0 out (by omega) (by omega) hput hz with ⟨⟨m, h1, h2⟩, h3⟩ | ⟨out', h1, h2, h3⟩
      · exact .inl ⟨fun hf => h2 (hf m h1), h3⟩
      · have h3' : m57_9 N (m57_6 N n) N (n1 : Int) (i : Int) (a.getD i 0) (a.length : Int) (i : Int) 0 out a = m57_6 N n (n1 : Int) (a.length : Int) ((i + 1 : Nat) : Int) out' a := h3
        rw [h3']
        exact ih (i + 1) out' h (by omega) h1 h2
    · rw [ltN_false h, cond_false]
      refine .inr ⟨fun m hm => ?_, out, ?_, rfl⟩
      · by_cases e : m < 8 * i
        · exact hz m hm e
        · exact byt_zero (by omega)
      · by_cases e : 8 * i ≤ n1
        · exact isPut_more hput (fun m h1 _ _ => byt_zero (by omega)) e
        · refine ⟨hput.1, fun m hm => ?_⟩
          rw [hput.2 m hm, if_pos (by omega), if_pos hm]
theorem q57_is {N : Nat} {a : List UInt64} (ha : a.length < 900) (hN : 2000 ≤ N) (n : Nat) (hn : n ≤ 192) : q57 N a (n : Int) = m57_6 N N (n : Int) ((cutL a).length : Int) ((0 : Nat) : Int) (List.replicate n 0) (cutL a) := by
  unfold q57
  rw [q158_eq (by omega) (by omega)]
  simp only [Option.bind_some]
  have := cutL_len a
  rw [ltI_zero, cond_false, ltI_false (by omega), cond_false, leI_zero, eqI_true rfl, must_t (by simp only [Bool.true_and, Int.toNat_natCast]; exact leN_true (by omega))]
  simp only [Int.toNat_natCast]
  rfl
theorem q57_eq {N : Nat} {a : List UInt64} (ha : a.length < 900) (hN : 2000 ≤ N) (n : Nat) (hn : n ≤ 192) : (¬ Fits (cutL a) n ∧ q57 N a (n : Int) = some ([], 8, ())) ∨ (Fits (cutL a) n ∧ ∃ out, IsPut (cutL a) n out n ∧ q57 N a (n : Int) = some (out, 0, ())) := by
  have hp : IsPut (cutL a) n (List.replicate n 0) (8 * 0) := by rw [Nat.mul_zero]; exact isPut_zero _ _
  have := cutL_len a
  have h := m57_6_eq N (cutL a) n hn (by omega) (by omega) N 0 (List.replicate n 0) (Nat.zero_le _) (by omega) hp (fun m _ h => by omega)
  have e := q57_is ha hN n hn
  rcases h with ⟨h1, h2⟩ | ⟨h1, o, h2, h3⟩
  · exact .inl ⟨h1, e.trans h2⟩
  · exact .inr ⟨h1, o, h2, e.trans h3⟩
def bv : List UInt8 → Nat
  | [] => 0
  | x :: l => x.toNat * 256 ^ l.length + bv l
theorem bv_drop (b : List UInt8) (k : Nat) (h : k < b.length) : bv (b.drop k) = (b.getD k 0).toNat * 256 ^ (b.length - 1 - k) + bv (b.drop (k + 1)) := by
  induction b generalizing k with
  | nil => simp at h
  | cons x b ih =>
    cases k with
    | zero => simp [bv]
    | succ k =>
      simp only [List.drop_succ_cons, List.getD_cons_succ, List.length_cons]
      rw [ih k (by simpa using h)]
      congr 3
      omega
theorem bv_take (b : List UInt8) (k : Nat) (h : k < b.length) : bv (b.take (k + 1)) = bv (b.take k) * 256 + (b.getD k 0).toNat := by
  induction b generalizing k with
  | nil => simp at h
  | cons x b ih =>
    cases k with
    | zero => simp [bv]
    | succ k =>
      have := ih k (by simpa using h)
      have hk : k < b.length := by simpa using h
      simp only [List.take_succ_cons, bv, List.getD_cons_succ, this, List.length_take]
      rw [Nat.min_eq_left (by omega), Nat.min_eq_left (by omega), Nat.pow_succ, ← Nat.mul_assoc, Nat.add_mul]
      omega
theorem lv_setL (l : List UInt64) (i : Nat) (v : UInt64) (h : i < l.length) : lv (setL l i v) + 18446744073709551616 ^ i * (l.getD i 0).toNat = lv l + 18446744073709551616 ^ i * v.toNat := by
  induction l generalizing i with
  | nil => simp at h
  | cons x l ih =>
    cases i with
    | zero => simp [setL, lv]; omega
    | succ i =>
      have := ih i (by simpa using h)
      simp only [setL, lv, List.getD_cons_succ, Nat.pow_succ]
      generalize 18446744073709551616 ^ i = p at this ⊢
      rw [Nat.mul_comm p 18446744073709551616, Nat.mul_assoc, Nat.mul_assoc]
      omega
theorem lv_digit (l : List UInt64) (i : Nat) : lv l / 18446744073709551616 ^ i % 18446744073709551616 = (l.getD i 0).toNat := by
  induction l generalizing i with
  | nil => simp [lv]
  | cons x l ih =>
    have hx := x.toNat_lt
    cases i with
    | zero => simp only [lv, Nat.pow_zero, Nat.div_one, List.getD_cons_zero]; omega
    | succ i =>
      rw [List.getD_cons_succ, ← ih i, Nat.pow_succ, Nat.mul_comm, ← Nat.div_div_eq_div_mul]
      congr 2
      simp only [lv]
      omega
theorem pow256 (i : Nat) : (256 : Nat) ^ i = 18446744073709551616 ^ (i / 8) * 2 ^ (8 * (i % 8)) := by
  have e1 : (256 : Nat) ^ i = 2 ^ (8 * i) := by rw [Nat.pow_mul]
  have e2 : (18446744073709551616 : Nat) ^ (i / 8) = 2 ^ (64 * (i / 8)) := by rw [Nat.pow_mul]
  rw [e1, e2, ← Nat.pow_add]
  congr 1
  omega
theorem shl_nat (c : UInt8) (k : Nat) (hk : k ≤ 7) : (shl64 (UInt64.ofNat c.toNat) (8 * k)).toNat = c.toNat * 2 ^ (8 * k) := by
  have hc := u8nat c
  unfold shl64
  rw [UInt64.toNat_ofNat', UInt64.toNat_ofNat', Nat.mod_eq_of_lt (show c.toNat < 2 ^ 64 by omega)]
  refine Nat.mod_eq_of_lt ?_
  have : c.toNat * 2 ^ (8 * k) < 2 ^ 8 * 2 ^ (8 * k) := Nat.mul_lt_mul_of_pos_right (by omega) (Nat.pow_pos (by decide))
  rw [← Nat.pow_add] at this
  exact Nat.lt_of_lt_of_le this (Nat.pow_le_pow_right (by decide) (by omega))
theorem m59_eq (N : Nat) (b : List UInt8) (hb : b.length < 1000) (hN : 2000 ≤ N) : ∀ n i : Nat, ∀ out : List UInt64, i ≤ b.length → b.length - i < n → out.length = b.length / 8 + 1 → lv out = bv (b.take i) * 256 ^ (b.length - i) →
    ∃ s, m59_3 N n b b (b.length : Int) (i : Int) out = some (s, ()) ∧ Nrm s ∧ lv s = bv b := by
  intro n
  induction n with
  | zero => intro i out _ h; omega
  | succ n ih =>
    intro i out hi hn hl hinv
    rw [m59_3_succ]
    unfold c59_3
    rw [ltI_nat]
    by_cases h : i < b.length
    · have e3 : wr (wr ((b.length : Int) - 1) - (i : Int)) = ((b.length - 1 - i : Nat) : Int) := by
        rw [wr_id (x := (b.length : Int) - 1) (by omega) (by omega), wr_id (by omega) (by omega)]; omega
      have hk : b.length - i = b.length - 1 - i + 1 := by omega
      rw [hk] at hinv
      rw [ltN_true h, cond_true, e3]
      generalize hK : b.length - 1 - i = k at *
      have e1 : wr (Int.tdiv (k : Int) 8) = ((k / 8 : Nat) : Int) := by
        rw [show (8 : Int) = ((8 : Nat) : Int) from rfl, tdiv_nat, wr_id (by omega) (by omega)]
      have e2 : wr (8 * Int.tmod (k : Int) 8) = ((8 * (k % 8) : Nat) : Int) := by
        rw [show Int.tmod (k : Int) 8 = ((k % 8 : Nat) : Int) from rfl, wr_id (by omega) (by omega)]; omega
      rw [e1, e2, leI_zero, must_tt, leI_zero, ltI_nat, ltN_true (show k / 8 < out.length by omega), must_tt, must_tt, wr_add1 (by omega)]
      simp only [Int.toNat_natCast]
      rw [u64I_nat (by omega)]
      have hx := shl_nat (b.getD i 0) (k % 8) (by omega)
      have hc := u8nat (b.getD i 0)
      generalize hC : b.getD i 0 = c at *
      have hdig := lv_digit out (k / 8)
      have hmul : ∃ z, (out.getD (k / 8) 0).toNat = 2 ^ (8 * (k % 8) + 8) * z := by
        rw [← hdig, hinv, Nat.pow_succ, pow256 k]
        have e : bv (List.take i b) * (18446744073709551616 ^ (k / 8) * 2 ^ (8 * (k % 8)) * 256) = 18446744073709551616 ^ (k / 8) * (2 ^ (8 * (k % 8) + 8) * bv (List.take i b)) := by
          rw [Nat.pow_add, show (2 : Nat) ^ 8 = 256 by decide]
          simp only [Nat.mul_assoc, Nat.mul_comm, Nat.mul_left_comm]
        rw [e, Nat.mul_div_cancel_left _ (Nat.pow_pos (by decide))]
        have e64 : (18446744073709551616 : Nat) = 2 ^ (8 * (k % 8) + 8) * 2 ^ (64 - (8 * (k % 8) + 8)) := by
          rw [← Nat.pow_add]
          have : 8 * (k % 8) + 8 + (64 - (8 * (k % 8) + 8)) = 64 := by omega
          rw [this]
        rw [e64, Nat.mul_mod_mul_left]
        exact ⟨_, rfl⟩
      obtain ⟨z, hz⟩ := hmul
      have hor : (out.getD (k / 8) 0 ||| shl64 (UInt64.ofNat c.toNat) (8 * (k % 8))).toNat = (out.getD (k / 8) 0).toNat + c.toNat * 2 ^ (8 * (k % 8)) := by
        rw [UInt64.toNat_or, hx, hz]
        rw [Nat.two_pow_add_eq_or_of_lt]
        rw [Nat.pow_add, Nat.mul_comm]
        exact Nat.mul_lt_mul_of_pos_left (by omega) (Nat.pow_pos (by decide))
      refine ih (i + 1) _ h (by omega) (by rw [length_setL]; exact hl) ?_
      have hs := lv_setL out (k / 8) (out.getD (k / 8) 0 ||| shl64 (UInt64.ofNat c.toNat) (8 * (k % 8))) (by omega)
      rw [hor] at hs
      rw [bv_take b i h, hC, show b.length - (i + 1) = k by omega, Nat.add_mul, Nat.mul_assoc, ← Nat.pow_succ', ← hinv, pow256 k]
      generalize 18446744073709551616 ^ (k / 8) = p at hs ⊢
      generalize 2 ^ (8 * (k % 8)) = q at hs ⊢
      rw [Nat.mul_add] at hs
      rw [show c.toNat * (p * q) = p * (c.toNat * q) from Nat.mul_left_comm _ _ _]
      omega
    · obtain rfl : i = b.length := by omega
      rw [ltN_false h, cond_false, q158_eq (by omega) (by omega)]
      refine ⟨cutL out, rfl, Nrm_cutL _, ?_⟩
      rw [lv_cutL, hinv]; simp
theorem q59_eq {N : Nat} {b : List UInt8} (hb : b.length < 900) (hN : 2000 ≤ N) : ∃ s, q59 N b = some (s, ()) ∧ Nrm s ∧ lv s = bv b := by
  unfold q59
  have e1 : wr (wr (Int.tdiv (b.length : Int) 8) + 1) = ((b.length / 8 + 1 : Nat) : Int) := by
    rw [show wr (Int.tdiv (b.length : Int) 8) = ((b.length / 8 : Nat) : Int) by rw [show (8 : Int) = ((8 : Nat) : Int) from rfl, tdiv_nat, wr_id (by omega) (by omega)], wr_add1 (by omega)]
  rw [e1, leI_zero, eqI_true rfl, must_t (by simp only [Bool.true_and, Int.toNat_natCast]; exact leN_true (by omega))]
  simp only [Int.toNat_natCast]
  exact m59_eq N b (by omega) hN N 0 (List.replicate (b.length / 8 + 1) 0) (Nat.zero_le _) (by omega) (by simp) (by rw [lv_zeros]; simp [bv])
end Go.Proofs.Ytgimohchocjgcaa.V
