import Derived.Test.YtgimohchocjgcaaVUM
import Derived.Test.YtgimohchocjgcaaVLN
import Derived.KernelRfl
import Derived.Test.YtgimohchocjgcaaVLP
set_option linter.unusedVariables false
set_option linter.unusedSimpArgs false
namespace Go.Proofs.Ytgimohchocjgcaa.V
theorem u8nat (x : UInt8) : x.toNat < 256 := x.toNat_lt
def bv : List UInt8 → Nat
  | [] => 0
  | x :: l => x.toNat * 256 ^ l.length + bv l
theorem bv_lt (b : List UInt8) : bv b < 256 ^ b.length := by
  induction b with
  | nil => simp [bv]
  | cons x b ih =>
    have := u8nat x
    simp only [bv, List.length_cons, Nat.pow_succ]
    have h2 : (x.toNat + 1) * 256 ^ b.length ≤ 256 * 256 ^ b.length := Nat.mul_le_mul_right _ (by omega)
    rw [Nat.add_mul, Nat.one_mul] at h2
    rw [Nat.mul_comm (256 ^ b.length)]
    omega
theorem bv_take (b : List UInt8) (k : Nat) (h : k < b.length) : bv (b.take (k + 1)) = bv (b.take k) * 256 + (b.getD k 0).toNat := by
  induction b generalizing k with
  | nil => simp at h
  | cons x b ih =>
    cases k with
    | zero => simp [bv]
    | succ k =>
      have := ih k (by simpa using h)
      have hk : k < b.length := by simpa using h
      simp only [List.take_succ_cons, bv, List.getD_cons_succ, this, List.length_take]
      rw [Nat.min_eq_left (by omega), Nat.min_eq_left (by omega), Nat.pow_succ, ← Nat.mul_assoc, Nat.add_mul]
      omega
theorem lv_setL (l : List UInt64) (i : Nat) (v : UInt64) (h : i < l.length) : lv (setL l i v) + 18446744073709551616 ^ i * (l.getD i 0).toNat = lv l + 18446744073709551616 ^ i * v.toNat := by
  induction l generalizing i with
  | nil => simp at h
  | cons x l ih =>
    cases i with
    | zero => simp [setL, lv]; omega
    | succ i =>
      have := ih i (by simpa using h)
      simp only [setL, lv, List.getD_cons_succ, Nat.pow_succ]
      generalize 18446744073709551616 ^ i = p at this ⊢
      rw [Nat.mul_comm p 18446744073709551616, Nat.mul_assoc, Nat.mul_assoc]
      omega
theorem lv_digit (l : List UInt64) (i : Nat) : lv l / 18446744073709551616 ^ i % 18446744073709551616 = (l.getD i 0).toNat := by
  induction l generalizing i with
  | nil => simp [lv]
  | cons x l ih =>
    have hx := x.toNat_lt
    cases i with
    | zero => simp only [lv, Nat.pow_zero, Nat.div_one, List.getD_cons_zero]; omega
    | succ i =>
      rw [List.getD_cons_succ, ← ih i, Nat.pow_succ, Nat.mul_comm, ← Nat.div_div_eq_div_mul]
      congr 2
      simp only [lv]
      omega
theorem pow256 (i : Nat) : (256 : Nat) ^ i = 18446744073709551616 ^ (i / 8) * 2 ^ (8 * (i % 8)) := by
  have e1 : (256 : Nat) ^ i = 2 ^ (8 * i) := by rw [Nat.pow_mul]
  have e2 : (18446744073709551616 : Nat) ^ (i / 8) = 2 ^ (64 * (i / 8)) := by rw [Nat.pow_mul]
  rw [e1, e2, ← Nat.pow_add]
  congr 1
  omega
theorem shl_nat (c : UInt8) (k : Nat) (hk : k ≤ 7) : (shl64 (UInt64.ofNat c.toNat) (8 * k)).toNat = c.toNat * 2 ^ (8 * k) := by
  have hc := u8nat c
  unfold shl64
  rw [UInt64.toNat_ofNat', UInt64.toNat_ofNat', Nat.mod_eq_of_lt (show c.toNat < 2 ^ 64 by omega)]
  refine Nat.mod_eq_of_lt ?_
  have : c.toNat * 2 ^ (8 * k) < 2 ^ 8 * 2 ^ (8 * k) := Nat.mul_lt_mul_of_pos_right (by omega) (Nat.pow_pos (by decide))
  rw [← Nat.pow_add] at this
  exact Nat.lt_of_lt_of_le this (Nat.pow_le_pow_right (by decide) (by omega))
theorem m59_eq (N : Nat) (b : List UInt8) (hb : b.length < 1000) (hN : 2000 ≤ N) : ∀ n i : Nat, ∀ out : List UInt64, i ≤ b.length → b.length - i < n → out.length = b.length / 8 + 1 → lv out = bv (b.take i) * 256 ^ (b.length - i) →
    ∃ s, m59_3 N n b b (b.length : Int) (i : Int) out = some (s, ()) ∧ Nrm s ∧ lv s = bv b := by
  intro n
  induction n with
  | zero => intro i out _ h; omega
  | succ n ih =>
    intro i out hi hn hl hinv
    rw [m59_3_succ]
    unfold c59_3
    rw [ltI_nat]
    by_cases h : i < b.length
    · have e3 : wr (wr ((b.length : Int) - 1) - (i : Int)) = ((b.length - 1 - i : Nat) : Int) := by
        rw [wr_id (x := (b.length : Int) - 1) (by omega) (by omega), wr_id (by omega) (by omega)]; omega
      have hk : b.length - i = b.length - 1 - i + 1 := by omega
      rw [hk] at hinv
      rw [ltN_true h, cond_true, e3]
      generalize hK : b.length - 1 - i = k at *
      have e1 : wr (Int.tdiv (k : Int) 8) = ((k / 8 : Nat) : Int) := by
        rw [show (8 : Int) = ((8 : Nat) : Int) from rfl, tdiv_nat, wr_id (by omega) (by omega)]
      have e2 : wr (8 * Int.tmod (k : Int) 8) = ((8 * (k % 8) : Nat) : Int) := by
        rw [show Int.tmod (k : Int) 8 = ((k % 8 : Nat) : Int) from rfl, wr_id (by omega) (by omega)]; omega
      rw [e1, e2, leI_zero, must_tt, leI_zero, ltI_nat, ltN_true (show k / 8 < out.length by omega), must_tt, must_tt, wr_add1 (by omega)]
      simp only [Int.toNat_natCast]
      rw [u64I_nat (by omega)]
      have hx := shl_nat (b.getD i 0) (k % 8) (by omega)
      have hc := u8nat (b.getD i 0)
      generalize hC : b.getD i 0 = c at *
      have hdig := lv_digit out (k / 8)
      have hmul : ∃ z, (out.getD (k / 8) 0).toNat = 2 ^ (8 * (k % 8) + 8) * z := by
        rw [← hdig, hinv, Nat.pow_succ, pow256 k]
        have e : bv (List.take i b) * (18446744073709551616 ^ (k / 8) * 2 ^ (8 * (k % 8)) * 256) = 18446744073709551616 ^ (k / 8) * (2 ^ (8 * (k % 8) + 8) * bv (List.take i b)) := by
          rw [Nat.pow_add, show (2 : Nat) ^ 8 = 256 by decide]
          simp only [Nat.mul_assoc, Nat.mul_comm, Nat.mul_left_comm]
        rw [e, Nat.mul_div_cancel_left _ (Nat.pow_pos (by decide))]
        have e64 : (18446744073709551616 : Nat) = 2 ^ (8 * (k % 8) + 8) * 2 ^ (64 - (8 * (k % 8) + 8)) := by
          rw [← Nat.pow_add]
          have : 8 * (k % 8) + 8 + (64 - (8 * (k % 8) + 8)) = 64 := by omega
          rw [this]
        rw [e64, Nat.mul_mod_mul_left]
        exact ⟨_, rfl⟩
      obtain ⟨z, hz⟩ := hmul
      have hor : (out.getD (k / 8) 0 ||| shl64 (UInt64.ofNat c.toNat) (8 * (k % 8))).toNat = (out.getD (k / 8) 0).toNat + c.toNat * 2 ^ (8 * (k % 8)) := by
        rw [UInt64.toNat_or, hx, hz]
        rw [Nat.two_pow_add_eq_or_of_lt]
        rw [Nat.pow_add, Nat.mul_comm]
        exact Nat.mul_lt_mul_of_pos_left (by omega) (Nat.pow_pos (by decide))
      refine ih (i + 1) _ h (by omega) (by rw [length_setL]; exact hl) ?_
      have hs := lv_setL out (k / 8) (out.getD (k / 8) 0 ||| shl64 (UInt64.ofNat c.toNat) (8 * (k % 8))) (by omega)
      rw [hor] at hs
      rw [bv_take b i h, hC, show b.length - (i + 1) = k by omega, Nat.add_mul, Nat.mul_assoc, ← Nat.pow_succ', ← hinv, pow256 k]
      generalize 18446744073709551616 ^ (k / 8) = p at hs ⊢
      generalize 2 ^ (8 * (k % 8)) = q at hs ⊢
      rw [Nat.mul_add] at hs
      rw [show c.toNat * (p * q) = p * (c.toNat * q) from Nat.mul_left_comm _ _ _]
      omega
    · obtain rfl : i = b.length := by omega
      rw [ltN_false h, cond_false, q158_eq (by omega) (by omega)]
      refine ⟨cutL out, rfl, Nrm_cutL _, ?_⟩
      rw [lv_cutL, hinv]; simp
theorem q59_eq {N : Nat} {b : List UInt8} (hb : b.length < 900) (hN : 2000 ≤ N) : ∃ s, q59 N b = some (s, ()) ∧ Nrm s ∧ lv s = bv b := by
  unfold q59
  have e1 : wr (wr (Int.tdiv (b.length : Int) 8) + 1) = ((b.length / 8 + 1 : Nat) : Int) := by
    rw [show wr (Int.tdiv (b.length : Int) 8) = ((b.length / 8 : Nat) : Int) by rw [show (8 : Int) = ((8 : Nat) : Int) from rfl, tdiv_nat, wr_id (by omega) (by omega)], wr_add1 (by omega)]
  rw [e1, leI_zero, eqI_true rfl, must_t (by simp only [Bool.true_and, Int.toNat_natCast]; exact leN_true (by omega))]
  simp only [Int.toNat_natCast]
  exact m59_eq N b (by omega) hN N 0 (List.replicate (b.length / 8 + 1) 0) (Nat.zero_le _) (by omega) (by simp) (by rw [lv_zeros]; simp [bv])
end Go.Proofs.Ytgimohchocjgcaa.V
