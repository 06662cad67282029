import Derived.Test.YtgimohchocjgcaaVLU
set_option linter.unusedVariables false
set_option linter.unusedSimpArgs false
namespace Go.Proofs.Ytgimohchocjgcaa.V
theorem mod_div_mod (q s : Nat) (hs : s + 8 ≤ 64) : q % 2 ^ 64 / 2 ^ s % 2 ^ 8 = q / 2 ^ s % 2 ^ 8 := by
  apply Nat.eq_of_testBit_eq
  intro i
  simp only [Nat.testBit_mod_two_pow, Nat.testBit_div_two_pow]
  by_cases h : i < 8
  · simp only [h, decide_true, Bool.true_and]
    rw [show decide (i + s < 64) = true from by simp; omega]
    simp
  · simp [h]
theorem byt_nat (a : List UInt64) (m : Nat) : (byt a m).toNat = lv a / 256 ^ m % 256 := by
  unfold byt
  rw [UInt8.toNat_ofNat', shr64_nat, ← lv_digit, pow256, ← Nat.div_div_eq_div_mul]
  have := mod_div_mod (lv a / 18446744073709551616 ^ (m / 8)) (8 * (m % 8)) (by omega)
  rw [show (2 : Nat) ^ 64 = 18446744073709551616 by decide, show (2 : Nat) ^ 8 = 256 by decide] at this
  rw [show (2 : Nat) ^ 8 = 256 by decide]
  exact this
theorem bv_put {a : List UInt64} {n : Nat} {out : List UInt8} (h : IsPut a n out n) : ∀ j, j ≤ n → bv (out.drop (n - j)) = lv a % 256 ^ j := by
  intro j
  induction j with
  | zero => intro _; rw [Nat.sub_zero, ← h.1]; simp [bv, Nat.mod_one]
  | succ j ih =>
    intro hj
    have hd := bv_drop out (n - (j + 1)) (by rw [h.1]; omega)
    rw [h.1, show n - 1 - (n - (j + 1)) = j by omega, show n - (j + 1) + 1 = n - j by omega, ih (by omega)] at hd
    have hg := h.2 j (by omega)
    rw [if_pos (by omega), show n - 1 - j = n - (j + 1) by omega] at hg
    rw [hd, hg, byt_nat, Nat.mod_pow_succ, Nat.mul_comm, Nat.add_comm]
theorem lv_zeros_append (a : List UInt64) (k : Nat) : lv (a ++ List.replicate k 0) = lv a := by
  induction a with
  | nil => exact lv_zeros k
  | cons x a ih => simp only [List.cons_append, lv, ih]
theorem Nrm_last {x : List UInt64} (h : Nrm x) (hne : 0 < x.length) : x.getD (x.length - 1) 0 ≠ 0 := by
  intro e
  have h1 := lv_ge h (k := x.length - 1) (by omega)
  have h2 := lv_take_succ x (x.length - 1)
  rw [show x.length - 1 + 1 = x.length by omega, lv_take_all (Nat.le_refl _), e] at h2
  have h3 := lv_take_lt x (x.length - 1)
  simp at h2
  omega
theorem put_take {a : List UInt64} (ha : a.length ≤ 24) : ∃ out x, q57 2000 a ((192 : Nat) : Int) = some (out, 0, ()) ∧ q59 2000 out = some (x, ()) ∧ Nrm x ∧ lv x = lv a := by
  rcases q57_eq (N := 2000) (a := a) (by omega) (Nat.le_refl _) 192 (Nat.le_refl _) with ⟨h1, _⟩ | ⟨_, out, h2, h3⟩
  · exfalso
    refine h1 fun m hm => byt_zero ?_
    have := cutL_len a
    omega
  · obtain ⟨x, g1, g2, g3⟩ := q59_eq (N := 2000) (b := out) (by rw [h2.1]; omega) (Nat.le_refl _)
    refine ⟨out, x, h3, g1, g2, ?_⟩
    have := bv_put h2 192 (Nat.le_refl _)
    rw [Nat.sub_self, List.drop_zero, lv_cutL] at this
    rw [g3, this]
    refine Nat.mod_eq_of_lt ?_
    have e : (256 : Nat) ^ 192 = 18446744073709551616 ^ 24 := by decide
    rw [e]
    exact lv_len ha
end Go.Proofs.Ytgimohchocjgcaa.V
