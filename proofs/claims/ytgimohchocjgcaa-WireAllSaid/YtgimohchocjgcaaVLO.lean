import Derived.Test.YtgimohchocjgcaaVLN
set_option linter.unusedVariables false
set_option linter.unusedSimpArgs false
namespace Go.Proofs.Ytgimohchocjgcaa.V
theorem shr64_nat (x : UInt64) (n : Nat) : (shr64 x n).toNat = x.toNat / 2 ^ n := by
  unfold shr64
  rw [UInt64.toNat_ofNat']
  exact Nat.mod_eq_of_lt (Nat.lt_of_le_of_lt (Nat.div_le_self _ _) x.toNat_lt)
theorem mask32 (x : UInt64) : (x &&& 4294967295).toNat = x.toNat % 4294967296 := by
  rw [UInt64.toNat_and]
  exact Nat.and_two_pow_sub_one_eq_mod x.toNat 32
theorem mul_parts {a b c d m n : Nat} (ha : a < m) (hb : b < n) : a * b ≤ (m - 1) * (n - 1) := Nat.mul_le_mul (by omega) (by omega)
theorem q163_eq (N : Nat) (x y : UInt64) : ∃ h l : UInt64, q163 N x y = some (h, l, ()) ∧ h.toNat * 18446744073709551616 + l.toNat = x.toNat * y.toNat := by
  refine ⟨_, _, rfl, ?_⟩
  have hx := x.toNat_lt
  have hy := y.toNat_lt
  simp only [UInt64.toNat_add, UInt64.toNat_mul, shr64_nat, mask32, show (32 : UInt64).toNat = 32 from rfl]
  generalize hX : x.toNat = X at *
  generalize hY : y.toNat = Y at *
  have e1 : (2 : Nat) ^ 64 = 18446744073709551616 := by decide
  have e2 : (2 : Nat) ^ 32 = 4294967296 := by decide
  simp only [e1, e2] at *
  have hX1 : X = 4294967296 * (X / 4294967296) + X % 4294967296 := (Nat.div_add_mod X 4294967296).symm
  have hY1 : Y = 4294967296 * (Y / 4294967296) + Y % 4294967296 := (Nat.div_add_mod Y 4294967296).symm
  have b1 : X / 4294967296 < 4294967296 := by omega
  have b2 : Y / 4294967296 < 4294967296 := by omega
  have b3 : X % 4294967296 < 4294967296 := Nat.mod_lt _ (by decide)
  have b4 : Y % 4294967296 < 4294967296 := Nat.mod_lt _ (by decide)
  generalize X / 4294967296 = x1 at *
  generalize X % 4294967296 = x0 at *
  generalize Y / 4294967296 = y1 at *
  generalize Y % 4294967296 = y0 at *
  have hp : X * Y = 18446744073709551616 * (x1 * y1) + 4294967296 * (x1 * y0) + 4294967296 * (x0 * y1) + x0 * y0 := by
    rw [hX1, hY1]
    simp only [Nat.add_mul, Nat.mul_add]
    have q1 : 4294967296 * x1 * (4294967296 * y1) = 18446744073709551616 * (x1 * y1) := by
      rw [show (18446744073709551616 : Nat) = 4294967296 * 4294967296 by decide]
      simp only [Nat.mul_assoc, Nat.mul_left_comm x1]
    have q2 : 4294967296 * x1 * y0 = 4294967296 * (x1 * y0) := Nat.mul_assoc _ _ _
    have q3 : x0 * (4294967296 * y1) = 4294967296 * (x0 * y1) := Nat.mul_left_comm _ _ _
    rw [q1, q2, q3]
    omega
  have p1 := mul_parts (c := 0) (d := 0) b1 b2
  have p2 := mul_parts (c := 0) (d := 0) b1 b4
  have p3 := mul_parts (c := 0) (d := 0) b3 b2
  have p4 := mul_parts (c := 0) (d := 0) b3 b4
  rw [hp]
  generalize x1 * y1 = a at *
  generalize x1 * y0 = b at *
  generalize x0 * y1 = c at *
  generalize x0 * y0 = d at *
  omega
end Go.Proofs.Ytgimohchocjgcaa.V
