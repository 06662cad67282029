/- Arithmetic: the evaluator's numbers and the model's. -/
import Derived.Test.YtgimohchocjgcaaVG
set_option linter.unusedVariables false
set_option linter.unusedSimpArgs false
namespace Go.Proofs.Ytgimohchocjgcaa.V

theorem wrap_u64 (n : Int) : IntKind.u64.wrap n = n % 18446744073709551616 := by simp [IntKind.wrap, IntKind.bits, IntKind.signed]
theorem wrap_u32' (n : Int) : IntKind.u32.wrap n = n % 4294967296 := by simp [IntKind.wrap, IntKind.bits, IntKind.signed]
theorem wrap_u8' (n : Int) : IntKind.u8.wrap n = n % 256 := by simp [IntKind.wrap, IntKind.bits, IntKind.signed]

section
variable (x y : UInt64)
theorem add64 : IntKind.u64.wrap ((x.toNat : Int) + y.toNat) = ((x + y).toNat : Int) := by rw [wrap_u64, UInt64.toNat_add]; omega
theorem sub64 : IntKind.u64.wrap ((x.toNat : Int) - y.toNat) = ((x - y).toNat : Int) := by
  rw [wrap_u64, UInt64.toNat_sub]; have := x.toNat_lt; have := y.toNat_lt; omega
theorem mul64 : IntKind.u64.wrap ((x.toNat : Int) * y.toNat) = ((x * y).toNat : Int) := by
  rw [wrap_u64, UInt64.toNat_mul, ← Int.natCast_mul, Int.natCast_emod]; rfl
theorem bv64 : BitVec.ofInt 64 (x.toNat : Int) = x.toBitVec := by
  rw [BitVec.ofInt_natCast]; exact (UInt64.toBitVec_eq_of_eq (by simp) : (UInt64.ofNat x.toNat).toBitVec = x.toBitVec)
theorem back64 (b : BitVec 64) : IntKind.u64.wrap (b.toNat : Int) = ((UInt64.ofBitVec b).toNat : Int) := by
  rw [wrap_u64]; have := b.isLt; simp only [UInt64.toNat_ofBitVec]; omega
theorem shl64_ok (n : Nat) : IntKind.u64.wrap ((x.toNat : Int) * 2 ^ (min n 64)) = ((shl64 x n).toNat : Int) := by
  rw [wrap_u64, shl64, UInt64.toNat_ofNat']
  rcases Nat.le_total n 64 with h | h
  · rw [Nat.min_eq_left h, show (x.toNat : Int) * 2 ^ n = ((x.toNat * 2 ^ n : Nat) : Int) from by rw [Int.natCast_mul, Int.natCast_pow]; rfl]; rfl
  · rw [Nat.min_eq_right h]
    obtain ⟨k, rfl⟩ := Nat.exists_eq_add_of_le h
    have e : x.toNat * 2 ^ (64 + k) = 18446744073709551616 * (x.toNat * 2 ^ k) := by rw [Nat.pow_add, show (2 : Nat) ^ 64 = 18446744073709551616 from rfl, Nat.mul_left_comm]
    rw [e, show (2 : Int) ^ 64 = 18446744073709551616 from rfl, show (2 : Nat) ^ 64 = 18446744073709551616 from rfl, Int.mul_emod_left, Nat.mul_mod_right]
    rfl
theorem shr64_ok (n : Nat) : (x.toNat : Int).fdiv (2 ^ (min n 64)) = ((shr64 x n).toNat : Int) := by
  have hx := x.toNat_lt
  rw [shr64, UInt64.toNat_ofNat', Int.fdiv_eq_ediv_of_nonneg _ (Int.pow_nonneg (by decide))]
  have h2 : x.toNat / 2 ^ n ≤ x.toNat := Nat.div_le_self _ _
  rw [Nat.mod_eq_of_lt (by have e : (2 : Nat) ^ 64 = 18446744073709551616 := rfl; omega)]
  rcases Nat.le_total n 64 with h | h
  · rw [Nat.min_eq_left h, Int.natCast_ediv, Int.natCast_pow]; rfl
  · rw [Nat.min_eq_right h]
    have e1 : x.toNat / 2 ^ n = 0 := Nat.div_eq_of_lt (Nat.lt_of_lt_of_le hx (Nat.pow_le_pow_right (by decide) h))
    rw [e1, show (2 : Int) ^ 64 = 18446744073709551616 from rfl]
    have e : (2 : Nat) ^ 64 = 18446744073709551616 := rfl
    omega
end
section
variable (x y : UInt32)
theorem add32 : IntKind.u32.wrap ((x.toNat : Int) + y.toNat) = ((x + y).toNat : Int) := by rw [wrap_u32', UInt32.toNat_add]; omega
theorem sub32 : IntKind.u32.wrap ((x.toNat : Int) - y.toNat) = ((x - y).toNat : Int) := by
  rw [wrap_u32', UInt32.toNat_sub]; have := x.toNat_lt; have := y.toNat_lt; omega
theorem mul32 : IntKind.u32.wrap ((x.toNat : Int) * y.toNat) = ((x * y).toNat : Int) := by
  rw [wrap_u32', UInt32.toNat_mul, ← Int.natCast_mul, Int.natCast_emod]; rfl
theorem bv32 : BitVec.ofInt 32 (x.toNat : Int) = x.toBitVec := by
  rw [BitVec.ofInt_natCast]; exact (UInt32.toBitVec_eq_of_eq (by simp) : (UInt32.ofNat x.toNat).toBitVec = x.toBitVec)
theorem back32 (b : BitVec 32) : IntKind.u32.wrap (b.toNat : Int) = ((UInt32.ofBitVec b).toNat : Int) := by
  rw [wrap_u32']; have := b.isLt; simp only [UInt32.toNat_ofBitVec]; omega
theorem shl32_ok (n : Nat) : IntKind.u32.wrap ((x.toNat : Int) * 2 ^ (min n 32)) = ((shl32 x n).toNat : Int) := by
  rw [wrap_u32', shl32, UInt32.toNat_ofNat']
  rcases Nat.le_total n 32 with h | h
  · rw [Nat.min_eq_left h, show (x.toNat : Int) * 2 ^ n = ((x.toNat * 2 ^ n : Nat) : Int) from by rw [Int.natCast_mul, Int.natCast_pow]; rfl]; rfl
  · rw [Nat.min_eq_right h]
    obtain ⟨k, rfl⟩ := Nat.exists_eq_add_of_le h
    have e : x.toNat * 2 ^ (32 + k) = 4294967296 * (x.toNat * 2 ^ k) := by rw [Nat.pow_add, show (2 : Nat) ^ 32 = 4294967296 from rfl, Nat.mul_left_comm]
    rw [e, show (2 : Int) ^ 32 = 4294967296 from rfl, show (2 : Nat) ^ 32 = 4294967296 from rfl, Int.mul_emod_left, Nat.mul_mod_right]
    rfl
theorem shr32_ok (n : Nat) : (x.toNat : Int).fdiv (2 ^ (min n 32)) = ((shr32 x n).toNat : Int) := by
  have hx := x.toNat_lt
  rw [shr32, UInt32.toNat_ofNat', Int.fdiv_eq_ediv_of_nonneg _ (Int.pow_nonneg (by decide))]
  have h2 : x.toNat / 2 ^ n ≤ x.toNat := Nat.div_le_self _ _
  rw [Nat.mod_eq_of_lt (by have e : (2 : Nat) ^ 32 = 4294967296 := rfl; omega)]
  rcases Nat.le_total n 32 with h | h
  · rw [Nat.min_eq_left h, Int.natCast_ediv, Int.natCast_pow]; rfl
  · rw [Nat.min_eq_right h]
    have e1 : x.toNat / 2 ^ n = 0 := Nat.div_eq_of_lt (Nat.lt_of_lt_of_le hx (Nat.pow_le_pow_right (by decide) h))
    rw [e1, show (2 : Int) ^ 32 = 4294967296 from rfl]
    have e : (2 : Nat) ^ 32 = 4294967296 := rfl
    omega
end
section
variable (x y : UInt8)
theorem add8 : IntKind.u8.wrap ((x.toNat : Int) + y.toNat) = ((x + y).toNat : Int) := by rw [wrap_u8', UInt8.toNat_add]; omega
theorem sub8 : IntKind.u8.wrap ((x.toNat : Int) - y.toNat) = ((x - y).toNat : Int) := by
  rw [wrap_u8', UInt8.toNat_sub]; have := x.toNat_lt; have := y.toNat_lt; omega
theorem mul8 : IntKind.u8.wrap ((x.toNat : Int) * y.toNat) = ((x * y).toNat : Int) := by
  rw [wrap_u8', UInt8.toNat_mul, ← Int.natCast_mul, Int.natCast_emod]; rfl
theorem bv8 : BitVec.ofInt 8 (x.toNat : Int) = x.toBitVec := by
  rw [BitVec.ofInt_natCast]; exact (UInt8.toBitVec_eq_of_eq (by simp) : (UInt8.ofNat x.toNat).toBitVec = x.toBitVec)
theorem back8 (b : BitVec 8) : IntKind.u8.wrap (b.toNat : Int) = ((UInt8.ofBitVec b).toNat : Int) := by
  rw [wrap_u8']; have := b.isLt; simp only [UInt8.toNat_ofBitVec]; omega
theorem shl8_ok (n : Nat) : IntKind.u8.wrap ((x.toNat : Int) * 2 ^ (min n 8)) = ((shl8 x n).toNat : Int) := by
  rw [wrap_u8', shl8, UInt8.toNat_ofNat']
  rcases Nat.le_total n 8 with h | h
  · rw [Nat.min_eq_left h, show (x.toNat : Int) * 2 ^ n = ((x.toNat * 2 ^ n : Nat) : Int) from by rw [Int.natCast_mul, Int.natCast_pow]; rfl]; rfl
  · rw [Nat.min_eq_right h]
    obtain ⟨k, rfl⟩ := Nat.exists_eq_add_of_le h
    have e : x.toNat * 2 ^ (8 + k) = 256 * (x.toNat * 2 ^ k) := by rw [Nat.pow_add, show (2 : Nat) ^ 8 = 256 from rfl, Nat.mul_left_comm]
    rw [e, show (2 : Int) ^ 8 = 256 from rfl, show (2 : Nat) ^ 8 = 256 from rfl, Int.mul_emod_left, Nat.mul_mod_right]
    rfl
theorem shr8_ok (n : Nat) : (x.toNat : Int).fdiv (2 ^ (min n 8)) = ((shr8 x n).toNat : Int) := by
  have hx := x.toNat_lt
  rw [shr8, UInt8.toNat_ofNat', Int.fdiv_eq_ediv_of_nonneg _ (Int.pow_nonneg (by decide))]
  have h2 : x.toNat / 2 ^ n ≤ x.toNat := Nat.div_le_self _ _
  rw [Nat.mod_eq_of_lt (by have e : (2 : Nat) ^ 8 = 256 := rfl; omega)]
  rcases Nat.le_total n 8 with h | h
  · rw [Nat.min_eq_left h, Int.natCast_ediv, Int.natCast_pow]; rfl
  · rw [Nat.min_eq_right h]
    have e1 : x.toNat / 2 ^ n = 0 := Nat.div_eq_of_lt (Nat.lt_of_lt_of_le hx (Nat.pow_le_pow_right (by decide) h))
    rw [e1, show (2 : Int) ^ 8 = 256 from rfl]
    have e : (2 : Nat) ^ 8 = 256 := rfl
    omega
end
theorem shlI_ok (x : Int) (n : Nat) : IntKind.i64.wrap (x * 2 ^ (min n 64)) = shlI x n := by
  rw [shlI, wr]
  rcases Nat.le_total n 64 with h | h
  · rw [Nat.min_eq_left h]
  · rw [Nat.min_eq_right h]
    obtain ⟨k, rfl⟩ := Nat.exists_eq_add_of_le h
    have e : x * 2 ^ (64 + k) = 18446744073709551616 * (x * 2 ^ k) := by rw [Int.pow_add, show (2 : Int) ^ 64 = 18446744073709551616 from rfl, Int.mul_left_comm]
    rw [e]
    have e2 : ∀ m : Int, IntKind.i64.wrap (18446744073709551616 * m) = 0 := fun m => by rw [IntKind.wrap_i64]; omega
    rw [e2, show (2 : Int) ^ 64 = 18446744073709551616 from rfl, Int.mul_comm, e2]

theorem shrI_ok (x : Int) (n : Nat) : x.fdiv (2 ^ (min n 64)) = shrI x n := rfl

theorem natCast_beq (a b : Nat) : (((a : Int) == (b : Int)) : Bool) = (a == b) := by
  rw [Bool.eq_iff_iff]; simp only [beq_iff_eq]; exact Int.ofNat_inj

theorem beq64 (x y : UInt64) : (((x.toNat : Int) == (y.toNat : Int)) : Bool) = (x == y) := by
  rw [natCast_beq, Bool.eq_iff_iff]; simp [UInt64.toNat_inj]
theorem beq32 (x y : UInt32) : (((x.toNat : Int) == (y.toNat : Int)) : Bool) = (x == y) := by
  rw [natCast_beq, Bool.eq_iff_iff]; simp [UInt32.toNat_inj]
theorem beq8 (x y : UInt8) : (((x.toNat : Int) == (y.toNat : Int)) : Bool) = (x == y) := by
  rw [natCast_beq, Bool.eq_iff_iff]; simp [UInt8.toNat_inj]

theorem lt_cast (a b : Nat) : decide ((a : Int) < b) = ltN a b := by simp [ltN]
theorem le_cast (a b : Nat) : decide ((a : Int) ≤ b) = leN a b := by simp [leN]

end Go.Proofs.Ytgimohchocjgcaa.V
