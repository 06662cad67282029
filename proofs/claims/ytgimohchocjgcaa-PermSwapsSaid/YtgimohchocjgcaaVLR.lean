import Derived.Test.YtgimohchocjgcaaVLP
set_option linter.unusedVariables false
set_option linter.unusedSimpArgs false
namespace Go.Proofs.Ytgimohchocjgcaa.V
theorem q162_eq {N : Nat} {a : List UInt64} {i : Nat} (hi : i < 1000000) : ∃ x : UInt64, q162 N a (i : Int) = some (x, ()) ∧ x.toNat = lv a / 2 ^ i % 2 := by
  unfold q162
  have e1 : wr (Int.tdiv (i : Int) 64) = ((i / 64 : Nat) : Int) := by
    rw [show (64 : Int) = ((64 : Nat) : Int) from rfl, tdiv_nat, wr_id (by omega) (by omega)]
  have e2 : Int.tmod (i : Int) 64 = ((i % 64 : Nat) : Int) := rfl
  rw [e1, e2, leI_nat]
  by_cases h : a.length ≤ i / 64
  · rw [leN_true h, cond_true]
    refine ⟨0, rfl, ?_⟩
    rw [bit_nat, lv_bit, getD_zero h]
    simp
  · rw [leN_false h, cond_false, leI_zero, ltI_nat, ltN_true (by omega), must_tt, must_t (leI_zero _), must_t (ltI_true (by omega))]
    simp only [Int.toNat_natCast]
    refine ⟨_, rfl, ?_⟩
    rw [and_one, shr64_nat, UInt64.toNat_ofNat', Nat.mod_eq_of_lt (show i % 64 < 2 ^ 64 by omega), bit_nat, bit_nat, lv_bit]
end Go.Proofs.Ytgimohchocjgcaa.V
