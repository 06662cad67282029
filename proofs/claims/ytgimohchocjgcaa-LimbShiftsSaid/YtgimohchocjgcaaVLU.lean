import Derived.Test.YtgimohchocjgcaaVLX
import Derived.Test.YtgimohchocjgcaaVLP
import Derived.Test.YtgimohchocjgcaaVLR
set_option linter.unusedVariables false
set_option linter.unusedSimpArgs false
namespace Go.Proofs.Ytgimohchocjgcaa.V
theorem lv_setL (l : List UInt64) (i : Nat) (v : UInt64) (h : i < l.length) : lv (setL l i v) + 18446744073709551616 ^ i * (l.getD i 0).toNat = lv l + 18446744073709551616 ^ i * v.toNat := by
  induction l generalizing i with
  | nil => simp at h
  | cons x l ih =>
    cases i with
    | zero => simp [setL, lv]; omega
    | succ i =>
      have := ih i (by simpa using h)
      simp only [setL, lv, List.getD_cons_succ, Nat.pow_succ]
      generalize 18446744073709551616 ^ i = p at this ⊢
      rw [Nat.mul_comm p 18446744073709551616, Nat.mul_assoc, Nat.mul_assoc]
      omega
end Go.Proofs.Ytgimohchocjgcaa.V
