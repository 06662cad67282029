import Derived.Test.YtgimohchocjgcaaVLP
set_option linter.unusedVariables false
set_option linter.unusedSimpArgs false
namespace Go.Proofs.Ytgimohchocjgcaa.V
theorem lv_ge {s : List UInt64} (h : Nrm s) {k : Nat} (hk : k < s.length) : 18446744073709551616 ^ k ≤ lv s := by
  rcases Nat.lt_or_ge (lv s) (18446744073709551616 ^ k) with h1 | h1
  · have := Nrm_len h h1; omega
  · exact h1
end Go.Proofs.Ytgimohchocjgcaa.V
