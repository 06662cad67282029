import Derived.Test.YtgimohchocjgcaaVUL
import Derived.Test.YtgimohchocjgcaaVLM
set_option linter.unusedVariables false
set_option linter.unusedSimpArgs false
namespace Go.Proofs.Ytgimohchocjgcaa.V
theorem kAdd_eq {x y c : UInt64} (h : c.toNat ≤ 1) : ∃ s d : UInt64, kAdd x y c = some (s, d) ∧ d.toNat ≤ 1 ∧ s.toNat + 18446744073709551616 * d.toNat = x.toNat + y.toNat + c.toNat := by
  have hx := x.toNat_lt
  have hy := y.toNat_lt
  refine ⟨addS x y c, addC x y c, ?_, ?_, ?_⟩
  · unfold kAdd; rw [leN_true h, cond_true]
  · rw [addC, ofN _ (by omega)]; omega
  · rw [addC, addS, ofN _ (by omega), ofN _ (by omega)]; omega
theorem kSub_eq {x y c : UInt64} (h : c.toNat ≤ 1) : ∃ s d : UInt64, kSub x y c = some (s, d) ∧ d.toNat ≤ 1 ∧ s.toNat + y.toNat + c.toNat = x.toNat + 18446744073709551616 * d.toNat := by
  have hx := x.toNat_lt
  have hy := y.toNat_lt
  refine ⟨subS x y c, subC x y c, ?_, ?_, ?_⟩
  · unfold kSub; rw [leN_true h, cond_true]
  · unfold subC
    cases ltN x.toNat (y.toNat + c.toNat) <;> simp
  · rw [subS, ofN _ (Nat.mod_lt _ (by decide))]
    unfold subC
    by_cases h1 : x.toNat < y.toNat + c.toNat
    · rw [ltN_true h1]; simp; omega
    · rw [ltN_false h1]; simp; omega
end Go.Proofs.Ytgimohchocjgcaa.V
