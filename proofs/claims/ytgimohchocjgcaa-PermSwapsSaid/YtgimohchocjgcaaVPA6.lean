import Derived.Test.YtgimohchocjgcaaVPA5
set_option linter.unusedVariables false
set_option linter.unusedSimpArgs false
namespace Go.Proofs.Ytgimohchocjgcaa.V
theorem fmul_zero {x y : Fr} (hx : Sc x) (hy : Sc y) : fv (fmul x y) = 0 ↔ fv x = 0 ∨ fv y = 0 := by
  unfold fmul
  rw [fv_mod]
  constructor
  · intro h
    by_cases h1 : fv x = 0
    · exact .inl h1
    · by_cases h2 : fv y = 0
      · exact .inr h2
      · exact absurd h (mul_ne (Nat.pos_of_ne_zero h1) hx (Nat.pos_of_ne_zero h2) hy)
  · rintro (h | h)
    · rw [h, Nat.zero_mul, Nat.zero_mod]
    · rw [h, Nat.mul_zero, Nat.zero_mod]
section
variable {L nn : Nat} {w0 w1 w2 s0 s1 s2 : List Fr} {b g : Fr}
end
end Go.Proofs.Ytgimohchocjgcaa.V
