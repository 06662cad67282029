import Derived.Test.YtgimohchocjgcaaVPA6
set_option linter.unusedVariables false
set_option linter.unusedSimpArgs false
namespace Go.Proofs.Ytgimohchocjgcaa.V
section
variable {N : Nat} [Big N] {L nn : Nat} {w0 w1 w2 s0 s1 s2 : List Fr} {b g : Fr}
structure Gd (w0 w1 w2 s0 s1 s2 : List Fr) (b g : Fr) : Prop where
  a0 : ∀ p, Sc (w0.getD p Fr.zero)
  a1 : ∀ p, Sc (w1.getD p Fr.zero)
  a2 : ∀ p, Sc (w2.getD p Fr.zero)
  c0 : ∀ p, Sc (s0.getD p Fr.zero)
  c1 : ∀ p, Sc (s1.getD p Fr.zero)
  c2 : ∀ p, Sc (s2.getD p Fr.zero)
  b : Sc b
  g : Sc g
theorem cg3 (x y z : Fr) : Cg (fv (fmul (fmul (fmul ⟨1, 0, 0, 0⟩ x) y) z)) (fv x * fv y * fv z) := by
  refine (fv_mul _ _).trans (((fv_mul _ _).trans (((fv_mul _ _).trans ?_).mul Cg.rfl')).mul Cg.rfl')
  rw [fv_one, Nat.one_mul]
  exact Cg.rfl'
theorem rowU_zero (p : Nat) : fv (rowU w0 w1 w2 s0 s1 s2 b g p) = 0 ↔ (fv (unF b g w0 s0 p) = 0 ∨ fv (unF b g w1 s1 p) = 0) ∨ fv (unF b g w2 s2 p) = 0 := by
  have u : ∀ w s, Sc (unF b g w s p) := fun w s => tmF_sc _ _ _ _
  unfold rowU
  rw [fmul_zero (sc_mul _ _) (u _ _), fmul_zero (sc_mul _ _) (u _ _), fmul_zero sc_one (u _ _), fv_one]
  simp
end
end Go.Proofs.Ytgimohchocjgcaa.V
