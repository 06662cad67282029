import Derived.Test.YtgimohchocjgcaaVWA2
set_option linter.unusedVariables false
set_option linter.unusedSimpArgs false
namespace Go.Proofs.Ytgimohchocjgcaa.V
def bRow : Row := Row.mk Fr.zero Fr.zero Fr.zero Fr.zero Fr.zero Fr.zero Fr.zero Fr.zero (0 : Int) (-1 : Int) (1 : Int)
theorem nm10 : nm 1 0 = ⟨1, 0, 0, 0⟩ := by
  refine sc_eq (nm_sc _ _) sc_one (Cg.of_eq ?_)
  unfold nm
  rw [show fmul (frN (7 ^ (0 / 2 ^ 1) % RR)) (frN (rootN 1 ^ (0 % 2 ^ 1) % RR)) = frN ((7 ^ (0 / 2 ^ 1) % RR) * (rootN 1 ^ (0 % 2 ^ 1) % RR) % RR) by unfold fmul; rw [fv_mod, fv_mod], fv_mod, fv_one, show (0 : Nat) % 2 ^ 1 = 0 from rfl, show (0 : Nat) / 2 ^ 1 = 0 from rfl, Nat.pow_zero, Nat.pow_zero]
  decide +kernel
end Go.Proofs.Ytgimohchocjgcaa.V
