import Derived.Test.YtgimohchocjgcaaVGA1
import Derived.Test.YtgimohchocjgcaaVFV
import Derived.KernelRfl
import Derived.Test.YtgimohchocjgcaaVUM
import Derived.Test.YtgimohchocjgcaaVLN
import Derived.Test.YtgimohchocjgcaaVLP
import Derived.Test.YtgimohchocjgcaaVLR
set_option linter.unusedVariables false
set_option linter.unusedSimpArgs false
namespace Go.Proofs.Ytgimohchocjgcaa.V
def q190 (N : Nat) (a0 : Fr) (b1 : Fr) : Option (Fr × Unit) :=
  Option.bind (q94 N (a0) (b1)) fun r0 => some (((Prod.fst r0), ()))
theorem p190_t : p190 = q190 := by
  (repeat (apply funext; intro _))
  simp only [p190, q190, p94_t, fr_eta', eqL_frF, eqL_frl, zero_fr]
end Go.Proofs.Ytgimohchocjgcaa.V
