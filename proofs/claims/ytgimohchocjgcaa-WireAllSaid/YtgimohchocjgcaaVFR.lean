import Derived.Test.YtgimohchocjgcaaVFQ
import Derived.KernelRfl
set_option linter.unusedVariables false
set_option linter.unusedSimpArgs false
namespace Go.Proofs.Ytgimohchocjgcaa.V
theorem i4 : (4 : Int) = ((4 : Nat) : Int) := rfl
end Go.Proofs.Ytgimohchocjgcaa.V
