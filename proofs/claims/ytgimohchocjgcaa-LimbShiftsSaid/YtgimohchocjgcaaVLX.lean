import Derived.Test.YtgimohchocjgcaaVUM
import Derived.Test.YtgimohchocjgcaaVLN
import Derived.KernelRfl
set_option linter.unusedVariables false
set_option linter.unusedSimpArgs false
namespace Go.Proofs.Ytgimohchocjgcaa.V
theorem begun1 : q51 2000 = some (true, ()) := by kernel_rfl
end Go.Proofs.Ytgimohchocjgcaa.V
