import Derived.Test.YtgimohchocjgcaaVOP
import Derived.Test.YtgimohchocjgcaaVOQ
import Derived.Test.YtgimohchocjgcaaVTY
set_option linter.unusedVariables false
set_option linter.unusedSimpArgs false
namespace Go.Proofs.Ytgimohchocjgcaa.V
open Go.ChangeShapes Go.WideShapes Go.ChangeAt Go.RowKit
theorem oq3 : OpensQ Try.prog (KQ.any K.int) 3 := opensQ_of opens3
theorem oq80 : OpensQ Try.prog (KQ.any (K.agg [.int, .int, .ro .row, .ro .pair] rfl)) 80 := opensQ_cells (els := pd.els) rfl 6 Try.underlying80 rfl (by kernel_rfl)
end Go.Proofs.Ytgimohchocjgcaa.V
