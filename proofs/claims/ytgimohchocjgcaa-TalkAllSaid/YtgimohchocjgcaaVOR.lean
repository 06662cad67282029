import Derived.Test.YtgimohchocjgcaaVOP
import Derived.Test.YtgimohchocjgcaaVOQ
import Derived.Test.YtgimohchocjgcaaVTY
set_option linter.unusedVariables false
set_option linter.unusedSimpArgs false
namespace Go.Proofs.Ytgimohchocjgcaa.V
open Go.ChangeShapes Go.WideShapes Go.ChangeAt Go.RowKit
theorem oq9 : OpensQ Try.prog (KQ.any K.str) 9 := opensQ_of (opens_str Try.underlying9)
end Go.Proofs.Ytgimohchocjgcaa.V
