import Derived.Test.YtgimohchocjgcaaVOP
import Derived.Test.YtgimohchocjgcaaVOQ
import Derived.Test.YtgimohchocjgcaaVTY
set_option linter.unusedVariables false
set_option linter.unusedSimpArgs false
namespace Go.Proofs.Ytgimohchocjgcaa.V
open Go.ChangeShapes Go.WideShapes Go.ChangeAt Go.RowKit
theorem oq37 : OpensQ Try.prog (KQ.any (K.ro .u64)) 37 := opensQ_of opens37
theorem oq5 : OpensQ Try.prog (KQ.any K.u8) 5 := opensQ_of opens5
end Go.Proofs.Ytgimohchocjgcaa.V
