import Derived.Test.YtgimohchocjgcaaVOP
import Derived.Test.YtgimohchocjgcaaVOQ
import Derived.Test.YtgimohchocjgcaaVTY
set_option linter.unusedVariables false
set_option linter.unusedSimpArgs false
namespace Go.Proofs.Ytgimohchocjgcaa.V
open Go.ChangeShapes Go.WideShapes Go.ChangeAt Go.RowKit
theorem oq5 : OpensQ Try.prog (KQ.any K.u8) 5 := opensQ_of opens5
theorem oq53 : OpensQ Try.prog (KQ.any K.fr) 53 := opensQ_fr (els := pd.els) 5 Try.underlying53 rfl (by kernel_rfl)
theorem oq93 : OpensQ Try.prog (KQ.vec .fr 12) 93 := opensQ_vec (els := pd.els) 5 Try.underlying93 rfl (by kernel_rfl)
end Go.Proofs.Ytgimohchocjgcaa.V
