/- What may be handed over, by the types of this program. -/
import Derived.Test.YtgimohchocjgcaaVOP
import Derived.Test.YtgimohchocjgcaaVOQ
import Derived.Test.YtgimohchocjgcaaVTY
set_option linter.unusedVariables false
set_option linter.unusedSimpArgs false
namespace Go.Proofs.Ytgimohchocjgcaa.V
open Go.ChangeShapes Go.WideShapes Go.ChangeAt Go.RowKit

theorem oq37 : OpensQ Try.prog (KQ.any (K.ro .u64)) 37 := opensQ_of opens37
theorem oq24 : OpensQ Try.prog (KQ.any (K.ro .u8)) 24 := opensQ_of opens24
theorem oq3 : OpensQ Try.prog (KQ.any K.int) 3 := opensQ_of opens3
theorem oq5 : OpensQ Try.prog (KQ.any K.u8) 5 := opensQ_of opens5
theorem oq42 : OpensQ Try.prog (KQ.any K.u64) 42 := opensQ_of opens42
theorem oq4 : OpensQ Try.prog (KQ.any K.bool) 4 := opensQ_of (opens_bool Try.underlying4)
theorem oq9 : OpensQ Try.prog (KQ.any K.str) 9 := opensQ_of (opens_str Try.underlying9)
theorem oq53 : OpensQ Try.prog (KQ.any K.fr) 53 := opensQ_fr (els := pd.els) 5 Try.underlying53 rfl (by kernel_rfl)
theorem oq28 : OpensQ Try.prog (KQ.vec .u32 8) 28 := opensQ_vec (els := pd.els) 5 Try.underlying28 rfl (by kernel_rfl)
theorem oq29 : OpensQ Try.prog (KQ.vec .u8 64) 29 := opensQ_vec (els := pd.els) 5 Try.underlying29 rfl (by kernel_rfl)
theorem oq106 : OpensQ Try.prog (KQ.vec .fr 8) 106 := opensQ_vec (els := pd.els) 5 Try.underlying106 rfl (by kernel_rfl)
theorem oq109 : OpensQ Try.prog (KQ.vec .fr 5) 109 := opensQ_vec (els := pd.els) 5 Try.underlying109 rfl (by kernel_rfl)
theorem oq93 : OpensQ Try.prog (KQ.vec .fr 12) 93 := opensQ_vec (els := pd.els) 5 Try.underlying93 rfl (by kernel_rfl)
theorem oq70 : OpensQ Try.prog (KQ.any (K.agg [.ro .fr, .ro .fr, .ro .fr] rfl)) 70 := opensQ_cells (els := pd.els) rfl 5 Try.underlying70 rfl (by kernel_rfl)
theorem oq80 : OpensQ Try.prog (KQ.any (K.agg [.int, .int, .ro .row, .ro .pair] rfl)) 80 := opensQ_cells (els := pd.els) rfl 6 Try.underlying80 rfl (by kernel_rfl)
theorem oq112 : OpensQ Try.prog (KQ.any (K.st .step)) 112 := opensQ_st (els := pd.els) 6 Try.underlying112 rfl (by kernel_rfl)
theorem oq81 : OpensQ Try.prog (KQ.any (K.ro .step)) 81 := opensQ_of (opens_list (els := pd.els) 7 Try.underlying81 (by kernel_rfl))

end Go.Proofs.Ytgimohchocjgcaa.V
