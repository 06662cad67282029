import Derived.Test.YtgimohchocjgcaaVME
import Derived.Test.YtgimohchocjgcaaVTY
import Derived.KernelRfl
namespace Go.Proofs.Ytgimohchocjgcaa.V
theorem e164_ok : SgOK Try.prog pd.els 164 (sg3 kAdd) := add64_ok Try.func164 (by kernel_rfl) (by kernel_rfl) (by kernel_rfl) (by kernel_rfl)
theorem e159_ok : SgOK Try.prog pd.els 159 (sg3 kSub) := sub64_ok Try.func159 (by kernel_rfl) (by kernel_rfl) (by kernel_rfl) (by kernel_rfl)
end Go.Proofs.Ytgimohchocjgcaa.V
