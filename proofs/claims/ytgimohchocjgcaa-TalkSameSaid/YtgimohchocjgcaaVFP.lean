import Derived.Test.YtgimohchocjgcaaVFO
set_option linter.unusedVariables false
set_option linter.unusedSimpArgs false
namespace Go.Proofs.Ytgimohchocjgcaa.V
def mL : List UInt64 := [18446744069414584321, 6034159408538082302, 3691218898639771653, 8353516859464449352]
theorem lv_mL : lv mL = RR := by decide +kernel
theorem mod_lt_RR (x : Nat) : x % RR < RR := Nat.mod_lt _ (by decide)
end Go.Proofs.Ytgimohchocjgcaa.V
