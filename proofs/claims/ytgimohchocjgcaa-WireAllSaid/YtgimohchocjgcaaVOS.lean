import Derived.Test.YtgimohchocjgcaaVOR
set_option linter.unusedVariables false
set_option linter.unusedSimpArgs false
namespace Go.Proofs.Ytgimohchocjgcaa.V
def KQ.ro (e : El) : KQ := ⟨K.ro e, fun l => (show List e.T from l).length < 9223372036854775808⟩
end Go.Proofs.Ytgimohchocjgcaa.V
