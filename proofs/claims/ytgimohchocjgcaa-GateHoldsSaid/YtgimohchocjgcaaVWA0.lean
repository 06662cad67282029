import Derived.Test.YtgimohchocjgcaaVGA1
set_option linter.unusedVariables false
set_option linter.unusedSimpArgs false
namespace Go.Proofs.Ytgimohchocjgcaa.V
def zrow : Row := Row.mk Fr.zero Fr.zero Fr.zero Fr.zero Fr.zero Fr.zero Fr.zero Fr.zero (0 : Int) (0 : Int) (0 : Int)
end Go.Proofs.Ytgimohchocjgcaa.V
