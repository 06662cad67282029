import Derived.Test.YtgimohchocjgcaaVME
import Derived.Test.YtgimohchocjgcaaVTY
import Derived.KernelRfl
set_option linter.unusedVariables false
namespace Go.Proofs.Ytgimohchocjgcaa.V
def p163 (N : Nat) (x0 : UInt64) (y1 : UInt64) : Option (UInt64 × UInt64 × Unit) :=
  some ((hide (hide (hide (hide (shr64 x0 (UInt64.toNat (32 : UInt64))) * hide (shr64 y1 (UInt64.toNat (32 : UInt64)))) + hide (shr64 (hide (hide (hide (shr64 x0 (UInt64.toNat (32 : UInt64))) * hide (y1 &&& (4294967295 : UInt64))) + hide (shr64 (hide (hide (x0 &&& (4294967295 : UInt64)) * hide (y1 &&& (4294967295 : UInt64)))) (UInt64.toNat (32 : UInt64))))) (UInt64.toNat (32 : UInt64)))) + hide (shr64 (hide (hide (hide (hide (hide (shr64 x0 (UInt64.toNat (32 : UInt64))) * hide (y1 &&& (4294967295 : UInt64))) + hide (shr64 (hide (hide (x0 &&& (4294967295 : UInt64)) * hide (y1 &&& (4294967295 : UInt64)))) (UInt64.toNat (32 : UInt64)))) &&& (4294967295 : UInt64)) + hide (hide (x0 &&& (4294967295 : UInt64)) * hide (shr64 y1 (UInt64.toNat (32 : UInt64)))))) (UInt64.toNat (32 : UInt64)))), hide (x0 * y1), ()))
end Go.Proofs.Ytgimohchocjgcaa.V
