import Derived.Test.YtgimohchocjgcaaVTL
import Derived.KernelRfl
set_option linter.unusedVariables false
set_option linter.unusedSimpArgs false
namespace Go.Proofs.Ytgimohchocjgcaa.V
def q163 (N : Nat) (x0 : UInt64) (y1 : UInt64) : Option (UInt64 × UInt64 × Unit) :=
  some ((((((shr64 x0 (UInt64.toNat (32 : UInt64))) * (shr64 y1 (UInt64.toNat (32 : UInt64)))) + (shr64 ((((shr64 x0 (UInt64.toNat (32 : UInt64))) * (y1 &&& (4294967295 : UInt64))) + (shr64 (((x0 &&& (4294967295 : UInt64)) * (y1 &&& (4294967295 : UInt64)))) (UInt64.toNat (32 : UInt64))))) (UInt64.toNat (32 : UInt64)))) + (shr64 ((((((shr64 x0 (UInt64.toNat (32 : UInt64))) * (y1 &&& (4294967295 : UInt64))) + (shr64 (((x0 &&& (4294967295 : UInt64)) * (y1 &&& (4294967295 : UInt64)))) (UInt64.toNat (32 : UInt64)))) &&& (4294967295 : UInt64)) + ((x0 &&& (4294967295 : UInt64)) * (shr64 y1 (UInt64.toNat (32 : UInt64)))))) (UInt64.toNat (32 : UInt64)))), (x0 * y1), ()))
end Go.Proofs.Ytgimohchocjgcaa.V
