import Derived.Test.YtgimohchocjgcaaVFT
import Derived.Test.YtgimohchocjgcaaVUM
import Derived.Test.YtgimohchocjgcaaVLN
import Derived.KernelRfl
import Derived.Test.YtgimohchocjgcaaVLP
set_option linter.unusedVariables false
set_option linter.unusedSimpArgs false
namespace Go.Proofs.Ytgimohchocjgcaa.V
theorem fr_eta' (x : Fr) : Fr.mk x.a0 x.a1 x.a2 x.a3 = x := rfl
theorem zero_fr : Fr.mk 0 0 0 0 = Fr.zero := rfl
def eqF (x y : Fr) : Bool := decide (x = y)
theorem eqF_self (x : Fr) : eqF x x = true := decide_eq_true rfl
theorem eqL_frF (x y : Fr) : eqL El.u64 [x.a0, x.a1, x.a2, x.a3] [y.a0, y.a1, y.a2, y.a3] = eqF x y := eqL_fr x y
theorem eqL_frl (x : Fr) (n : UInt64) : eqL El.u64 [x.a0, x.a1, x.a2, x.a3] [n, (0 : UInt64), (0 : UInt64), (0 : UInt64)] = eqF x ⟨n, 0, 0, 0⟩ := eqL_fr x ⟨n, 0, 0, 0⟩
theorem q173_is (N : Nat) (n : UInt64) : q173 N n = some ((⟨n, 0, 0, 0⟩ : Fr), ()) := rfl
class Big (N : Nat) : Prop where
  h : 2000 ≤ N
instance : Big 2000 := ⟨Nat.le_refl _⟩
end Go.Proofs.Ytgimohchocjgcaa.V
