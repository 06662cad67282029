import Derived.Test.YtgimohchocjgcaaVSN
set_option linter.unusedVariables false
set_option linter.unusedSimpArgs false
namespace Go.Proofs.Ytgimohchocjgcaa.V
def initH : List UInt32 := [(1779033703 : UInt32), (3144134277 : UInt32), (1013904242 : UInt32), (2773480762 : UInt32), (1359893119 : UInt32), (2600822924 : UInt32), (528734635 : UInt32), (1541459225 : UInt32)]
theorem first_is : q50 2000 = some (initH, ()) := by kernel_rfl
theorem begin_is (N : Nat) : q149 N = some (initH, ()) := rfl
def tabK : List UInt32 := match q154 2000 with | some (l, _) => l | none => []
theorem table_is (N : Nat) : q154 N = some (tabK, ()) := rfl
theorem rounds_is : q151 2000 = some (tabK, ()) := by kernel_rfl
end Go.Proofs.Ytgimohchocjgcaa.V
