import Derived.Test.YtgimohchocjgcaaVFP
import Derived.KernelRfl
set_option linter.unusedVariables false
set_option linter.unusedSimpArgs false
namespace Go.Proofs.Ytgimohchocjgcaa.V
theorem mst2 {R : Type} {x : Option R} : must true x = x := by rw [mst]
theorem bsm {α β : Type} {a : α} {f : α → Option β} : Option.bind (some a) f = f a := by rw [Option.bind_some]
end Go.Proofs.Ytgimohchocjgcaa.V
