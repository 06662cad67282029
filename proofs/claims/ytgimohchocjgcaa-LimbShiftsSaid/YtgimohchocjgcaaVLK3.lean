import Derived.Test.YtgimohchocjgcaaVLK2
import Derived.Test.YtgimohchocjgcaaVLU
set_option linter.unusedVariables false
set_option linter.unusedSimpArgs false
namespace Go.Proofs.Ytgimohchocjgcaa.V
theorem bs {α β : Type} {a : α} {f : α → Option β} : Option.bind (some a) f = f a := by rw [Option.bind_some]
theorem mt {R : Type} {x : Option R} : must true x = x := rfl
end Go.Proofs.Ytgimohchocjgcaa.V
