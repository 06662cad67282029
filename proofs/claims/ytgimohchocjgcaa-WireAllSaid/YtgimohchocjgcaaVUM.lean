import Derived.Test.YtgimohchocjgcaaVTM
import Derived.Test.YtgimohchocjgcaaVUL
import Derived.KernelRfl
set_option linter.unusedVariables false
set_option linter.unusedSimpArgs false
namespace Go.Proofs.Ytgimohchocjgcaa.V
def q6 (N : Nat) (a0 : List UInt64) (m1 : List UInt64) : Option (Bool × Unit) :=
  Option.bind (q51 N) fun r0 => cond (!Prod.fst r0) (some ((false, ()))) (cond ((ltI (24 : Int) (↑(List.length a0) : Int))) (some ((true, ()))) (cond ((ltI (12 : Int) (↑(List.length m1) : Int))) (some ((true, ()))) (Option.bind (q52 N a0 m1) fun r1 => Option.bind (q53 N a0 m1) fun r2 => cond ((eqI (Prod.fst (Prod.snd r1)) (Prod.fst (Prod.snd r2)))) (Option.bind (q54 N (Prod.fst r1) (Prod.fst r2)) fun r3 => some ((Prod.fst r3, ()))) (some ((false, ()))))))
end Go.Proofs.Ytgimohchocjgcaa.V
