import Derived.Test.YtgimohchocjgcaaVTL
import Derived.KernelRfl
set_option linter.unusedVariables false
namespace Go.Proofs.Ytgimohchocjgcaa.V
def p6 (N : Nat) (a0 : List UInt64) (m1 : List UInt64) : Option (Bool × Unit) :=
  Option.bind (p51 N) fun r0 => cond (hide !Prod.fst r0) (some ((false, ()))) (cond (hide (ltI (24 : Int) (↑(List.length a0) : Int))) (some ((true, ()))) (cond (hide (ltI (12 : Int) (↑(List.length m1) : Int))) (some ((true, ()))) (Option.bind (p52 N a0 m1) fun r1 => Option.bind (p53 N a0 m1) fun r2 => cond (hide (eqI (Prod.fst (Prod.snd r1)) (Prod.fst (Prod.snd r2)))) (Option.bind (p54 N (Prod.fst r1) (Prod.fst r2)) fun r3 => some ((Prod.fst r3, ()))) (some ((false, ()))))))
def g6 (N : Nat) : Sg := sgK [(K.ro .u64), (K.ro .u64)] [K.bool] fun x => p6 N x.1 x.2.1
def p8 (N : Nat) (a0 : List UInt64) (n1 : Int) (b2 : List UInt8) : Option (Bool × Unit) :=
  Option.bind (p51 N) fun r0 => cond (hide !Prod.fst r0) (some ((false, ()))) (cond (hide (ltI (24 : Int) (↑(List.length a0) : Int))) (some ((true, ()))) (cond (hide (ltI (192 : Int) (↑(List.length b2) : Int))) (some ((true, ()))) (Option.bind (p57 N a0 n1) fun r1 => Option.bind (p58 N a0 n1) fun r2 => cond (hide (eqI (Prod.fst (Prod.snd r1)) (Prod.fst (Prod.snd r2)))) (cond (hide (eqB (Prod.fst r1) (Prod.fst r2))) (Option.bind (p59 N b2) fun r3 => Option.bind (p60 N b2) fun r4 => Option.bind (p54 N (Prod.fst r3) (Prod.fst r4)) fun r5 => some ((Prod.fst r5, ()))) (some ((false, ())))) (some ((false, ()))))))
end Go.Proofs.Ytgimohchocjgcaa.V
