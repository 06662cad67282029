import Derived.Test.YtgimohchocjgcaaVFM
import Derived.Test.YtgimohchocjgcaaVUM
import Derived.KernelRfl
set_option linter.unusedVariables false
set_option linter.unusedSimpArgs false
namespace Go.Proofs.Ytgimohchocjgcaa.V
def q169 (N : Nat) : Option (Fr × Unit) :=
  some (({ a0 := (18446744069414584321 : UInt64), a1 := (6034159408538082302 : UInt64), a2 := (3691218898639771653 : UInt64), a3 := (8353516859464449352 : UInt64) }, ()))
theorem p169_t : p169 = q169 := by
  (repeat (apply funext; intro _))
  simp only [p169, q169, ]
def q74 (N : Nat) : Option (List UInt64 × Unit) :=
  Option.bind (q169 N) fun r0 => some ((List.take (Int.toNat ((↑(4 : Nat) : Int) - (0 : Int))) [Fr.a0 (Prod.fst r0), Fr.a1 (Prod.fst r0), Fr.a2 (Prod.fst r0), Fr.a3 (Prod.fst r0)], ()))
theorem p74_t : p74 = q74 := by
  (repeat (apply funext; intro _))
  simp only [p74, q74, p169_t]
def q203 (N : Nat) (l0 : List UInt64) : Option (Fr × Unit) :=
  must (Nat.beq (List.length (splice [(0 : UInt64), (0 : UInt64), (0 : UInt64), (0 : UInt64)] (Int.toNat (0 : Int)) (List.take (Int.toNat ((↑(4 : Nat) : Int) - (0 : Int))) l0))) (4 : Nat)) (Option.bind (Fr.of? (splice [(0 : UInt64), (0 : UInt64), (0 : UInt64), (0 : UInt64)] (Int.toNat (0 : Int)) (List.take (Int.toNat ((↑(4 : Nat) : Int) - (0 : Int))) l0))) fun r0 => some ((r0, ())))
theorem p203_t : p203 = q203 := by
  (repeat (apply funext; intro _))
  simp only [p203, q203, ]
def q126 (N : Nat) (b0 : List UInt8) : Option (Fr × Unit) :=
  Option.bind (q59 N b0) fun r0 => Option.bind (q74 N) fun r1 => Option.bind (q52 N (Prod.fst r0) (List.take (List.length (Prod.fst r1)) (List.drop (0 : Nat) (Prod.fst r1)))) fun r2 => Option.bind (q203 N (Prod.fst r2)) fun r3 => some (({ a0 := Fr.a0 (Prod.fst r3), a1 := Fr.a1 (Prod.fst r3), a2 := Fr.a2 (Prod.fst r3), a3 := Fr.a3 (Prod.fst r3) }, ()))
theorem p126_t : p126 = q126 := by
  (repeat (apply funext; intro _))
  simp only [p126, q126, p203_t, p52_t, p59_t, p74_t]
end Go.Proofs.Ytgimohchocjgcaa.V
