import Derived.Test.YtgimohchocjgcaaVLK1
import Derived.Test.YtgimohchocjgcaaVUM
import Derived.KernelRfl
set_option linter.unusedVariables false
set_option linter.unusedSimpArgs false
namespace Go.Proofs.Ytgimohchocjgcaa.V
def c56_2 (N : Nat) (A_2 : (List UInt64) → Int → Option (Nat × Unit)) (a0 : List UInt64) (n3 : Int) : Option (Nat × Unit) :=
  cond ((ltI (0 : Int) n3)) (must (leI (0 : Int) ((wr (n3 - (1 : Int)))) && ltI ((wr (n3 - (1 : Int)))) (↑(List.length a0) : Int)) (cond ((List.getD a0 (Int.toNat ((wr (n3 - (1 : Int))))) (0 : UInt64) == (0 : UInt64))) (A_2 a0 ((wr (n3 - (1 : Int))))) (must (leI (0 : Int) n3 && leI n3 (↑(List.length a0) : Int)) (some ((List.length (List.take (Int.toNat (n3 - (0 : Int))) a0), ())))))) (must (leI (0 : Int) n3 && leI n3 (↑(List.length a0) : Int)) (some ((List.length (List.take (Int.toNat (n3 - (0 : Int))) a0), ()))))
theorem b56_2_t : b56_2 = c56_2 := by
  (repeat (apply funext; intro _))
  simp only [b56_2, c56_2, hide_eq]
def m56_2 (N : Nat) (n : Nat) (a0 : List UInt64) (n3 : Int) : Option (Nat × Unit) :=
  loopN (fun A x => c56_2 N (fun a0 n3 => A ((a0, (n3, ())), ())) x.1.1 x.1.2.1) n ((a0, (n3, ())), ())
theorem l56_2_t : l56_2 = m56_2 := by
  (repeat (apply funext; intro _))
  simp only [l56_2, m56_2, b56_2_t]
theorem m56_2_succ (N : Nat) (n : Nat) (a0 : List UInt64) (n3 : Int) : m56_2 N (n + 1) a0 n3 = c56_2 N (m56_2 N n) a0 n3 := rfl
def q56 (N : Nat) (a0 : List UInt64) : Option (Nat × Unit) :=
  m56_2 N N a0 ((↑(List.length a0) : Int))
theorem p56_t : p56 = q56 := by
  (repeat (apply funext; intro _))
  simp only [p56, q56, l56_2_t]
def c7_10 (N : Nat) (A_10 : (List UInt64) → Int → Int → (List UInt64) → (List UInt64) → Option (Bool × Unit)) (a0 : List UInt64) (k5 : Int) (i8 : Int) (p6o : List UInt64) (m7o : List UInt64) : Option (Bool × Unit) :=
  cond ((ltI i8 ((wr ((64 : Int) * (↑(List.length m7o) : Int)))))) (cond ((leI k5 i8)) (cond ((ltI ((wr (Int.tdiv ((wr (i8 - k5))) (64 : Int)))) (↑(List.length a0) : Int))) (must (leI (0 : Int) ((wr (Int.tdiv ((wr (i8 - k5))) (64 : Int)))) && ltI ((wr (Int.tdiv ((wr (i8 - k5))) (64 : Int)))) (↑(List.length a0) : Int)) (must (leI (0 : Int) ((Int.tmod ((wr (i8 - k5))) (64 : Int)))) (must (ltI ((Int.tmod ((wr (i8 - k5))) (64 : Int))) (18446744073709551616 : Int)) (must (leI (0 : Int) ((wr (Int.tdiv i8 (64 : Int)))) && ltI ((wr (Int.tdiv i8 (64 : Int)))) (↑(List.length m7o) : Int)) (must (leI (0 : Int) ((Int.tmod i8 (64 : Int)))) (must (ltI ((Int.tmod i8 (64 : Int))) (18446744073709551616 : Int)) (cond (!((shr64 (List.getD m7o (Int.toNat ((wr (Int.tdiv i8 (64 : Int))))) (0 : UInt64)) (UInt64.toNat (UInt64.ofNat (Int.toNat ((Int.tmod i8 (64 : Int))))))) &&& (1 : UInt64)) == ((shr64 (List.getD a0 (Int.toNat ((wr (Int.tdiv ((wr (i8 - k5))) (64 : Int))))) (0 : UInt64)) (UInt64.toNat (UInt64.ofNat (Int.toNat ((Int.tmod ((wr (i8 - k5))) (64 : Int))))))) &&& (1 : UInt64))) (some ((false, ()))) (A_10 a0 k5 ((wr (i8 + (1 : Int)))) p6o m7o)))))))) (must (leI (0 : Int) ((wr (Int.tdiv i8 (64 : Int)))) && ltI ((wr (Int.tdiv i8 (64 : Int)))) (↑(List.length m7o) : Int)) (must (leI (0 : Int) ((Int.tmod i8 (64 : Int)))) (must (ltI ((Int.tmod i8 (64 : Int))) (18446744073709551616 : Int)) (cond (!((shr64 (List.getD m7o (Int.toNat ((wr (Int.tdiv i8 (64 : Int))))) (0 : UInt64)) (UInt64.toNat (UInt64.ofNat (Int.toNat ((Int.tmod i8 (64 : Int))))))) &&& (1 : UInt64)) == (0 : UInt64)) (some ((false, ()))) (A_10 a0 k5 ((wr (i8 + (1 : Int)))) p6o m7o)))))) (must (leI (0 : Int) ((wr (Int.tdiv i8 (64 : Int)))) && ltI ((wr (Int.tdiv i8 (64 : Int)))) (↑(List.length m7o) : Int)) (must (leI (0 : Int) ((Int.tmod i8 (64 : Int)))) (must (ltI ((Int.tmod i8 (64 : Int))) (18446744073709551616 : Int)) (cond (!((shr64 (List.getD m7o (Int.toNat ((wr (Int.tdiv i8 (64 : Int))))) (0 : UInt64)) (UInt64.toNat (UInt64.ofNat (Int.toNat ((Int.tmod i8 (64 : Int))))))) &&& (1 : UInt64)) == (0 : UInt64)) (some ((false, ()))) (A_10 a0 k5 ((wr (i8 + (1 : Int)))) p6o m7o)))))) (Option.bind (q52 N m7o p6o) fun rr0 => cond ((eqI (Prod.fst (Prod.snd rr0)) (0 : Int))) (cond ((eqI (↑(List.length (Prod.fst rr0)) : Int) (0 : Int))) (Option.bind (q56 N a0) fun rr1 => some (((leI ((wr ((64 : Int) * (↑(Prod.fst rr1) : Int)))) ((wr ((64 : Int) * (↑(List.length m7o) : Int))))), ()))) (some ((false, ())))) (some ((false, ()))))
theorem b7_10_t : b7_10 = c7_10 := by
  (repeat (apply funext; intro _))
  simp only [b7_10, c7_10, hide_eq, p52_t, p56_t]
def m7_10 (N : Nat) (n : Nat) (a0 : List UInt64) (k5 : Int) (i8 : Int) (p6o : List UInt64) (m7o : List UInt64) : Option (Bool × Unit) :=
  loopN (fun A x => c7_10 N (fun a0 k5 i8 p6o m7o => A ((a0, (k5, ((), ((), (i8, ()))))), (p6o, (m7o, ())))) x.1.1 x.1.2.1 x.1.2.2.2.2.1 x.2.1 x.2.2.1) n ((a0, (k5, ((), ((), (i8, ()))))), (p6o, (m7o, ())))
theorem l7_10_t : l7_10 = m7_10 := by
  (repeat (apply funext; intro _))
  simp only [l7_10, m7_10, b7_10_t]
theorem m7_10_succ (N : Nat) (n : Nat) (a0 : List UInt64) (k5 : Int) (i8 : Int) (p6o : List UInt64) (m7o : List UInt64) : m7_10 N (n + 1) a0 k5 i8 p6o m7o = c7_10 N (m7_10 N n) a0 k5 i8 p6o m7o := rfl
def q7 (N : Nat) (a0 : List UInt64) (n1 : UInt8) : Option (Bool × Unit) :=
  Option.bind (q51 N) fun rr0 => cond (!Prod.fst rr0) (some ((false, ()))) (cond ((ltI (8 : Int) (↑(List.length a0) : Int))) (some ((true, ()))) (must (leI (0 : Int) ((wr ((wr (Int.tdiv ((↑(UInt8.toNat n1) : Int)) (64 : Int))) + (1 : Int)))) && (eqI ((wr ((wr (Int.tdiv ((↑(UInt8.toNat n1) : Int)) (64 : Int))) + (1 : Int)))) ((wr ((wr (Int.tdiv ((↑(UInt8.toNat n1) : Int)) (64 : Int))) + (1 : Int)))) && leN (Int.toNat ((wr ((wr (Int.tdiv ((↑(UInt8.toNat n1) : Int)) (64 : Int))) + (1 : Int)))) * (8 : Nat)) (140737488355328 : Nat))) (must (leI (0 : Int) ((Int.tmod ((↑(UInt8.toNat n1) : Int)) (64 : Int)))) (must (ltI ((Int.tmod ((↑(UInt8.toNat n1) : Int)) (64 : Int))) (18446744073709551616 : Int)) (must (leI (0 : Int) ((wr (Int.tdiv ((↑(UInt8.toNat n1) : Int)) (64 : Int)))) && ltI ((wr (Int.tdiv ((↑(UInt8.toNat n1) : Int)) (64 : Int)))) (↑(List.length (List.replicate (Int.toNat ((wr ((wr (Int.tdiv ((↑(UInt8.toNat n1) : Int)) (64 : Int))) + (1 : Int))))) (0 : UInt64))) : Int)) (Option.bind (q55 N a0 (setL (List.replicate (Int.toNat ((wr ((wr (Int.tdiv ((↑(UInt8.toNat n1) : Int)) (64 : Int))) + (1 : Int))))) (0 : UInt64)) (Int.toNat ((wr (Int.tdiv ((↑(UInt8.toNat n1) : Int)) (64 : Int))))) ((shl64 (1 : UInt64) (UInt64.toNat (UInt64.ofNat (Int.toNat ((Int.tmod ((↑(UInt8.toNat n1) : Int)) (64 : Int)))))))))) fun rr1 => m7_10 N N a0 ((↑(UInt8.toNat n1) : Int)) ((0 : Int)) (setL (List.replicate (Int.toNat ((wr ((wr (Int.tdiv ((↑(UInt8.toNat n1) : Int)) (64 : Int))) + (1 : Int))))) (0 : UInt64)) (Int.toNat ((wr (Int.tdiv ((↑(UInt8.toNat n1) : Int)) (64 : Int))))) ((shl64 (1 : UInt64) (UInt64.toNat (UInt64.ofNat (Int.toNat ((Int.tmod ((↑(UInt8.toNat n1) : Int)) (64 : Int))))))))) (Prod.fst rr1)))))))
theorem p7_t : p7 = q7 := by
  (repeat (apply funext; intro _))
  simp only [p7, q7, hide_eq, l7_10_t, p51_t, p55_t]
end Go.Proofs.Ytgimohchocjgcaa.V
