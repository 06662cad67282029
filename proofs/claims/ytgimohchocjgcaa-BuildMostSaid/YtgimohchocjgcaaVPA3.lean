import Derived.Test.YtgimohchocjgcaaVFM
import Derived.KernelRfl
import Derived.Test.YtgimohchocjgcaaVME
import Derived.Test.YtgimohchocjgcaaVBP2
set_option linter.unusedVariables false
set_option linter.unusedSimpArgs false
namespace Go.Proofs.Ytgimohchocjgcaa.V
section
def zpw (N : Nat) (A_2 : (List UInt64) -> Int -> Option (List UInt64 × Unit)) (a0 : List UInt64) (n3 : Int) : Option (List UInt64 × Unit) :=
  cond ((ltI (0 : Int) n3)) (must (leI (0 : Int) ((wr (n3 - (1 : Int)))) && ltI ((wr (n3 - (1 : Int)))) (↑a0.length : Int)) (cond ((List.getD a0 (Int.toNat ((wr (n3 - (1 : Int))))) (0 : UInt64) == (0 : UInt64))) (A_2 a0 ((wr (n3 - (1 : Int))))) (must (leI (0 : Int) n3 && leI n3 (↑a0.length : Int)) (must (leN (((0 : Nat) + List.length (List.take (Int.toNat (n3 - (0 : Int))) a0)) * (8 : Nat)) (140737488355328 : Nat)) (some ((List.take (Int.toNat (n3 - (0 : Int))) a0, ()))))))) (must (leI (0 : Int) n3 && leI n3 (↑a0.length : Int)) (must (leN (((0 : Nat) + List.length (List.take (Int.toNat (n3 - (0 : Int))) a0)) * (8 : Nat)) (140737488355328 : Nat)) (some ((List.take (Int.toNat (n3 - (0 : Int))) a0, ())))))
def zpx (N n : Nat) (a0 : List UInt64) (n3 : Int) : Option (List UInt64 × Unit) :=
  zap (fun A x => zpw N (fun a0 n3 => A ((a0, (n3, ())), ())) x.1.1 x.1.2.1) n ((a0, (n3, ())), ())
def q158 (N : Nat) (a0 : List UInt64) : Option (List UInt64 × Unit) :=
  zpx N N a0 ((↑a0.length : Int))
def q160 (N : Nat) (a0 : List UInt64) (i1 : Int) : Option (UInt64 × Unit) :=
  cond ((ltI i1 (↑a0.length : Int))) (must (leI (0 : Int) i1 && ltI i1 (↑a0.length : Int)) (some ((List.getD a0 i1.toNat (0 : UInt64), ())))) (some (((0 : UInt64), ())))
theorem zpy : p160 = q160 := by
  (repeat (apply funext; intro _))
  simp only [p160, q160, hide_eq]
def zf3 (N : Nat) (A_1000 : (List UInt64) -> (List UInt64) -> Int -> Option (Int × Unit)) (a0 b1 : List UInt64) (i5 : Int) : Option (Int × Unit) :=
  cond ((ltI ((wr (i5 - (1 : Int)))) (0 : Int))) (some (((0 : Int), ()))) (Option.bind (q160 N a0 ((wr (i5 - (1 : Int))))) fun r0 => Option.bind (q160 N b1 ((wr (i5 - (1 : Int))))) fun r1 => cond ((ltN r0.1.toNat r1.1.toNat)) (some (((-1 : Int), ()))) (cond ((ltN r1.1.toNat r0.1.toNat)) (some (((1 : Int), ()))) (A_1000 a0 b1 ((wr (i5 - (1 : Int)))))))
theorem zjA : zf0 = zf3 := by
  (repeat (apply funext; intro _))
  simp only [zf0, zf3, hide_eq, zpy]
def zf4 (N n : Nat) (a0 b1 : List UInt64) (i5 : Int) : Option (Int × Unit) :=
  zap (fun A x => zf3 N (fun a0 b1 i5 => A ((a0, (b1, (i5, ()))), ())) x.1.1 x.1.2.1 x.1.2.2.1) n ((a0, (b1, (i5, ()))), ())
theorem zjB : zf1 = zf4 := by
  (repeat (apply funext; intro _))
  simp only [zf1, zf4, zjA]
def q61 (N : Nat) (a0 b1 : List UInt64) : Option (Int × Unit) :=
  zf4 N N a0 b1 (mxI (↑a0.length : Int) (↑b1.length : Int))
theorem zqC : p61 = q61 := by
  (repeat (apply funext; intro _))
  simp only [p61, q61, zjB]
def zqD (N : Nat) (A_5 : (List UInt64) -> (List UInt64) -> Int -> UInt64 -> Int -> Int -> (List UInt64) -> Option (List UInt64 × Unit)) (a0 b1 : List UInt64) (n5 : Int) (carry7 : UInt64) (t17 t18 : Int) (out6o : List UInt64) : Option (List UInt64 × Unit) :=
  cond ((ltI t18 t17)) (Option.bind (q160 N a0 t18) fun r1 => Option.bind (q160 N b1 t18) fun r2 => Option.bind (kAdd r1.1 r2.1 carry7) fun r3 => must (leI (0 : Int) t18 && ltI t18 (↑out6o.length : Int)) (A_5 a0 b1 n5 r3.2 t17 ((wr (t18 + (1 : Int)))) (setL out6o t18.toNat r3.1))) (must (leI (0 : Int) n5 && ltI n5 (↑out6o.length : Int)) (Option.bind (q158 N (setL out6o n5.toNat carry7)) fun r0 => some ((Prod.fst r0, ()))))
def zqE (N n : Nat) (a0 b1 : List UInt64) (n5 : Int) (carry7 : UInt64) (t17 t18 : Int) (out6o : List UInt64) : Option (List UInt64 × Unit) :=
  zap (fun A x => zqD N (fun a0 b1 n5 carry7 t17 t18 out6o => A ((a0, (b1, (n5, ((), (carry7, (t17, (t18, ()))))))), (out6o, ()))) x.1.1 x.1.2.1 x.1.2.2.1 x.1.2.2.2.2.1 x.1.2.2.2.2.2.1 x.1.2.2.2.2.2.2.1 x.2.1) n ((a0, (b1, (n5, ((), (carry7, (t17, (t18, ()))))))), (out6o, ()))
def q62 (N : Nat) (a0 b1 : List UInt64) : Option (List UInt64 × Unit) :=
  must (leI (0 : Int) ((wr (mxI (↑a0.length : Int) (↑b1.length : Int) + (1 : Int)))) && (eqI ((wr (mxI (↑a0.length : Int) (↑b1.length : Int) + (1 : Int)))) ((wr (mxI (↑a0.length : Int) (↑b1.length : Int) + (1 : Int)))) && leN (Int.toNat ((wr (mxI (↑a0.length : Int) (↑b1.length : Int) + (1 : Int)))) * (8 : Nat)) (140737488355328 : Nat))) (zqE N N a0 b1 (mxI (↑a0.length : Int) (↑b1.length : Int)) (0 : UInt64) (mxI (↑a0.length : Int) (↑b1.length : Int)) (0 : Int) (List.replicate (Int.toNat ((wr (mxI (↑a0.length : Int) (↑b1.length : Int) + (1 : Int))))) (0 : UInt64)))
def q163 (N : Nat) (x0 y1 : UInt64) : Option (UInt64 × UInt64 × Unit) :=
  some ((((((zaW x0 (UInt64.toNat (32 : UInt64))) * (zaW y1 (UInt64.toNat (32 : UInt64)))) + (zaW ((((zaW x0 (UInt64.toNat (32 : UInt64))) * (y1 &&& (4294967295 : UInt64))) + (zaW (((x0 &&& (4294967295 : UInt64)) * (y1 &&& (4294967295 : UInt64)))) (UInt64.toNat (32 : UInt64))))) (UInt64.toNat (32 : UInt64)))) + (zaW ((((((zaW x0 (UInt64.toNat (32 : UInt64))) * (y1 &&& (4294967295 : UInt64))) + (zaW (((x0 &&& (4294967295 : UInt64)) * (y1 &&& (4294967295 : UInt64)))) (UInt64.toNat (32 : UInt64)))) &&& (4294967295 : UInt64)) + ((x0 &&& (4294967295 : UInt64)) * (zaW y1 (UInt64.toNat (32 : UInt64)))))) (UInt64.toNat (32 : UInt64)))), (x0 * y1), ()))
def zqF (N : Nat) (A_3 : (List UInt64) -> (List UInt64) -> Int -> Int -> (List UInt64) -> Option (List UInt64 × Unit)) (A_7 : (List UInt64) -> Int -> UInt64 -> UInt64 -> (List UInt64) -> Int -> Int -> (List UInt64) -> Int -> Int -> (List UInt64) -> Option (List UInt64 × Unit)) (b1 : List UInt64) (i6 : Int) (x7 over8 : UInt64) (t21 : List UInt64) (t22 t23 : Int) (t28 : List UInt64) (t29 t30 : Int) (out5o : List UInt64) : Option (List UInt64 × Unit) :=
  cond ((ltI t30 t29)) (must (leI (0 : Int) t30 && ltI t30 (↑t28.length : Int)) (Option.bind (q163 N x7 (List.getD t28 t30.toNat (0 : UInt64))) fun r0 => must (leI (0 : Int) ((wr (i6 + t30))) && ltI ((wr (i6 + t30))) (↑out5o.length : Int)) (Option.bind (kAdd (r0.2.1) (List.getD out5o (Int.toNat ((wr (i6 + t30)))) (0 : UInt64)) (0 : UInt64)) fun r1 => Option.bind (kAdd r1.1 over8 (0 : UInt64)) fun r2 => must (leI (0 : Int) ((wr (i6 + t30))) && ltI ((wr (i6 + t30))) (↑out5o.length : Int)) (A_7 b1 i6 x7 (((Prod.fst r0 + Prod.snd r1) + Prod.snd r2)) t21 t22 t23 t28 t29 ((wr (t30 + (1 : Int)))) (setL out5o (Int.toNat ((wr (i6 + t30)))) r2.1))))) (must (leI (0 : Int) ((wr (i6 + (↑b1.length : Int)))) && ltI ((wr (i6 + (↑b1.length : Int)))) (↑out5o.length : Int)) (A_3 b1 t21 t22 ((wr (t23 + (1 : Int)))) (setL out5o (Int.toNat ((wr (i6 + (↑b1.length : Int))))) over8)))
def zqG (N : Nat) (A_3 : (List UInt64) -> (List UInt64) -> Int -> Int -> (List UInt64) -> Option (List UInt64 × Unit)) (n : Nat) (b1 : List UInt64) (i6 : Int) (x7 over8 : UInt64) (t21 : List UInt64) (t22 t23 : Int) (t28 : List UInt64) (t29 t30 : Int) (out5o : List UInt64) : Option (List UInt64 × Unit) :=
  zap (fun A x => zqF N A_3 (fun b1 i6 x7 over8 t21 t22 t23 t28 t29 t30 out5o => A ((b1, ((), (i6, (x7, (over8, (t21, (t22, (t23, (t28, (t29, (t30, ()))))))))))), (out5o, ()))) x.1.1 x.1.2.2.1 x.1.2.2.2.1 x.1.2.2.2.2.1 x.1.2.2.2.2.2.1 x.1.2.2.2.2.2.2.1 x.1.2.2.2.2.2.2.2.1 x.1.2.2.2.2.2.2.2.2.1 x.1.2.2.2.2.2.2.2.2.2.1 x.1.2.2.2.2.2.2.2.2.2.2.1 x.2.1) n ((b1, ((), (i6, (x7, (over8, (t21, (t22, (t23, (t28, (t29, (t30, ()))))))))))), (out5o, ()))
def zqH (N : Nat) (A_3 : (List UInt64) -> (List UInt64) -> Int -> Int -> (List UInt64) -> Option (List UInt64 × Unit)) (b1 t21 : List UInt64) (t22 t23 : Int) (out5o : List UInt64) : Option (List UInt64 × Unit) :=
  cond ((ltI t23 t22)) (must (leI (0 : Int) t23 && ltI t23 (↑t21.length : Int)) (zqG N A_3 N b1 t23 (List.getD t21 t23.toNat (0 : UInt64)) (0 : UInt64) t21 t22 t23 b1 ((↑b1.length : Int)) (0 : Int) out5o)) (Option.bind (q158 N out5o) fun r0 => some ((Prod.fst r0, ())))
def zqI (N n : Nat) (b1 t21 : List UInt64) (t22 t23 : Int) (out5o : List UInt64) : Option (List UInt64 × Unit) :=
  zap (fun A x => zqH N (fun b1 t21 t22 t23 out5o => A ((b1, ((), (t21, (t22, (t23, ()))))), (out5o, ()))) x.1.1 x.1.2.2.1 x.1.2.2.2.1 x.1.2.2.2.2.1 x.2.1) n ((b1, ((), (t21, (t22, (t23, ()))))), (out5o, ()))
def q55 (N : Nat) (a0 b1 : List UInt64) : Option (List UInt64 × Unit) :=
  must (leI (0 : Int) ((wr ((↑a0.length : Int) + (↑b1.length : Int)))) && (eqI ((wr ((↑a0.length : Int) + (↑b1.length : Int)))) ((wr ((↑a0.length : Int) + (↑b1.length : Int)))) && leN (Int.toNat ((wr ((↑a0.length : Int) + (↑b1.length : Int)))) * (8 : Nat)) (140737488355328 : Nat))) (zqI N N b1 a0 ((↑a0.length : Int)) (0 : Int) (List.replicate (Int.toNat ((wr ((↑a0.length : Int) + (↑b1.length : Int))))) (0 : UInt64)))
def zpz (N : Nat) (A_1000 : (List UInt64) -> Int -> (List UInt64) -> (List UInt64) -> Option (List UInt64 × Int × Unit)) (A_18 : (List UInt64) -> Int -> UInt64 -> Int -> Int -> (List UInt64) -> (List UInt64) -> Option (List UInt64 × Int × Unit)) (a0 : List UInt64) (i7 : Int) (borrow10 : UInt64) (t66 t67 : Int) (m1o r6o : List UInt64) : Option (List UInt64 × Int × Unit) :=
  cond ((ltI t67 t66)) (must (leI (0 : Int) t67 && ltI t67 (↑r6o.length : Int)) (Option.bind (q160 N m1o t67) fun r0 => Option.bind (kSub (List.getD r6o t67.toNat (0 : UInt64)) r0.1 borrow10) fun r1 => must (leI (0 : Int) t67 && ltI t67 (↑r6o.length : Int)) (A_18 a0 i7 r1.2 t66 ((wr (t67 + (1 : Int)))) m1o (setL r6o t67.toNat r1.1)))) (A_1000 a0 i7 m1o r6o)
def zpA (N : Nat) (A_1000 : (List UInt64) -> Int -> (List UInt64) -> (List UInt64) -> Option (List UInt64 × Int × Unit)) (n : Nat) (a0 : List UInt64) (i7 : Int) (borrow10 : UInt64) (t66 t67 : Int) (m1o r6o : List UInt64) : Option (List UInt64 × Int × Unit) :=
  zap (fun A x => zpz N A_1000 (fun a0 i7 borrow10 t66 t67 m1o r6o => A ((a0, ((), ((), (i7, (borrow10, (t66, (t67, ()))))))), (m1o, (r6o, ())))) x.1.1 x.1.2.2.2.1 x.1.2.2.2.2.1 x.1.2.2.2.2.2.1 x.1.2.2.2.2.2.2.1 x.2.1 x.2.2.1) n ((a0, ((), ((), (i7, (borrow10, (t66, (t67, ()))))))), (m1o, (r6o, ())))
def zpB (N : Nat) (A_1000 : (List UInt64) -> Int -> (List UInt64) -> (List UInt64) -> Option (List UInt64 × Int × Unit)) (A_11 : (List UInt64) -> Int -> UInt64 -> Int -> Int -> (List UInt64) -> (List UInt64) -> Option (List UInt64 × Int × Unit)) (a0 : List UInt64) (i7 : Int) (carry8 : UInt64) (t41 t42 : Int) (m1o r6o : List UInt64) : Option (List UInt64 × Int × Unit) :=
  cond ((ltI t42 t41)) (must (leI (0 : Int) t42 && ltI t42 (↑r6o.length : Int)) (must (leI (0 : Int) t42 && ltI t42 (↑r6o.length : Int)) (must (leI (0 : Int) t42 && ltI t42 (↑r6o.length : Int)) (A_11 a0 i7 ((zaW (List.getD r6o t42.toNat (0 : UInt64)) (UInt64.toNat (63 : UInt64)))) t41 ((wr (t42 + (1 : Int)))) m1o (setL r6o t42.toNat (((zjL (List.getD r6o t42.toNat (0 : UInt64)) (UInt64.toNat (1 : UInt64))) ||| carry8))))))) (Option.bind (q61 N r6o m1o) fun r0 => cond ((leI (0 : Int) r0.1)) (zpA N A_1000 N a0 i7 (0 : UInt64) ((↑r6o.length : Int)) (0 : Int) m1o r6o) (A_1000 a0 i7 m1o r6o))
def zpC (N : Nat) (A_1000 : (List UInt64) -> Int -> (List UInt64) -> (List UInt64) -> Option (List UInt64 × Int × Unit)) (n : Nat) (a0 : List UInt64) (i7 : Int) (carry8 : UInt64) (t41 t42 : Int) (m1o r6o : List UInt64) : Option (List UInt64 × Int × Unit) :=
  zap (fun A x => zpB N A_1000 (fun a0 i7 carry8 t41 t42 m1o r6o => A ((a0, ((), ((), (i7, (carry8, (t41, (t42, ()))))))), (m1o, (r6o, ())))) x.1.1 x.1.2.2.2.1 x.1.2.2.2.2.1 x.1.2.2.2.2.2.1 x.1.2.2.2.2.2.2.1 x.2.1 x.2.2.1) n ((a0, ((), ((), (i7, (carry8, (t41, (t42, ()))))))), (m1o, (r6o, ())))
def zmI (N : Nat) (A_1000 : (List UInt64) -> Int -> (List UInt64) -> (List UInt64) -> Option (List UInt64 × Int × Unit)) (a0 : List UInt64) (i7 : Int) (m1o r6o : List UInt64) : Option (List UInt64 × Int × Unit) :=
  cond ((ltI ((wr (i7 - (1 : Int)))) (0 : Int))) (Option.bind (q158 N r6o) fun r0 => some ((Prod.fst r0, (0 : Int), ()))) (must (leI (0 : Int) ((wr (Int.tdiv ((wr (i7 - (1 : Int)))) (64 : Int)))) && ltI ((wr (Int.tdiv ((wr (i7 - (1 : Int)))) (64 : Int)))) (↑a0.length : Int)) (zpC N A_1000 N a0 ((wr (i7 - (1 : Int)))) (((zaW (List.getD a0 (Int.toNat ((wr (Int.tdiv ((wr (i7 - (1 : Int)))) (64 : Int))))) (0 : UInt64)) (UInt64.toNat ((u64I ((Int.tmod ((wr (i7 - (1 : Int)))) (64 : Int))))))) &&& (1 : UInt64))) ((↑r6o.length : Int)) (0 : Int) m1o r6o))
def zmJ (N n : Nat) (a0 : List UInt64) (i7 : Int) (m1o r6o : List UInt64) : Option (List UInt64 × Int × Unit) :=
  zap (fun A x => zmI N (fun a0 i7 m1o r6o => A ((a0, ((), ((), (i7, ())))), (m1o, (r6o, ())))) x.1.1 x.1.2.2.2.1 x.2.1 x.2.2.1) n ((a0, ((), ((), (i7, ())))), (m1o, (r6o, ())))
def q52 (N : Nat) (a0 m1 : List UInt64) : Option (List UInt64 × Int × Unit) :=
  Option.bind (q158 N m1) fun r0 => cond ((eqI (↑r0.1.length : Int) (0 : Int))) (some (([], (7 : Int), ()))) (must (leI (0 : Int) ((wr ((↑r0.1.length : Int) + (1 : Int)))) && (eqI ((wr ((↑r0.1.length : Int) + (1 : Int)))) ((wr ((↑r0.1.length : Int) + (1 : Int)))) && leN (Int.toNat ((wr ((↑r0.1.length : Int) + (1 : Int)))) * (8 : Nat)) (140737488355328 : Nat))) (zmJ N N a0 ((wr ((64 : Int) * (↑a0.length : Int)))) r0.1 (List.replicate (Int.toNat ((wr ((↑r0.1.length : Int) + (1 : Int))))) (0 : UInt64))))
def zqJ (N : Nat) (A_6 : Int -> Int -> Int -> (List UInt8) -> (List UInt64) -> Option (List UInt8 × Int × Unit)) (A_9 : Int -> Int -> UInt64 -> Int -> Int -> Int -> (List UInt8) -> (List UInt64) -> Option (List UInt8 × Int × Unit)) (n1 i7 : Int) (x8 : UInt64) (t23 t24 t29 : Int) (out6o : List UInt8) (t22o : List UInt64) : Option (List UInt8 × Int × Unit) :=
  cond ((ltI t29 (8 : Int))) (cond ((ltI ((wr ((wr ((wr (n1 - (1 : Int))) - (wr ((8 : Int) * i7)))) - t29))) (0 : Int))) (cond (!(UInt8.ofNat (UInt64.toNat ((zaW x8 (UInt64.toNat ((u64I ((wr ((8 : Int) * t29)))))))))) == (0 : UInt8)) (some (([], (8 : Int), ()))) (cond ((leI (0 : Int) ((wr ((wr ((wr (n1 - (1 : Int))) - (wr ((8 : Int) * i7)))) - t29))))) (must (leI (0 : Int) ((wr ((wr ((wr (n1 - (1 : Int))) - (wr ((8 : Int) * i7)))) - t29))) && ltI ((wr ((wr ((wr (n1 - (1 : Int))) - (wr ((8 : Int) * i7)))) - t29))) (↑out6o.length : Int)) (A_9 n1 i7 x8 t23 t24 ((wr (t29 + (1 : Int)))) (setL out6o (Int.toNat ((wr ((wr ((wr (n1 - (1 : Int))) - (wr ((8 : Int) * i7)))) - t29)))) ((UInt8.ofNat (UInt64.toNat ((zaW x8 (UInt64.toNat ((u64I ((wr ((8 : Int) * t29)))))))))))) t22o)) (A_9 n1 i7 x8 t23 t24 ((wr (t29 + (1 : Int)))) out6o t22o))) (cond ((leI (0 : Int) ((wr ((wr ((wr (n1 - (1 : Int))) - (wr ((8 : Int) * i7)))) - t29))))) (must (leI (0 : Int) ((wr ((wr ((wr (n1 - (1 : Int))) - (wr ((8 : Int) * i7)))) - t29))) && ltI ((wr ((wr ((wr (n1 - (1 : Int))) - (wr ((8 : Int) * i7)))) - t29))) (↑out6o.length : Int)) (A_9 n1 i7 x8 t23 t24 ((wr (t29 + (1 : Int)))) (setL out6o (Int.toNat ((wr ((wr ((wr (n1 - (1 : Int))) - (wr ((8 : Int) * i7)))) - t29)))) ((UInt8.ofNat (UInt64.toNat ((zaW x8 (UInt64.toNat ((u64I ((wr ((8 : Int) * t29)))))))))))) t22o)) (A_9 n1 i7 x8 t23 t24 ((wr (t29 + (1 : Int)))) out6o t22o))) (A_6 n1 t23 ((wr (t24 + (1 : Int)))) out6o t22o)
def zqK (N : Nat) (A_6 : Int -> Int -> Int -> (List UInt8) -> (List UInt64) -> Option (List UInt8 × Int × Unit)) (n : Nat) (n1 i7 : Int) (x8 : UInt64) (t23 t24 t29 : Int) (out6o : List UInt8) (t22o : List UInt64) : Option (List UInt8 × Int × Unit) :=
  zap (fun A x => zqJ N A_6 (fun n1 i7 x8 t23 t24 t29 out6o t22o => A ((n1, ((), (i7, (x8, ((), (t23, (t24, (t29, ())))))))), (out6o, (t22o, ())))) x.1.1 x.1.2.2.1 x.1.2.2.2.1 x.1.2.2.2.2.2.1 x.1.2.2.2.2.2.2.1 x.1.2.2.2.2.2.2.2.1 x.2.1 x.2.2.1) n ((n1, ((), (i7, (x8, ((), (t23, (t24, (t29, ())))))))), (out6o, (t22o, ())))
def zqL (N : Nat) (A_6 : Int -> Int -> Int -> (List UInt8) -> (List UInt64) -> Option (List UInt8 × Int × Unit)) (n1 t23 t24 : Int) (out6o : List UInt8) (t22o : List UInt64) : Option (List UInt8 × Int × Unit) :=
  cond ((ltI t24 t23)) (must (leI (0 : Int) t24 && ltI t24 (↑t22o.length : Int)) (zqK N A_6 N n1 t24 (List.getD t22o t24.toNat (0 : UInt64)) t23 t24 (0 : Int) out6o t22o)) (some ((out6o, (0 : Int), ())))
def zqM (N n : Nat) (n1 t23 t24 : Int) (out6o : List UInt8) (t22o : List UInt64) : Option (List UInt8 × Int × Unit) :=
  zap (fun A x => zqL N (fun n1 t23 t24 out6o t22o => A ((n1, ((), ((), (t23, (t24, ()))))), (out6o, (t22o, ())))) x.1.1 x.1.2.2.2.1 x.1.2.2.2.2.1 x.2.1 x.2.2.1) n ((n1, ((), ((), (t23, (t24, ()))))), (out6o, (t22o, ())))
def q57 (N : Nat) (a0 : List UInt64) (n1 : Int) : Option (List UInt8 × Int × Unit) :=
  Option.bind (q158 N a0) fun r0 => cond ((ltI n1 (0 : Int))) (some (([], (8 : Int), ()))) (cond ((ltI (192 : Int) n1)) (some (([], (8 : Int), ()))) (must (leI (0 : Int) n1 && (eqI n1 n1 && leN (Int.toNat n1 * (1 : Nat)) (140737488355328 : Nat))) (zqM N N n1 ((↑r0.1.length : Int)) (0 : Int) (List.replicate n1.toNat (0 : UInt8)) r0.1)))
def zpD (N : Nat) (A_2 : (List UInt64) -> Int -> Option (List UInt64 × Unit)) (a0 : List UInt64) (n3 : Int) : Option (List UInt64 × Unit) :=
  cond ((ltI (0 : Int) n3)) (must (leI (0 : Int) ((wr (n3 - (1 : Int)))) && ltI ((wr (n3 - (1 : Int)))) (↑a0.length : Int)) (cond ((List.getD a0 (Int.toNat ((wr (n3 - (1 : Int))))) (0 : UInt64) == (0 : UInt64))) (A_2 a0 ((wr (n3 - (1 : Int))))) (must (leI (0 : Int) n3 && leI n3 (↑a0.length : Int)) (must (leN (((0 : Nat) + List.length (List.take (Int.toNat (n3 - (0 : Int))) a0)) * (8 : Nat)) (140737488355328 : Nat)) (some ((List.take (Int.toNat (n3 - (0 : Int))) a0, ()))))))) (must (leI (0 : Int) n3 && leI n3 (↑a0.length : Int)) (must (leN (((0 : Nat) + List.length (List.take (Int.toNat (n3 - (0 : Int))) a0)) * (8 : Nat)) (140737488355328 : Nat)) (some ((List.take (Int.toNat (n3 - (0 : Int))) a0, ())))))
def zpE (N n : Nat) (a0 : List UInt64) (n3 : Int) : Option (List UInt64 × Unit) :=
  zap (fun A x => zpD N (fun a0 n3 => A ((a0, (n3, ())), ())) x.1.1 x.1.2.1) n ((a0, (n3, ())), ())
def q161 (N : Nat) (a0 : List UInt64) : Option (List UInt64 × Unit) :=
  zpE N N a0 ((↑a0.length : Int))
def q162 (N : Nat) (a0 : List UInt64) (i1 : Int) : Option (UInt64 × Unit) :=
  cond ((leI (↑a0.length : Int) ((wr (Int.tdiv i1 (64 : Int)))))) (some (((0 : UInt64), ()))) (must (leI (0 : Int) ((wr (Int.tdiv i1 (64 : Int)))) && ltI ((wr (Int.tdiv i1 (64 : Int)))) (↑a0.length : Int)) (must (leI (0 : Int) ((Int.tmod i1 (64 : Int)))) (must (ltI ((Int.tmod i1 (64 : Int))) (18446744073709551616 : Int)) (some ((((zaW (List.getD a0 (Int.toNat ((wr (Int.tdiv i1 (64 : Int))))) (0 : UInt64)) (UInt64.toNat (UInt64.ofNat (Int.toNat ((Int.tmod i1 (64 : Int))))))) &&& (1 : UInt64)), ()))))))
def q165 (N : Nat) (a0 : List UInt64) (i1 : Int) : Option (UInt64 × Unit) :=
  cond ((ltI i1 (↑a0.length : Int))) (must (leI (0 : Int) i1 && ltI i1 (↑a0.length : Int)) (some ((List.getD a0 i1.toNat (0 : UInt64), ())))) (some (((0 : UInt64), ())))
def zqN (N : Nat) (A_7 : Int -> (List UInt64) -> (List UInt64) -> Option (Int × Unit)) (i5 : Int) (a0o b1o : List UInt64) : Option (Int × Unit) :=
  cond ((leI (0 : Int) i5)) (must (leI (0 : Int) i5 && ltI i5 (↑a0o.length : Int)) (must (leI (0 : Int) i5 && ltI i5 (↑b1o.length : Int)) (cond ((ltN (UInt64.toNat (List.getD a0o i5.toNat (0 : UInt64))) (UInt64.toNat (List.getD b1o i5.toNat (0 : UInt64))))) (some (((-1 : Int), ()))) (must (leI (0 : Int) i5 && ltI i5 (↑a0o.length : Int)) (must (leI (0 : Int) i5 && ltI i5 (↑b1o.length : Int)) (cond ((ltN (UInt64.toNat (List.getD b1o i5.toNat (0 : UInt64))) (UInt64.toNat (List.getD a0o i5.toNat (0 : UInt64))))) (some (((1 : Int), ()))) (A_7 ((wr (i5 - (1 : Int)))) a0o b1o))))))) (some (((0 : Int), ())))
def zqO (N n : Nat) (i5 : Int) (a0o b1o : List UInt64) : Option (Int × Unit) :=
  zap (fun A x => zqN N (fun i5 a0o b1o => A (((), ((), (i5, ()))), (a0o, (b1o, ())))) x.1.2.2.1 x.2.1 x.2.2.1) n (((), ((), (i5, ()))), (a0o, (b1o, ())))
def q65 (N : Nat) (a0 b1 : List UInt64) : Option (Int × Unit) :=
  Option.bind (q161 N a0) fun r0 => Option.bind (q161 N b1) fun r1 => cond (!eqI (↑r0.1.length : Int) (↑r1.1.length : Int)) (cond ((ltI (↑r0.1.length : Int) (↑r1.1.length : Int))) (some (((-1 : Int), ()))) (some (((1 : Int), ())))) (zqO N N ((wr ((↑r0.1.length : Int) - (1 : Int)))) r0.1 r1.1)
def zqP (N : Nat) (A_4 : (List UInt64) -> (List UInt64) -> UInt64 -> Int -> (List UInt64) -> Option (List UInt64 × Unit)) (a0 b1 : List UInt64) (c6 : UInt64) (i7 : Int) (out5o : List UInt64) : Option (List UInt64 × Unit) :=
  cond ((ltI i7 (mxI (↑a0.length : Int) (↑b1.length : Int)))) (Option.bind (q165 N a0 i7) fun r1 => Option.bind (q165 N b1 i7) fun r2 => Option.bind (kAdd r1.1 r2.1 c6) fun r3 => must (leN ((List.length out5o + List.length [Prod.fst r3]) * (8 : Nat)) (140737488355328 : Nat)) (A_4 a0 b1 r3.2 ((wr (i7 + (1 : Int)))) (out5o ++ [Prod.fst r3]))) (must (leN ((List.length out5o + List.length [c6]) * (8 : Nat)) (140737488355328 : Nat)) (Option.bind (q161 N (out5o ++ [c6])) fun r0 => some ((Prod.fst r0, ()))))
def zqQ (N n : Nat) (a0 b1 : List UInt64) (c6 : UInt64) (i7 : Int) (out5o : List UInt64) : Option (List UInt64 × Unit) :=
  zap (fun A x => zqP N (fun a0 b1 c6 i7 out5o => A ((a0, (b1, ((), (c6, (i7, ()))))), (out5o, ()))) x.1.1 x.1.2.1 x.1.2.2.2.1 x.1.2.2.2.2.1 x.2.1) n ((a0, (b1, ((), (c6, (i7, ()))))), (out5o, ()))
def q66 (N : Nat) (a0 b1 : List UInt64) : Option (List UInt64 × Unit) :=
  zqQ N N a0 b1 (0 : UInt64) (0 : Int) []
def zqR (N : Nat) (A_6 : (List UInt64) -> (List UInt64) -> UInt64 -> Int -> (List UInt64) -> Option (List UInt64 × Int × Unit)) (a0 b1 : List UInt64) (c7 : UInt64) (i8 : Int) (out6o : List UInt64) : Option (List UInt64 × Int × Unit) :=
  cond ((ltI i8 (mxI (↑a0.length : Int) (↑b1.length : Int)))) (Option.bind (q165 N a0 i8) fun r1 => Option.bind (q165 N b1 i8) fun r2 => Option.bind (kSub r1.1 r2.1 c7) fun r3 => must (leN ((List.length out6o + List.length [Prod.fst r3]) * (8 : Nat)) (140737488355328 : Nat)) (A_6 a0 b1 r3.2 ((wr (i8 + (1 : Int)))) (out6o ++ [Prod.fst r3]))) (Option.bind (q161 N out6o) fun r0 => some ((Prod.fst r0, (0 : Int), ())))
def zqS (N n : Nat) (a0 b1 : List UInt64) (c7 : UInt64) (i8 : Int) (out6o : List UInt64) : Option (List UInt64 × Int × Unit) :=
  zap (fun A x => zqR N (fun a0 b1 c7 i8 out6o => A ((a0, (b1, ((), (c7, (i8, ()))))), (out6o, ()))) x.1.1 x.1.2.1 x.1.2.2.2.1 x.1.2.2.2.2.1 x.2.1) n ((a0, (b1, ((), (c7, (i8, ()))))), (out6o, ()))
def q64 (N : Nat) (a0 b1 : List UInt64) : Option (List UInt64 × Int × Unit) :=
  Option.bind (q65 N a0 b1) fun r0 => cond ((ltI r0.1 (0 : Int))) (some (([], (1 : Int), ()))) (zqS N N a0 b1 (0 : UInt64) (0 : Int) [])
def zqT (N : Nat) (A_6 : (List UInt64) -> Int -> (List UInt64) -> (List UInt64) -> Option (List UInt64 × Int × Unit)) (a0 : List UInt64) (i7 : Int) (m1o r6o : List UInt64) : Option (List UInt64 × Int × Unit) :=
  cond ((leI (0 : Int) i7)) (Option.bind (q66 N r6o r6o) fun r1 => Option.bind (q162 N a0 i7) fun r2 => cond ((Prod.fst r2 == (1 : UInt64))) (Option.bind (q66 N r1.1 ([(1 : UInt64)])) fun r5 => Option.bind (q65 N r5.1 m1o) fun r6 => cond ((leI (0 : Int) r6.1)) (Option.bind (q64 N r5.1 m1o) fun r7 => A_6 a0 ((wr (i7 - (1 : Int)))) m1o r7.1) (A_6 a0 ((wr (i7 - (1 : Int)))) m1o r5.1)) (Option.bind (q65 N r1.1 m1o) fun r3 => cond ((leI (0 : Int) r3.1)) (Option.bind (q64 N r1.1 m1o) fun r4 => A_6 a0 ((wr (i7 - (1 : Int)))) m1o r4.1) (A_6 a0 ((wr (i7 - (1 : Int)))) m1o r1.1))) (Option.bind (q161 N r6o) fun r0 => some ((Prod.fst r0, (0 : Int), ())))
def zqU (N n : Nat) (a0 : List UInt64) (i7 : Int) (m1o r6o : List UInt64) : Option (List UInt64 × Int × Unit) :=
  zap (fun A x => zqT N (fun a0 i7 m1o r6o => A ((a0, ((), ((), (i7, ())))), (m1o, (r6o, ())))) x.1.1 x.1.2.2.2.1 x.2.1 x.2.2.1) n ((a0, ((), ((), (i7, ())))), (m1o, (r6o, ())))
def q53 (N : Nat) (a0 m1 : List UInt64) : Option (List UInt64 × Int × Unit) :=
  Option.bind (q161 N m1) fun r0 => cond ((eqI (↑r0.1.length : Int) (0 : Int))) (some (([], (7 : Int), ()))) (zqU N N a0 ((wr ((wr ((64 : Int) * (↑a0.length : Int))) - (1 : Int)))) r0.1 [])
def zqV (N : Nat) (A_4 : (List UInt64) -> (List UInt64) -> Int -> Option (Bool × Unit)) (a0 b1 : List UInt64) (i5 : Int) : Option (Bool × Unit) :=
  cond ((ltI i5 (↑a0.length : Int))) (must (leI (0 : Int) i5 && ltI i5 (↑a0.length : Int)) (must (leI (0 : Int) i5 && ltI i5 (↑b1.length : Int)) (cond (!List.getD a0 i5.toNat (0 : UInt64) == List.getD b1 i5.toNat (0 : UInt64)) (some ((false, ()))) (A_4 a0 b1 ((wr (i5 + (1 : Int)))))))) (some ((true, ())))
def zqW (N n : Nat) (a0 b1 : List UInt64) (i5 : Int) : Option (Bool × Unit) :=
  zap (fun A x => zqV N (fun a0 b1 i5 => A ((a0, (b1, (i5, ()))), ())) x.1.1 x.1.2.1 x.1.2.2.1) n ((a0, (b1, (i5, ()))), ())
def q54 (N : Nat) (a0 b1 : List UInt64) : Option (Bool × Unit) :=
  cond (!eqI (↑a0.length : Int) (↑b1.length : Int)) (some ((false, ()))) (zqW N N a0 b1 (0 : Int))
def q51 (N : Nat) : Option (Bool × Unit) :=
  Option.bind (q52 N ([(7 : UInt64)]) ([(4 : UInt64)])) fun r0 => Option.bind (q57 N ([(258 : UInt64)]) (2 : Int)) fun r1 => cond ((eqI (r0.2.1) (0 : Int))) (cond ((eqI (↑r0.1.length : Int) (1 : Int))) (must (ltI (0 : Int) (↑r0.1.length : Int)) (cond ((List.getD r0.1 (0 : Nat) (0 : UInt64) == (3 : UInt64))) (cond ((eqI (r1.2.1) (0 : Int))) (cond ((eqB r1.1 [(1 : UInt8), (2 : UInt8)])) (Option.bind (q62 N ([(1 : UInt64)]) []) fun r2 => cond ((eqI (↑r2.1.length : Int) (1 : Int))) (Option.bind (q55 N ([(9223372036854775808 : UInt64)]) ([(2 : UInt64)])) fun r3 => cond ((eqI (↑r3.1.length : Int) (2 : Int))) (Option.bind (q61 N ([(1 : UInt64)]) []) fun r4 => some (((eqI r4.1 (1 : Int)), ()))) (some ((false, ())))) (some ((false, ())))) (some ((false, ())))) (some ((false, ())))) (some ((false, ()))))) (some ((false, ())))) (some ((false, ())))
end
section
def q6 (N : Nat) (a0 m1 : List UInt64) : Option (Bool × Unit) :=
  Option.bind (q51 N) fun r0 => cond (!r0.1) (some ((false, ()))) (cond ((ltI (24 : Int) (↑a0.length : Int))) (some ((true, ()))) (cond ((ltI (12 : Int) (↑m1.length : Int))) (some ((true, ()))) (Option.bind (q52 N a0 m1) fun r1 => Option.bind (q53 N a0 m1) fun r2 => cond ((eqI (r1.2.1) (r2.2.1))) (Option.bind (q54 N r1.1 r2.1) fun r3 => some ((Prod.fst r3, ()))) (some ((false, ()))))))
end
section
def q75 (N : Nat) (n0 : UInt64) : Option (Fr × Unit) :=
  some (({ a0 := n0, a1 := (0 : UInt64), a2 := (0 : UInt64), a3 := (0 : UInt64) }, ()))
theorem zqX : p75 = q75 := by
  (repeat (apply funext; intro _))
  simp only [p75, q75, ]
def q169 (N : Nat) : Option (Fr × Unit) :=
  some (({ a0 := (18446744069414584321 : UInt64), a1 := (6034159408538082302 : UInt64), a2 := (3691218898639771653 : UInt64), a3 := (8353516859464449352 : UInt64) }, ()))
theorem zpF : p169 = q169 := by
  (repeat (apply funext; intro _))
  simp only [p169, q169, ]
def q79 (N : Nat) (a0 : Fr) : Option (Bool × Unit) :=
  Option.bind (q169 N) fun r0 => Option.bind (q61 N (List.take (Int.toNat ((↑(4 : Nat) : Int) - (0 : Int))) [Fr.a0 a0, Fr.a1 a0, Fr.a2 a0, Fr.a3 a0]) (List.take (Int.toNat ((↑(4 : Nat) : Int) - (0 : Int))) [Fr.a0 r0.1, Fr.a1 r0.1, Fr.a2 r0.1, Fr.a3 r0.1])) fun r1 => some (((ltI r1.1 (0 : Int)), ()))
theorem zpG : p79 = q79 := by
  (repeat (apply funext; intro _))
  simp only [p79, q79, hide_eq, zpF, zqC]
end
section
def lv : List UInt64 -> Nat
  | [] => 0
  | x :: l => x.toNat + 18446744073709551616 * lv l
end
section
def RR : Nat := 52435875175126190479447740508185965837690552500527637822603658699938581184513
def fv (x : Fr) : Nat := lv x.l
end
section
theorem i4 : (4 : Int) = ((4 : Nat) : Int) := rfl
end
section
def frN (n : Nat) : Fr := ⟨UInt64.ofNat n, UInt64.ofNat (n / 18446744073709551616), UInt64.ofNat (n / 18446744073709551616 / 18446744073709551616), UInt64.ofNat (n / 18446744073709551616 / 18446744073709551616 / 18446744073709551616)⟩
theorem zng (x y : Fr) : eqL El.u64 [x.a0, x.a1, x.a2, x.a3] [y.a0, y.a1, y.a2, y.a3] = decide (x = y) := by
  obtain ⟨a, b, c, d⟩ := x
  obtain ⟨a', b', c', d'⟩ := y
  rw [Bool.eq_iff_iff, decide_eq_true_iff]
  simp [eqL, eqE, eq64, and_assoc]
where
  alg4 (B A1 A2 A3 P x y c s d : Nat) (hv : A1 + P * c = A2 + A3) (h3 : s + B * d = x + y + c) : A1 + P * s + P * B * d = A2 + P * x + (A3 + P * y) := by
    have e : P * (s + B * d) = P * (x + y + c) := by rw [h3]
    grind
end
section
def Cg (a b : Nat) : Prop := a % RR = b % RR
theorem Cg.symm {a b : Nat} (h : Cg a b) : Cg b a := Eq.symm h
theorem Cg.trans {a b c : Nat} (h : Cg a b) (g : Cg b c) : Cg a c := Eq.trans h g
theorem Cg.mul {a b c d : Nat} (h1 : Cg a b) (h2 : Cg c d) : Cg (a * c) (b * d) := by
  unfold Cg at *
  rw [Nat.mul_mod, h1, h2, ← Nat.mul_mod]
theorem Cg.add {a b c d : Nat} (h1 : Cg a b) (h2 : Cg c d) : Cg (a + c) (b + d) := by
  unfold Cg at *
  rw [Nat.add_mod, h1, h2, ← Nat.add_mod]
theorem Cg.lt {a b : Nat} (h : Cg a b) (ha : a < RR) : a = b % RR := by
  unfold Cg at h
  rw [← h, Nat.mod_eq_of_lt ha]
end
section
def nd (q : Nat) : Nat -> Nat -> Bool
  | 0, lo => !(Nat.beq (q % lo) 0)
  | k + 1, lo => nd q k lo && nd q k (lo + 2 ^ k)
end
section
theorem zaj (x : Fr) : Fr.mk x.a0 x.a1 x.a2 x.a3 = x := rfl
theorem zak : Fr.mk 0 0 0 0 = Fr.zero := rfl
def eqF (x y : Fr) : Bool := decide (x = y)
theorem zal (x y : Fr) : eqL El.u64 [x.a0, x.a1, x.a2, x.a3] [y.a0, y.a1, y.a2, y.a3] = eqF x y := zng x y
theorem zam (x : Fr) (n : UInt64) : eqL El.u64 [x.a0, x.a1, x.a2, x.a3] [n, (0 : UInt64), (0 : UInt64), (0 : UInt64)] = eqF x ⟨n, 0, 0, 0⟩ := zng x ⟨n, 0, 0, 0⟩
def zqY (log : Nat) : Nat := 7 ^ ((RR - 1) / 2 ^ log) % RR
class Big (N : Nat) : Prop where
  h : 2000 <= N
instance : Big 2000 := ⟨Nat.le_refl _⟩
end
section
def q217 (N : Nat) (kind0 : Int) : Option (List Int × Bool × Unit) :=
  cond ((eqI kind0 (1 : Int))) (some (([], true, ()))) (cond ((eqI kind0 (2 : Int))) (cond ((eqI kind0 (2 : Int))) (some (([(0 : Int), (1 : Int), (2 : Int)], true, ()))) (cond ((eqI kind0 (3 : Int))) (cond ((eqI kind0 (3 : Int))) (some (([(0 : Int)], true, ()))) (cond ((eqI kind0 (4 : Int))) (some (([(0 : Int), (2 : Int)], true, ()))) (cond ((eqI kind0 (6 : Int))) (some (([(0 : Int), (1 : Int)], true, ()))) (some (([], false, ())))))) (cond ((eqI kind0 (7 : Int))) (some (([(0 : Int)], true, ()))) (cond ((eqI kind0 (4 : Int))) (some (([(0 : Int), (2 : Int)], true, ()))) (cond ((eqI kind0 (6 : Int))) (some (([(0 : Int), (1 : Int)], true, ()))) (some (([], false, ())))))))) (cond ((eqI kind0 (5 : Int))) (some (([(0 : Int), (1 : Int), (2 : Int)], true, ()))) (cond ((eqI kind0 (3 : Int))) (cond ((eqI kind0 (3 : Int))) (some (([(0 : Int)], true, ()))) (cond ((eqI kind0 (4 : Int))) (some (([(0 : Int), (2 : Int)], true, ()))) (cond ((eqI kind0 (6 : Int))) (some (([(0 : Int), (1 : Int)], true, ()))) (some (([], false, ())))))) (cond ((eqI kind0 (7 : Int))) (some (([(0 : Int)], true, ()))) (cond ((eqI kind0 (4 : Int))) (some (([(0 : Int), (2 : Int)], true, ()))) (cond ((eqI kind0 (6 : Int))) (some (([(0 : Int), (1 : Int)], true, ()))) (some (([], false, ())))))))))
theorem zpH : p217 = q217 := by
  (repeat (apply funext; intro _))
  simp only [p217, q217, hide_eq, zaj, zal, zam, zak]
def q195 (N : Nat) (at0 : Int) (w1 : List Int) : Option (Row × Unit) :=
  must (leI (↑(3 : Nat) : Int) (↑w1.length : Int)) (must (leN ((0 : Nat) + (3 : Nat)) w1.length) (Option.bind (q75 N (1 : UInt64)) fun rr0 => cond (eqI at0 (↑(0 : Nat) : Int)) (must (eqI at0 (↑(0 : Nat) : Int)) (some ((Row.mk (rr0.1) (Fr.zero) (Fr.zero) (Fr.zero) (Fr.zero) (Fr.zero) (Fr.zero) (Fr.zero) (List.getD w1 (0 : Nat) (0 : Int)) (List.getD w1 ((0 : Nat) + (1 : Nat)) (0 : Int)) (List.getD w1 ((0 : Nat) + (1 : Nat) + (1 : Nat)) (0 : Int)), ())))) (cond (eqI at0 (↑((0 : Nat) + (1 : Nat)) : Int)) (must (eqI at0 (↑((0 : Nat) + (1 : Nat)) : Int)) (some ((Row.mk (Fr.zero) (rr0.1) (Fr.zero) (Fr.zero) (Fr.zero) (Fr.zero) (Fr.zero) (Fr.zero) (List.getD w1 (0 : Nat) (0 : Int)) (List.getD w1 ((0 : Nat) + (1 : Nat)) (0 : Int)) (List.getD w1 ((0 : Nat) + (1 : Nat) + (1 : Nat)) (0 : Int)), ())))) (cond (eqI at0 (↑((0 : Nat) + (1 : Nat) + (1 : Nat)) : Int)) (must (eqI at0 (↑((0 : Nat) + (1 : Nat) + (1 : Nat)) : Int)) (some ((Row.mk (Fr.zero) (Fr.zero) (rr0.1) (Fr.zero) (Fr.zero) (Fr.zero) (Fr.zero) (Fr.zero) (List.getD w1 (0 : Nat) (0 : Int)) (List.getD w1 ((0 : Nat) + (1 : Nat)) (0 : Int)) (List.getD w1 ((0 : Nat) + (1 : Nat) + (1 : Nat)) (0 : Int)), ())))) (cond (eqI at0 (↑((0 : Nat) + (1 : Nat) + (1 : Nat) + (1 : Nat)) : Int)) (must (eqI at0 (↑((0 : Nat) + (1 : Nat) + (1 : Nat) + (1 : Nat)) : Int)) (some ((Row.mk (Fr.zero) (Fr.zero) (Fr.zero) (rr0.1) (Fr.zero) (Fr.zero) (Fr.zero) (Fr.zero) (List.getD w1 (0 : Nat) (0 : Int)) (List.getD w1 ((0 : Nat) + (1 : Nat)) (0 : Int)) (List.getD w1 ((0 : Nat) + (1 : Nat) + (1 : Nat)) (0 : Int)), ())))) (cond (eqI at0 (↑((0 : Nat) + (1 : Nat) + (1 : Nat) + (1 : Nat) + (1 : Nat)) : Int)) (must (eqI at0 (↑((0 : Nat) + (1 : Nat) + (1 : Nat) + (1 : Nat) + (1 : Nat)) : Int)) (some ((Row.mk (Fr.zero) (Fr.zero) (Fr.zero) (Fr.zero) (rr0.1) (Fr.zero) (Fr.zero) (Fr.zero) (List.getD w1 (0 : Nat) (0 : Int)) (List.getD w1 ((0 : Nat) + (1 : Nat)) (0 : Int)) (List.getD w1 ((0 : Nat) + (1 : Nat) + (1 : Nat)) (0 : Int)), ())))) (cond (eqI at0 (↑((0 : Nat) + (1 : Nat) + (1 : Nat) + (1 : Nat) + (1 : Nat) + (1 : Nat)) : Int)) (must (eqI at0 (↑((0 : Nat) + (1 : Nat) + (1 : Nat) + (1 : Nat) + (1 : Nat) + (1 : Nat)) : Int)) (some ((Row.mk (Fr.zero) (Fr.zero) (Fr.zero) (Fr.zero) (Fr.zero) (rr0.1) (Fr.zero) (Fr.zero) (List.getD w1 (0 : Nat) (0 : Int)) (List.getD w1 ((0 : Nat) + (1 : Nat)) (0 : Int)) (List.getD w1 ((0 : Nat) + (1 : Nat) + (1 : Nat)) (0 : Int)), ())))) (cond (eqI at0 (↑((0 : Nat) + (1 : Nat) + (1 : Nat) + (1 : Nat) + (1 : Nat) + (1 : Nat) + (1 : Nat)) : Int)) (must (eqI at0 (↑((0 : Nat) + (1 : Nat) + (1 : Nat) + (1 : Nat) + (1 : Nat) + (1 : Nat) + (1 : Nat)) : Int)) (some ((Row.mk (Fr.zero) (Fr.zero) (Fr.zero) (Fr.zero) (Fr.zero) (Fr.zero) (rr0.1) (Fr.zero) (List.getD w1 (0 : Nat) (0 : Int)) (List.getD w1 ((0 : Nat) + (1 : Nat)) (0 : Int)) (List.getD w1 ((0 : Nat) + (1 : Nat) + (1 : Nat)) (0 : Int)), ())))) (must (eqI at0 (↑((0 : Nat) + (1 : Nat) + (1 : Nat) + (1 : Nat) + (1 : Nat) + (1 : Nat) + (1 : Nat) + (1 : Nat)) : Int)) (must (eqI at0 (↑((0 : Nat) + (1 : Nat) + (1 : Nat) + (1 : Nat) + (1 : Nat) + (1 : Nat) + (1 : Nat) + (1 : Nat)) : Int)) (some ((Row.mk (Fr.zero) (Fr.zero) (Fr.zero) (Fr.zero) (Fr.zero) (Fr.zero) (Fr.zero) (rr0.1) (List.getD w1 (0 : Nat) (0 : Int)) (List.getD w1 ((0 : Nat) + (1 : Nat)) (0 : Int)) (List.getD w1 ((0 : Nat) + (1 : Nat) + (1 : Nat)) (0 : Int)), ())))))))))))))
theorem zpI : p195 = q195 := by
  (repeat (apply funext; intro _))
  simp only [p195, q195, zqX, zaj, zal, zam, zak]
def q108 (N : Nat) (s0 : Stp) : Option (List Row × Int × Unit) :=
  cond ((eqI s0.kind (1 : Int))) (cond ((eqI s0.kind (1 : Int))) (some (([], (0 : Int), ()))) (cond ((eqI s0.kind (2 : Int))) (some (([Row.mk (s0.q0) (s0.q1) (s0.q2) (s0.q3) (s0.q4) (Fr.zero) (Fr.zero) (Fr.zero) (mxI s0.v0 (-1 : Int)) (mxI s0.v1 (-1 : Int)) (mxI s0.v2 (-1 : Int))], (0 : Int), ()))) (cond ((eqI s0.kind (3 : Int))) (Option.bind (q195 N (5 : Int) ([Stp.v0 s0, (-1 : Int), (-1 : Int)])) fun rr7 => some (([rr7.1], (0 : Int), ()))) (cond ((eqI s0.kind (4 : Int))) (Option.bind (q195 N (6 : Int) ([Stp.v0 s0, (-1 : Int), Stp.v2 s0])) fun rr6 => some (([rr6.1], (0 : Int), ()))) (cond ((eqI s0.kind (5 : Int))) (Option.bind (q195 N (7 : Int) ([Stp.v0 s0, Stp.v1 s0, (-1 : Int)])) fun rr5 => some (([rr5.1, Row.mk (Fr.zero) (Fr.zero) (Fr.zero) (Fr.zero) (Fr.zero) (Fr.zero) (Fr.zero) (Fr.zero) s0.v2 (-1 : Int) (-1 : Int)], (0 : Int), ()))) (cond ((eqI s0.kind (7 : Int))) (Option.bind (q195 N (1 : Int) ([Stp.v0 s0, (-1 : Int), (-1 : Int)])) fun rr4 => some (([rr4.1], (0 : Int), ()))) (some (([], (11 : Int), ()))))))))) (cond ((eqI s0.kind (6 : Int))) (some (([], (0 : Int), ()))) (cond ((eqI s0.kind (2 : Int))) (some (([Row.mk (s0.q0) (s0.q1) (s0.q2) (s0.q3) (s0.q4) (Fr.zero) (Fr.zero) (Fr.zero) (mxI s0.v0 (-1 : Int)) (mxI s0.v1 (-1 : Int)) (mxI s0.v2 (-1 : Int))], (0 : Int), ()))) (cond ((eqI s0.kind (3 : Int))) (Option.bind (q195 N (5 : Int) ([Stp.v0 s0, (-1 : Int), (-1 : Int)])) fun rr3 => some (([rr3.1], (0 : Int), ()))) (cond ((eqI s0.kind (4 : Int))) (Option.bind (q195 N (6 : Int) ([Stp.v0 s0, (-1 : Int), Stp.v2 s0])) fun rr2 => some (([rr2.1], (0 : Int), ()))) (cond ((eqI s0.kind (5 : Int))) (Option.bind (q195 N (7 : Int) ([Stp.v0 s0, Stp.v1 s0, (-1 : Int)])) fun rr1 => some (([rr1.1, Row.mk (Fr.zero) (Fr.zero) (Fr.zero) (Fr.zero) (Fr.zero) (Fr.zero) (Fr.zero) (Fr.zero) s0.v2 (-1 : Int) (-1 : Int)], (0 : Int), ()))) (cond ((eqI s0.kind (7 : Int))) (Option.bind (q195 N (1 : Int) ([Stp.v0 s0, (-1 : Int), (-1 : Int)])) fun rr0 => some (([rr0.1], (0 : Int), ()))) (some (([], (11 : Int), ())))))))))
theorem znh : p108 = q108 := by
  (repeat (apply funext; intro _))
  simp only [p108, q108, hide_eq, zpI, zaj, zal, zam, zak]
def zh4 (N : Nat) (A_11 : Int -> Int -> Int -> Stp -> (List Int) -> Option (Int × Unit)) (vars1 t30 t31 : Int) (ob0 : Stp) (t29o : List Int) : Option (Int × Unit) :=
  cond ((ltI t31 t30)) (must (leI (0 : Int) t31 && ltI t31 (↑t29o.length : Int)) (cond (eqI (List.getD t29o t31.toNat (0 : Int)) (↑(0 : Nat) : Int)) (must (eqI (List.getD t29o t31.toNat (0 : Int)) (↑(0 : Nat) : Int)) (cond ((leI vars1 ob0.v0)) (some (((10 : Int), ()))) (cond ((ltI ob0.v0 (0 : Int))) (cond (!eqI ob0.kind (2 : Int)) (some (((10 : Int), ()))) (A_11 vars1 t30 ((wr (t31 + (1 : Int)))) (Stp.mk ob0.kind ob0.v0 ob0.v1 ob0.v2 (ob0.q0) (ob0.q1) (ob0.q2) (ob0.q3) (ob0.q4)) t29o)) (A_11 vars1 t30 ((wr (t31 + (1 : Int)))) (Stp.mk ob0.kind ob0.v0 ob0.v1 ob0.v2 (ob0.q0) (ob0.q1) (ob0.q2) (ob0.q3) (ob0.q4)) t29o)))) (cond (eqI (List.getD t29o t31.toNat (0 : Int)) (↑((0 : Nat) + (1 : Nat)) : Int)) (must (eqI (List.getD t29o t31.toNat (0 : Int)) (↑((0 : Nat) + (1 : Nat)) : Int)) (cond ((leI vars1 ob0.v1)) (some (((10 : Int), ()))) (cond ((ltI ob0.v1 (0 : Int))) (cond (!eqI ob0.kind (2 : Int)) (some (((10 : Int), ()))) (A_11 vars1 t30 ((wr (t31 + (1 : Int)))) (Stp.mk ob0.kind ob0.v0 ob0.v1 ob0.v2 (ob0.q0) (ob0.q1) (ob0.q2) (ob0.q3) (ob0.q4)) t29o)) (A_11 vars1 t30 ((wr (t31 + (1 : Int)))) (Stp.mk ob0.kind ob0.v0 ob0.v1 ob0.v2 (ob0.q0) (ob0.q1) (ob0.q2) (ob0.q3) (ob0.q4)) t29o)))) (must (eqI (List.getD t29o t31.toNat (0 : Int)) (↑((0 : Nat) + (1 : Nat) + (1 : Nat)) : Int)) (must (eqI (List.getD t29o t31.toNat (0 : Int)) (↑((0 : Nat) + (1 : Nat) + (1 : Nat)) : Int)) (cond ((leI vars1 ob0.v2)) (some (((10 : Int), ()))) (cond ((ltI ob0.v2 (0 : Int))) (cond (!eqI ob0.kind (2 : Int)) (some (((10 : Int), ()))) (A_11 vars1 t30 ((wr (t31 + (1 : Int)))) (Stp.mk ob0.kind ob0.v0 ob0.v1 ob0.v2 (ob0.q0) (ob0.q1) (ob0.q2) (ob0.q3) (ob0.q4)) t29o)) (A_11 vars1 t30 ((wr (t31 + (1 : Int)))) (Stp.mk ob0.kind ob0.v0 ob0.v1 ob0.v2 (ob0.q0) (ob0.q1) (ob0.q2) (ob0.q3) (ob0.q4)) t29o)))))))) (some (((0 : Int), ())))
theorem zlr : zhZ = zh4 := by
  (repeat (apply funext; intro _))
  simp only [zhZ, zh4, hide_eq, zaj, zal, zam, zak]
def zh5 (N n : Nat) (vars1 t30 t31 : Int) (ob0 : Stp) (t29o : List Int) : Option (Int × Unit) :=
  zap (fun A x => zh4 N (fun vars1 t30 t31 ob0 t29o => A ((vars1, ((), ((), (t30, (t31, ()))))), (ob0, (t29o, ())))) x.1.1 x.1.2.2.2.1 x.1.2.2.2.2.1 x.2.1 x.2.2.1) n ((vars1, ((), ((), (t30, (t31, ()))))), (ob0, (t29o, ())))
theorem zls : zh0 = zh5 := by
  (repeat (apply funext; intro _))
  simp only [zh0, zh5, zlr, zaj, zal, zam, zak]
def zlt (N : Nat) (A_5 : Int -> (List Fr) -> Int -> Stp -> (List Int) -> Option (Int × Unit)) (vars1 : Int) (t21 : List Fr) (t22 : Int) (ob0 : Stp) (l5o : List Int) : Option (Int × Unit) :=
  cond ((ltI t22 (5 : Int))) (must (leI (0 : Int) t22 && (ltI t22 (↑(5 : Nat) : Int) && ltI t22 (↑t21.length : Int))) (Option.bind (q79 N ((List.getD t21 t22.toNat (Fr.zero)))) fun rr0 => cond (!rr0.1) (some (((4 : Int), ()))) (A_5 vars1 t21 ((wr (t22 + (1 : Int)))) (Stp.mk ob0.kind ob0.v0 ob0.v1 ob0.v2 (ob0.q0) (ob0.q1) (ob0.q2) (ob0.q3) (ob0.q4)) l5o))) (zh5 N N vars1 ((↑l5o.length : Int)) (0 : Int) (Stp.mk ob0.kind ob0.v0 ob0.v1 ob0.v2 (ob0.q0) (ob0.q1) (ob0.q2) (ob0.q3) (ob0.q4)) l5o)
theorem zmK : zkY = zlt := by
  (repeat (apply funext; intro _))
  simp only [zkY, zlt, hide_eq, zls, zpG, zaj, zal, zam, zak]
def zlu (N n : Nat) (vars1 : Int) (t21 : List Fr) (t22 : Int) (ob0 : Stp) (l5o : List Int) : Option (Int × Unit) :=
  zap (fun A x => zlt N (fun vars1 t21 t22 ob0 l5o => A ((vars1, ((), ((), (t21, (t22, ()))))), (ob0, (l5o, ())))) x.1.1 x.1.2.2.2.1 x.1.2.2.2.2.1 x.2.1 x.2.2.1) n ((vars1, ((), ((), (t21, (t22, ()))))), (ob0, (l5o, ())))
theorem zmL : zkZ = zlu := by
  (repeat (apply funext; intro _))
  simp only [zkZ, zlu, zmK, zaj, zal, zam, zak]
def q192 (N : Nat) (s0 : Stp) (vars1 : Int) : Option (Int × Unit) :=
  Option.bind (q217 N s0.kind) fun rr0 => cond (!rr0.2.1) (some (((11 : Int), ()))) (zlu N N vars1 ([s0.q0, s0.q1, s0.q2, s0.q3, s0.q4]) (0 : Int) (Stp.mk s0.kind s0.v0 s0.v1 s0.v2 (s0.q0) (s0.q1) (s0.q2) (s0.q3) (s0.q4)) rr0.1)
theorem zpJ : p192 = q192 := by
  (repeat (apply funext; intro _))
  simp only [p192, q192, hide_eq, zmL, zpH, zaj, zal, zam, zak]
end
section
def fmul (x y : Fr) : Fr := frN (fv x * fv y % RR)
end
section
def nm (L x : Nat) : Fr := fmul (frN (7 ^ (x / 2 ^ L) % RR)) (frN (zqY L ^ (x % 2 ^ L) % RR))
def pre (l : List Fr) : Nat -> Nat
  | 0 => 1
  | i + 1 => pre l i * fv (l.getD i Fr.zero)
end
end Go.Proofs.Ytgimohchocjgcaa.V
