import Derived.Test.YtgimohchocjgcaaVFM
import Derived.KernelRfl
import Derived.Test.YtgimohchocjgcaaVME
import Derived.Test.YtgimohchocjgcaaVBP2
set_option linter.unusedVariables false
set_option linter.unusedSimpArgs false
namespace Go.Proofs.Ytgimohchocjgcaa.V
section
def zq8 (N : Nat) (A_2 : (List UInt64) -> Int -> Option (List UInt64 × Unit)) (a0 : List UInt64) (n3 : Int) : Option (List UInt64 × Unit) :=
  cond ((ltI (0 : Int) n3)) (must (leI (0 : Int) ((wr (n3 - (1 : Int)))) && ltI ((wr (n3 - (1 : Int)))) (↑a0.length : Int)) (cond ((List.getD a0 (Int.toNat ((wr (n3 - (1 : Int))))) (0 : UInt64) == (0 : UInt64))) (A_2 a0 ((wr (n3 - (1 : Int))))) (must (leI (0 : Int) n3 && leI n3 (↑a0.length : Int)) (must (leN (((0 : Nat) + List.length (List.take (Int.toNat (n3 - (0 : Int))) a0)) * (8 : Nat)) (140737488355328 : Nat)) (some ((List.take (Int.toNat (n3 - (0 : Int))) a0, ()))))))) (must (leI (0 : Int) n3 && leI n3 (↑a0.length : Int)) (must (leN (((0 : Nat) + List.length (List.take (Int.toNat (n3 - (0 : Int))) a0)) * (8 : Nat)) (140737488355328 : Nat)) (some ((List.take (Int.toNat (n3 - (0 : Int))) a0, ())))))
def zq9 (N n : Nat) (a0 : List UInt64) (n3 : Int) : Option (List UInt64 × Unit) :=
  zao (fun A x => zq8 N (fun a0 n3 => A ((a0, (n3, ())), ())) x.1.1 x.1.2.1) n ((a0, (n3, ())), ())
def q158 (N : Nat) (a0 : List UInt64) : Option (List UInt64 × Unit) :=
  zq9 N N a0 ((↑a0.length : Int))
def q160 (N : Nat) (a0 : List UInt64) (i1 : Int) : Option (UInt64 × Unit) :=
  cond ((ltI i1 (↑a0.length : Int))) (must (leI (0 : Int) i1 && ltI i1 (↑a0.length : Int)) (some ((List.getD a0 i1.toNat (0 : UInt64), ())))) (some (((0 : UInt64), ())))
theorem zra : p160 = q160 := by
  (repeat (apply funext; intro _))
  simp only [p160, q160, hide_eq]
def zdH (N : Nat) (A_1000 : (List UInt64) -> (List UInt64) -> Int -> Option (Int × Unit)) (a0 b1 : List UInt64) (i5 : Int) : Option (Int × Unit) :=
  cond ((ltI ((wr (i5 - (1 : Int)))) (0 : Int))) (some (((0 : Int), ()))) (Option.bind (q160 N a0 ((wr (i5 - (1 : Int))))) fun r0 => Option.bind (q160 N b1 ((wr (i5 - (1 : Int))))) fun r1 => cond ((ltN r0.1.toNat r1.1.toNat)) (some (((-1 : Int), ()))) (cond ((ltN r1.1.toNat r0.1.toNat)) (some (((1 : Int), ()))) (A_1000 a0 b1 ((wr (i5 - (1 : Int)))))))
theorem zkm : zgI = zdH := by
  (repeat (apply funext; intro _))
  simp only [zgI, zdH, hide_eq, zra]
def zcZ (N n : Nat) (a0 b1 : List UInt64) (i5 : Int) : Option (Int × Unit) :=
  zao (fun A x => zdH N (fun a0 b1 i5 => A ((a0, (b1, (i5, ()))), ())) x.1.1 x.1.2.1 x.1.2.2.1) n ((a0, (b1, (i5, ()))), ())
theorem zkn : zgJ = zcZ := by
  (repeat (apply funext; intro _))
  simp only [zgJ, zcZ, zkm]
theorem zgL (N n : Nat) (a0 b1 : List UInt64) (i5 : Int) : zcZ N (n + 1) a0 b1 i5 = zdH N (zcZ N n) a0 b1 i5 := rfl
def q61 (N : Nat) (a0 b1 : List UInt64) : Option (Int × Unit) :=
  zcZ N N a0 b1 (mxI (↑a0.length : Int) (↑b1.length : Int))
theorem zs6 : p61 = q61 := by
  (repeat (apply funext; intro _))
  simp only [p61, q61, zkn]
def zs7 (N : Nat) (A_5 : (List UInt64) -> (List UInt64) -> Int -> UInt64 -> Int -> Int -> (List UInt64) -> Option (List UInt64 × Unit)) (a0 b1 : List UInt64) (n5 : Int) (carry7 : UInt64) (t17 t18 : Int) (out6o : List UInt64) : Option (List UInt64 × Unit) :=
  cond ((ltI t18 t17)) (Option.bind (q160 N a0 t18) fun r1 => Option.bind (q160 N b1 t18) fun r2 => Option.bind (kAdd r1.1 r2.1 carry7) fun r3 => must (leI (0 : Int) t18 && ltI t18 (↑out6o.length : Int)) (A_5 a0 b1 n5 r3.2 t17 ((wr (t18 + (1 : Int)))) (setL out6o t18.toNat r3.1))) (must (leI (0 : Int) n5 && ltI n5 (↑out6o.length : Int)) (Option.bind (q158 N (setL out6o n5.toNat carry7)) fun r0 => some ((Prod.fst r0, ()))))
def zs8 (N n : Nat) (a0 b1 : List UInt64) (n5 : Int) (carry7 : UInt64) (t17 t18 : Int) (out6o : List UInt64) : Option (List UInt64 × Unit) :=
  zao (fun A x => zs7 N (fun a0 b1 n5 carry7 t17 t18 out6o => A ((a0, (b1, (n5, ((), (carry7, (t17, (t18, ()))))))), (out6o, ()))) x.1.1 x.1.2.1 x.1.2.2.1 x.1.2.2.2.2.1 x.1.2.2.2.2.2.1 x.1.2.2.2.2.2.2.1 x.2.1) n ((a0, (b1, (n5, ((), (carry7, (t17, (t18, ()))))))), (out6o, ()))
def q62 (N : Nat) (a0 b1 : List UInt64) : Option (List UInt64 × Unit) :=
  must (leI (0 : Int) ((wr (mxI (↑a0.length : Int) (↑b1.length : Int) + (1 : Int)))) && (eqI ((wr (mxI (↑a0.length : Int) (↑b1.length : Int) + (1 : Int)))) ((wr (mxI (↑a0.length : Int) (↑b1.length : Int) + (1 : Int)))) && leN (Int.toNat ((wr (mxI (↑a0.length : Int) (↑b1.length : Int) + (1 : Int)))) * (8 : Nat)) (140737488355328 : Nat))) (zs8 N N a0 b1 (mxI (↑a0.length : Int) (↑b1.length : Int)) (0 : UInt64) (mxI (↑a0.length : Int) (↑b1.length : Int)) (0 : Int) (List.replicate (Int.toNat ((wr (mxI (↑a0.length : Int) (↑b1.length : Int) + (1 : Int))))) (0 : UInt64)))
def q163 (N : Nat) (x0 y1 : UInt64) : Option (UInt64 × UInt64 × Unit) :=
  some ((((((zaX x0 (UInt64.toNat (32 : UInt64))) * (zaX y1 (UInt64.toNat (32 : UInt64)))) + (zaX ((((zaX x0 (UInt64.toNat (32 : UInt64))) * (y1 &&& (4294967295 : UInt64))) + (zaX (((x0 &&& (4294967295 : UInt64)) * (y1 &&& (4294967295 : UInt64)))) (UInt64.toNat (32 : UInt64))))) (UInt64.toNat (32 : UInt64)))) + (zaX ((((((zaX x0 (UInt64.toNat (32 : UInt64))) * (y1 &&& (4294967295 : UInt64))) + (zaX (((x0 &&& (4294967295 : UInt64)) * (y1 &&& (4294967295 : UInt64)))) (UInt64.toNat (32 : UInt64)))) &&& (4294967295 : UInt64)) + ((x0 &&& (4294967295 : UInt64)) * (zaX y1 (UInt64.toNat (32 : UInt64)))))) (UInt64.toNat (32 : UInt64)))), (x0 * y1), ()))
def zs9 (N : Nat) (A_3 : (List UInt64) -> (List UInt64) -> Int -> Int -> (List UInt64) -> Option (List UInt64 × Unit)) (A_7 : (List UInt64) -> Int -> UInt64 -> UInt64 -> (List UInt64) -> Int -> Int -> (List UInt64) -> Int -> Int -> (List UInt64) -> Option (List UInt64 × Unit)) (b1 : List UInt64) (i6 : Int) (x7 over8 : UInt64) (t21 : List UInt64) (t22 t23 : Int) (t28 : List UInt64) (t29 t30 : Int) (out5o : List UInt64) : Option (List UInt64 × Unit) :=
  cond ((ltI t30 t29)) (must (leI (0 : Int) t30 && ltI t30 (↑t28.length : Int)) (Option.bind (q163 N x7 (List.getD t28 t30.toNat (0 : UInt64))) fun r0 => must (leI (0 : Int) ((wr (i6 + t30))) && ltI ((wr (i6 + t30))) (↑out5o.length : Int)) (Option.bind (kAdd (r0.2.1) (List.getD out5o (Int.toNat ((wr (i6 + t30)))) (0 : UInt64)) (0 : UInt64)) fun r1 => Option.bind (kAdd r1.1 over8 (0 : UInt64)) fun r2 => must (leI (0 : Int) ((wr (i6 + t30))) && ltI ((wr (i6 + t30))) (↑out5o.length : Int)) (A_7 b1 i6 x7 (((Prod.fst r0 + Prod.snd r1) + Prod.snd r2)) t21 t22 t23 t28 t29 ((wr (t30 + (1 : Int)))) (setL out5o (Int.toNat ((wr (i6 + t30)))) r2.1))))) (must (leI (0 : Int) ((wr (i6 + (↑b1.length : Int)))) && ltI ((wr (i6 + (↑b1.length : Int)))) (↑out5o.length : Int)) (A_3 b1 t21 t22 ((wr (t23 + (1 : Int)))) (setL out5o (Int.toNat ((wr (i6 + (↑b1.length : Int))))) over8)))
def zta (N : Nat) (A_3 : (List UInt64) -> (List UInt64) -> Int -> Int -> (List UInt64) -> Option (List UInt64 × Unit)) (n : Nat) (b1 : List UInt64) (i6 : Int) (x7 over8 : UInt64) (t21 : List UInt64) (t22 t23 : Int) (t28 : List UInt64) (t29 t30 : Int) (out5o : List UInt64) : Option (List UInt64 × Unit) :=
  zao (fun A x => zs9 N A_3 (fun b1 i6 x7 over8 t21 t22 t23 t28 t29 t30 out5o => A ((b1, ((), (i6, (x7, (over8, (t21, (t22, (t23, (t28, (t29, (t30, ()))))))))))), (out5o, ()))) x.1.1 x.1.2.2.1 x.1.2.2.2.1 x.1.2.2.2.2.1 x.1.2.2.2.2.2.1 x.1.2.2.2.2.2.2.1 x.1.2.2.2.2.2.2.2.1 x.1.2.2.2.2.2.2.2.2.1 x.1.2.2.2.2.2.2.2.2.2.1 x.1.2.2.2.2.2.2.2.2.2.2.1 x.2.1) n ((b1, ((), (i6, (x7, (over8, (t21, (t22, (t23, (t28, (t29, (t30, ()))))))))))), (out5o, ()))
def ztb (N : Nat) (A_3 : (List UInt64) -> (List UInt64) -> Int -> Int -> (List UInt64) -> Option (List UInt64 × Unit)) (b1 t21 : List UInt64) (t22 t23 : Int) (out5o : List UInt64) : Option (List UInt64 × Unit) :=
  cond ((ltI t23 t22)) (must (leI (0 : Int) t23 && ltI t23 (↑t21.length : Int)) (zta N A_3 N b1 t23 (List.getD t21 t23.toNat (0 : UInt64)) (0 : UInt64) t21 t22 t23 b1 ((↑b1.length : Int)) (0 : Int) out5o)) (Option.bind (q158 N out5o) fun r0 => some ((Prod.fst r0, ())))
def ztc (N n : Nat) (b1 t21 : List UInt64) (t22 t23 : Int) (out5o : List UInt64) : Option (List UInt64 × Unit) :=
  zao (fun A x => ztb N (fun b1 t21 t22 t23 out5o => A ((b1, ((), (t21, (t22, (t23, ()))))), (out5o, ()))) x.1.1 x.1.2.2.1 x.1.2.2.2.1 x.1.2.2.2.2.1 x.2.1) n ((b1, ((), (t21, (t22, (t23, ()))))), (out5o, ()))
def q55 (N : Nat) (a0 b1 : List UInt64) : Option (List UInt64 × Unit) :=
  must (leI (0 : Int) ((wr ((↑a0.length : Int) + (↑b1.length : Int)))) && (eqI ((wr ((↑a0.length : Int) + (↑b1.length : Int)))) ((wr ((↑a0.length : Int) + (↑b1.length : Int)))) && leN (Int.toNat ((wr ((↑a0.length : Int) + (↑b1.length : Int)))) * (8 : Nat)) (140737488355328 : Nat))) (ztc N N b1 a0 ((↑a0.length : Int)) (0 : Int) (List.replicate (Int.toNat ((wr ((↑a0.length : Int) + (↑b1.length : Int))))) (0 : UInt64)))
def zrb (N : Nat) (A_1000 : (List UInt64) -> Int -> (List UInt64) -> (List UInt64) -> Option (List UInt64 × Int × Unit)) (A_18 : (List UInt64) -> Int -> UInt64 -> Int -> Int -> (List UInt64) -> (List UInt64) -> Option (List UInt64 × Int × Unit)) (a0 : List UInt64) (i7 : Int) (borrow10 : UInt64) (t66 t67 : Int) (m1o r6o : List UInt64) : Option (List UInt64 × Int × Unit) :=
  cond ((ltI t67 t66)) (must (leI (0 : Int) t67 && ltI t67 (↑r6o.length : Int)) (Option.bind (q160 N m1o t67) fun r0 => Option.bind (kSub (List.getD r6o t67.toNat (0 : UInt64)) r0.1 borrow10) fun r1 => must (leI (0 : Int) t67 && ltI t67 (↑r6o.length : Int)) (A_18 a0 i7 r1.2 t66 ((wr (t67 + (1 : Int)))) m1o (setL r6o t67.toNat r1.1)))) (A_1000 a0 i7 m1o r6o)
def zrc (N : Nat) (A_1000 : (List UInt64) -> Int -> (List UInt64) -> (List UInt64) -> Option (List UInt64 × Int × Unit)) (n : Nat) (a0 : List UInt64) (i7 : Int) (borrow10 : UInt64) (t66 t67 : Int) (m1o r6o : List UInt64) : Option (List UInt64 × Int × Unit) :=
  zao (fun A x => zrb N A_1000 (fun a0 i7 borrow10 t66 t67 m1o r6o => A ((a0, ((), ((), (i7, (borrow10, (t66, (t67, ()))))))), (m1o, (r6o, ())))) x.1.1 x.1.2.2.2.1 x.1.2.2.2.2.1 x.1.2.2.2.2.2.1 x.1.2.2.2.2.2.2.1 x.2.1 x.2.2.1) n ((a0, ((), ((), (i7, (borrow10, (t66, (t67, ()))))))), (m1o, (r6o, ())))
def zrd (N : Nat) (A_1000 : (List UInt64) -> Int -> (List UInt64) -> (List UInt64) -> Option (List UInt64 × Int × Unit)) (A_11 : (List UInt64) -> Int -> UInt64 -> Int -> Int -> (List UInt64) -> (List UInt64) -> Option (List UInt64 × Int × Unit)) (a0 : List UInt64) (i7 : Int) (carry8 : UInt64) (t41 t42 : Int) (m1o r6o : List UInt64) : Option (List UInt64 × Int × Unit) :=
  cond ((ltI t42 t41)) (must (leI (0 : Int) t42 && ltI t42 (↑r6o.length : Int)) (must (leI (0 : Int) t42 && ltI t42 (↑r6o.length : Int)) (must (leI (0 : Int) t42 && ltI t42 (↑r6o.length : Int)) (A_11 a0 i7 ((zaX (List.getD r6o t42.toNat (0 : UInt64)) (UInt64.toNat (63 : UInt64)))) t41 ((wr (t42 + (1 : Int)))) m1o (setL r6o t42.toNat (((zhW (List.getD r6o t42.toNat (0 : UInt64)) (UInt64.toNat (1 : UInt64))) ||| carry8))))))) (Option.bind (q61 N r6o m1o) fun r0 => cond ((leI (0 : Int) r0.1)) (zrc N A_1000 N a0 i7 (0 : UInt64) ((↑r6o.length : Int)) (0 : Int) m1o r6o) (A_1000 a0 i7 m1o r6o))
def zre (N : Nat) (A_1000 : (List UInt64) -> Int -> (List UInt64) -> (List UInt64) -> Option (List UInt64 × Int × Unit)) (n : Nat) (a0 : List UInt64) (i7 : Int) (carry8 : UInt64) (t41 t42 : Int) (m1o r6o : List UInt64) : Option (List UInt64 × Int × Unit) :=
  zao (fun A x => zrd N A_1000 (fun a0 i7 carry8 t41 t42 m1o r6o => A ((a0, ((), ((), (i7, (carry8, (t41, (t42, ()))))))), (m1o, (r6o, ())))) x.1.1 x.1.2.2.2.1 x.1.2.2.2.2.1 x.1.2.2.2.2.2.1 x.1.2.2.2.2.2.2.1 x.2.1 x.2.2.1) n ((a0, ((), ((), (i7, (carry8, (t41, (t42, ()))))))), (m1o, (r6o, ())))
def znF (N : Nat) (A_1000 : (List UInt64) -> Int -> (List UInt64) -> (List UInt64) -> Option (List UInt64 × Int × Unit)) (a0 : List UInt64) (i7 : Int) (m1o r6o : List UInt64) : Option (List UInt64 × Int × Unit) :=
  cond ((ltI ((wr (i7 - (1 : Int)))) (0 : Int))) (Option.bind (q158 N r6o) fun r0 => some ((Prod.fst r0, (0 : Int), ()))) (must (leI (0 : Int) ((wr (Int.tdiv ((wr (i7 - (1 : Int)))) (64 : Int)))) && ltI ((wr (Int.tdiv ((wr (i7 - (1 : Int)))) (64 : Int)))) (↑a0.length : Int)) (zre N A_1000 N a0 ((wr (i7 - (1 : Int)))) (((zaX (List.getD a0 (Int.toNat ((wr (Int.tdiv ((wr (i7 - (1 : Int)))) (64 : Int))))) (0 : UInt64)) (UInt64.toNat ((u64I ((Int.tmod ((wr (i7 - (1 : Int)))) (64 : Int))))))) &&& (1 : UInt64))) ((↑r6o.length : Int)) (0 : Int) m1o r6o))
def znG (N n : Nat) (a0 : List UInt64) (i7 : Int) (m1o r6o : List UInt64) : Option (List UInt64 × Int × Unit) :=
  zao (fun A x => znF N (fun a0 i7 m1o r6o => A ((a0, ((), ((), (i7, ())))), (m1o, (r6o, ())))) x.1.1 x.1.2.2.2.1 x.2.1 x.2.2.1) n ((a0, ((), ((), (i7, ())))), (m1o, (r6o, ())))
def q52 (N : Nat) (a0 m1 : List UInt64) : Option (List UInt64 × Int × Unit) :=
  Option.bind (q158 N m1) fun r0 => cond ((eqI (↑r0.1.length : Int) (0 : Int))) (some (([], (7 : Int), ()))) (must (leI (0 : Int) ((wr ((↑r0.1.length : Int) + (1 : Int)))) && (eqI ((wr ((↑r0.1.length : Int) + (1 : Int)))) ((wr ((↑r0.1.length : Int) + (1 : Int)))) && leN (Int.toNat ((wr ((↑r0.1.length : Int) + (1 : Int)))) * (8 : Nat)) (140737488355328 : Nat))) (znG N N a0 ((wr ((64 : Int) * (↑a0.length : Int)))) r0.1 (List.replicate (Int.toNat ((wr ((↑r0.1.length : Int) + (1 : Int))))) (0 : UInt64))))
def ztd (N : Nat) (A_6 : Int -> Int -> Int -> (List UInt8) -> (List UInt64) -> Option (List UInt8 × Int × Unit)) (A_9 : Int -> Int -> UInt64 -> Int -> Int -> Int -> (List UInt8) -> (List UInt64) -> Option (List UInt8 × Int × Unit)) (n1 i7 : Int) (x8 : UInt64) (t23 t24 t29 : Int) (out6o : List UInt8) (t22o : List UInt64) : Option (List UInt8 × Int × Unit) :=
  cond ((ltI t29 (8 : Int))) (cond ((ltI ((wr ((wr ((wr (n1 - (1 : Int))) - (wr ((8 : Int) * i7)))) - t29))) (0 : Int))) (cond (!(UInt8.ofNat (UInt64.toNat ((zaX x8 (UInt64.toNat ((u64I ((wr ((8 : Int) * t29)))))))))) == (0 : UInt8)) (some (([], (8 : Int), ()))) (cond ((leI (0 : Int) ((wr ((wr ((wr (n1 - (1 : Int))) - (wr ((8 : Int) * i7)))) - t29))))) (must (leI (0 : Int) ((wr ((wr ((wr (n1 - (1 : Int))) - (wr ((8 : Int) * i7)))) - t29))) && ltI ((wr ((wr ((wr (n1 - (1 : Int))) - (wr ((8 : Int) * i7)))) - t29))) (↑out6o.length : Int)) (A_9 n1 i7 x8 t23 t24 ((wr (t29 + (1 : Int)))) (setL out6o (Int.toNat ((wr ((wr ((wr (n1 - (1 : Int))) - (wr ((8 : Int) * i7)))) - t29)))) ((UInt8.ofNat (UInt64.toNat ((zaX x8 (UInt64.toNat ((u64I ((wr ((8 : Int) * t29)))))))))))) t22o)) (A_9 n1 i7 x8 t23 t24 ((wr (t29 + (1 : Int)))) out6o t22o))) (cond ((leI (0 : Int) ((wr ((wr ((wr (n1 - (1 : Int))) - (wr ((8 : Int) * i7)))) - t29))))) (must (leI (0 : Int) ((wr ((wr ((wr (n1 - (1 : Int))) - (wr ((8 : Int) * i7)))) - t29))) && ltI ((wr ((wr ((wr (n1 - (1 : Int))) - (wr ((8 : Int) * i7)))) - t29))) (↑out6o.length : Int)) (A_9 n1 i7 x8 t23 t24 ((wr (t29 + (1 : Int)))) (setL out6o (Int.toNat ((wr ((wr ((wr (n1 - (1 : Int))) - (wr ((8 : Int) * i7)))) - t29)))) ((UInt8.ofNat (UInt64.toNat ((zaX x8 (UInt64.toNat ((u64I ((wr ((8 : Int) * t29)))))))))))) t22o)) (A_9 n1 i7 x8 t23 t24 ((wr (t29 + (1 : Int)))) out6o t22o))) (A_6 n1 t23 ((wr (t24 + (1 : Int)))) out6o t22o)
def zte (N : Nat) (A_6 : Int -> Int -> Int -> (List UInt8) -> (List UInt64) -> Option (List UInt8 × Int × Unit)) (n : Nat) (n1 i7 : Int) (x8 : UInt64) (t23 t24 t29 : Int) (out6o : List UInt8) (t22o : List UInt64) : Option (List UInt8 × Int × Unit) :=
  zao (fun A x => ztd N A_6 (fun n1 i7 x8 t23 t24 t29 out6o t22o => A ((n1, ((), (i7, (x8, ((), (t23, (t24, (t29, ())))))))), (out6o, (t22o, ())))) x.1.1 x.1.2.2.1 x.1.2.2.2.1 x.1.2.2.2.2.2.1 x.1.2.2.2.2.2.2.1 x.1.2.2.2.2.2.2.2.1 x.2.1 x.2.2.1) n ((n1, ((), (i7, (x8, ((), (t23, (t24, (t29, ())))))))), (out6o, (t22o, ())))
def ztf (N : Nat) (A_6 : Int -> Int -> Int -> (List UInt8) -> (List UInt64) -> Option (List UInt8 × Int × Unit)) (n1 t23 t24 : Int) (out6o : List UInt8) (t22o : List UInt64) : Option (List UInt8 × Int × Unit) :=
  cond ((ltI t24 t23)) (must (leI (0 : Int) t24 && ltI t24 (↑t22o.length : Int)) (zte N A_6 N n1 t24 (List.getD t22o t24.toNat (0 : UInt64)) t23 t24 (0 : Int) out6o t22o)) (some ((out6o, (0 : Int), ())))
def ztg (N n : Nat) (n1 t23 t24 : Int) (out6o : List UInt8) (t22o : List UInt64) : Option (List UInt8 × Int × Unit) :=
  zao (fun A x => ztf N (fun n1 t23 t24 out6o t22o => A ((n1, ((), ((), (t23, (t24, ()))))), (out6o, (t22o, ())))) x.1.1 x.1.2.2.2.1 x.1.2.2.2.2.1 x.2.1 x.2.2.1) n ((n1, ((), ((), (t23, (t24, ()))))), (out6o, (t22o, ())))
def q57 (N : Nat) (a0 : List UInt64) (n1 : Int) : Option (List UInt8 × Int × Unit) :=
  Option.bind (q158 N a0) fun r0 => cond ((ltI n1 (0 : Int))) (some (([], (8 : Int), ()))) (cond ((ltI (192 : Int) n1)) (some (([], (8 : Int), ()))) (must (leI (0 : Int) n1 && (eqI n1 n1 && leN (Int.toNat n1 * (1 : Nat)) (140737488355328 : Nat))) (ztg N N n1 ((↑r0.1.length : Int)) (0 : Int) (List.replicate n1.toNat (0 : UInt8)) r0.1)))
def zrf (N : Nat) (A_2 : (List UInt64) -> Int -> Option (List UInt64 × Unit)) (a0 : List UInt64) (n3 : Int) : Option (List UInt64 × Unit) :=
  cond ((ltI (0 : Int) n3)) (must (leI (0 : Int) ((wr (n3 - (1 : Int)))) && ltI ((wr (n3 - (1 : Int)))) (↑a0.length : Int)) (cond ((List.getD a0 (Int.toNat ((wr (n3 - (1 : Int))))) (0 : UInt64) == (0 : UInt64))) (A_2 a0 ((wr (n3 - (1 : Int))))) (must (leI (0 : Int) n3 && leI n3 (↑a0.length : Int)) (must (leN (((0 : Nat) + List.length (List.take (Int.toNat (n3 - (0 : Int))) a0)) * (8 : Nat)) (140737488355328 : Nat)) (some ((List.take (Int.toNat (n3 - (0 : Int))) a0, ()))))))) (must (leI (0 : Int) n3 && leI n3 (↑a0.length : Int)) (must (leN (((0 : Nat) + List.length (List.take (Int.toNat (n3 - (0 : Int))) a0)) * (8 : Nat)) (140737488355328 : Nat)) (some ((List.take (Int.toNat (n3 - (0 : Int))) a0, ())))))
def zrg (N n : Nat) (a0 : List UInt64) (n3 : Int) : Option (List UInt64 × Unit) :=
  zao (fun A x => zrf N (fun a0 n3 => A ((a0, (n3, ())), ())) x.1.1 x.1.2.1) n ((a0, (n3, ())), ())
def q161 (N : Nat) (a0 : List UInt64) : Option (List UInt64 × Unit) :=
  zrg N N a0 ((↑a0.length : Int))
def q162 (N : Nat) (a0 : List UInt64) (i1 : Int) : Option (UInt64 × Unit) :=
  cond ((leI (↑a0.length : Int) ((wr (Int.tdiv i1 (64 : Int)))))) (some (((0 : UInt64), ()))) (must (leI (0 : Int) ((wr (Int.tdiv i1 (64 : Int)))) && ltI ((wr (Int.tdiv i1 (64 : Int)))) (↑a0.length : Int)) (must (leI (0 : Int) ((Int.tmod i1 (64 : Int)))) (must (ltI ((Int.tmod i1 (64 : Int))) (18446744073709551616 : Int)) (some ((((zaX (List.getD a0 (Int.toNat ((wr (Int.tdiv i1 (64 : Int))))) (0 : UInt64)) (UInt64.toNat (UInt64.ofNat (Int.toNat ((Int.tmod i1 (64 : Int))))))) &&& (1 : UInt64)), ()))))))
def q165 (N : Nat) (a0 : List UInt64) (i1 : Int) : Option (UInt64 × Unit) :=
  cond ((ltI i1 (↑a0.length : Int))) (must (leI (0 : Int) i1 && ltI i1 (↑a0.length : Int)) (some ((List.getD a0 i1.toNat (0 : UInt64), ())))) (some (((0 : UInt64), ())))
def zth (N : Nat) (A_7 : Int -> (List UInt64) -> (List UInt64) -> Option (Int × Unit)) (i5 : Int) (a0o b1o : List UInt64) : Option (Int × Unit) :=
  cond ((leI (0 : Int) i5)) (must (leI (0 : Int) i5 && ltI i5 (↑a0o.length : Int)) (must (leI (0 : Int) i5 && ltI i5 (↑b1o.length : Int)) (cond ((ltN (UInt64.toNat (List.getD a0o i5.toNat (0 : UInt64))) (UInt64.toNat (List.getD b1o i5.toNat (0 : UInt64))))) (some (((-1 : Int), ()))) (must (leI (0 : Int) i5 && ltI i5 (↑a0o.length : Int)) (must (leI (0 : Int) i5 && ltI i5 (↑b1o.length : Int)) (cond ((ltN (UInt64.toNat (List.getD b1o i5.toNat (0 : UInt64))) (UInt64.toNat (List.getD a0o i5.toNat (0 : UInt64))))) (some (((1 : Int), ()))) (A_7 ((wr (i5 - (1 : Int)))) a0o b1o))))))) (some (((0 : Int), ())))
def zti (N n : Nat) (i5 : Int) (a0o b1o : List UInt64) : Option (Int × Unit) :=
  zao (fun A x => zth N (fun i5 a0o b1o => A (((), ((), (i5, ()))), (a0o, (b1o, ())))) x.1.2.2.1 x.2.1 x.2.2.1) n (((), ((), (i5, ()))), (a0o, (b1o, ())))
def q65 (N : Nat) (a0 b1 : List UInt64) : Option (Int × Unit) :=
  Option.bind (q161 N a0) fun r0 => Option.bind (q161 N b1) fun r1 => cond (!eqI (↑r0.1.length : Int) (↑r1.1.length : Int)) (cond ((ltI (↑r0.1.length : Int) (↑r1.1.length : Int))) (some (((-1 : Int), ()))) (some (((1 : Int), ())))) (zti N N ((wr ((↑r0.1.length : Int) - (1 : Int)))) r0.1 r1.1)
def ztj (N : Nat) (A_4 : (List UInt64) -> (List UInt64) -> UInt64 -> Int -> (List UInt64) -> Option (List UInt64 × Unit)) (a0 b1 : List UInt64) (c6 : UInt64) (i7 : Int) (out5o : List UInt64) : Option (List UInt64 × Unit) :=
  cond ((ltI i7 (mxI (↑a0.length : Int) (↑b1.length : Int)))) (Option.bind (q165 N a0 i7) fun r1 => Option.bind (q165 N b1 i7) fun r2 => Option.bind (kAdd r1.1 r2.1 c6) fun r3 => must (leN ((List.length out5o + List.length [Prod.fst r3]) * (8 : Nat)) (140737488355328 : Nat)) (A_4 a0 b1 r3.2 ((wr (i7 + (1 : Int)))) (out5o ++ [Prod.fst r3]))) (must (leN ((List.length out5o + List.length [c6]) * (8 : Nat)) (140737488355328 : Nat)) (Option.bind (q161 N (out5o ++ [c6])) fun r0 => some ((Prod.fst r0, ()))))
def ztk (N n : Nat) (a0 b1 : List UInt64) (c6 : UInt64) (i7 : Int) (out5o : List UInt64) : Option (List UInt64 × Unit) :=
  zao (fun A x => ztj N (fun a0 b1 c6 i7 out5o => A ((a0, (b1, ((), (c6, (i7, ()))))), (out5o, ()))) x.1.1 x.1.2.1 x.1.2.2.2.1 x.1.2.2.2.2.1 x.2.1) n ((a0, (b1, ((), (c6, (i7, ()))))), (out5o, ()))
def q66 (N : Nat) (a0 b1 : List UInt64) : Option (List UInt64 × Unit) :=
  ztk N N a0 b1 (0 : UInt64) (0 : Int) []
def ztl (N : Nat) (A_6 : (List UInt64) -> (List UInt64) -> UInt64 -> Int -> (List UInt64) -> Option (List UInt64 × Int × Unit)) (a0 b1 : List UInt64) (c7 : UInt64) (i8 : Int) (out6o : List UInt64) : Option (List UInt64 × Int × Unit) :=
  cond ((ltI i8 (mxI (↑a0.length : Int) (↑b1.length : Int)))) (Option.bind (q165 N a0 i8) fun r1 => Option.bind (q165 N b1 i8) fun r2 => Option.bind (kSub r1.1 r2.1 c7) fun r3 => must (leN ((List.length out6o + List.length [Prod.fst r3]) * (8 : Nat)) (140737488355328 : Nat)) (A_6 a0 b1 r3.2 ((wr (i8 + (1 : Int)))) (out6o ++ [Prod.fst r3]))) (Option.bind (q161 N out6o) fun r0 => some ((Prod.fst r0, (0 : Int), ())))
def ztm (N n : Nat) (a0 b1 : List UInt64) (c7 : UInt64) (i8 : Int) (out6o : List UInt64) : Option (List UInt64 × Int × Unit) :=
  zao (fun A x => ztl N (fun a0 b1 c7 i8 out6o => A ((a0, (b1, ((), (c7, (i8, ()))))), (out6o, ()))) x.1.1 x.1.2.1 x.1.2.2.2.1 x.1.2.2.2.2.1 x.2.1) n ((a0, (b1, ((), (c7, (i8, ()))))), (out6o, ()))
def q64 (N : Nat) (a0 b1 : List UInt64) : Option (List UInt64 × Int × Unit) :=
  Option.bind (q65 N a0 b1) fun r0 => cond ((ltI r0.1 (0 : Int))) (some (([], (1 : Int), ()))) (ztm N N a0 b1 (0 : UInt64) (0 : Int) [])
def ztn (N : Nat) (A_6 : (List UInt64) -> Int -> (List UInt64) -> (List UInt64) -> Option (List UInt64 × Int × Unit)) (a0 : List UInt64) (i7 : Int) (m1o r6o : List UInt64) : Option (List UInt64 × Int × Unit) :=
  cond ((leI (0 : Int) i7)) (Option.bind (q66 N r6o r6o) fun r1 => Option.bind (q162 N a0 i7) fun r2 => cond ((Prod.fst r2 == (1 : UInt64))) (Option.bind (q66 N r1.1 ([(1 : UInt64)])) fun r5 => Option.bind (q65 N r5.1 m1o) fun r6 => cond ((leI (0 : Int) r6.1)) (Option.bind (q64 N r5.1 m1o) fun r7 => A_6 a0 ((wr (i7 - (1 : Int)))) m1o r7.1) (A_6 a0 ((wr (i7 - (1 : Int)))) m1o r5.1)) (Option.bind (q65 N r1.1 m1o) fun r3 => cond ((leI (0 : Int) r3.1)) (Option.bind (q64 N r1.1 m1o) fun r4 => A_6 a0 ((wr (i7 - (1 : Int)))) m1o r4.1) (A_6 a0 ((wr (i7 - (1 : Int)))) m1o r1.1))) (Option.bind (q161 N r6o) fun r0 => some ((Prod.fst r0, (0 : Int), ())))
def zto (N n : Nat) (a0 : List UInt64) (i7 : Int) (m1o r6o : List UInt64) : Option (List UInt64 × Int × Unit) :=
  zao (fun A x => ztn N (fun a0 i7 m1o r6o => A ((a0, ((), ((), (i7, ())))), (m1o, (r6o, ())))) x.1.1 x.1.2.2.2.1 x.2.1 x.2.2.1) n ((a0, ((), ((), (i7, ())))), (m1o, (r6o, ())))
def q53 (N : Nat) (a0 m1 : List UInt64) : Option (List UInt64 × Int × Unit) :=
  Option.bind (q161 N m1) fun r0 => cond ((eqI (↑r0.1.length : Int) (0 : Int))) (some (([], (7 : Int), ()))) (zto N N a0 ((wr ((wr ((64 : Int) * (↑a0.length : Int))) - (1 : Int)))) r0.1 [])
def ztp (N : Nat) (A_4 : (List UInt64) -> (List UInt64) -> Int -> Option (Bool × Unit)) (a0 b1 : List UInt64) (i5 : Int) : Option (Bool × Unit) :=
  cond ((ltI i5 (↑a0.length : Int))) (must (leI (0 : Int) i5 && ltI i5 (↑a0.length : Int)) (must (leI (0 : Int) i5 && ltI i5 (↑b1.length : Int)) (cond (!List.getD a0 i5.toNat (0 : UInt64) == List.getD b1 i5.toNat (0 : UInt64)) (some ((false, ()))) (A_4 a0 b1 ((wr (i5 + (1 : Int)))))))) (some ((true, ())))
def ztq (N n : Nat) (a0 b1 : List UInt64) (i5 : Int) : Option (Bool × Unit) :=
  zao (fun A x => ztp N (fun a0 b1 i5 => A ((a0, (b1, (i5, ()))), ())) x.1.1 x.1.2.1 x.1.2.2.1) n ((a0, (b1, (i5, ()))), ())
def q54 (N : Nat) (a0 b1 : List UInt64) : Option (Bool × Unit) :=
  cond (!eqI (↑a0.length : Int) (↑b1.length : Int)) (some ((false, ()))) (ztq N N a0 b1 (0 : Int))
def q51 (N : Nat) : Option (Bool × Unit) :=
  Option.bind (q52 N ([(7 : UInt64)]) ([(4 : UInt64)])) fun r0 => Option.bind (q57 N ([(258 : UInt64)]) (2 : Int)) fun r1 => cond ((eqI (r0.2.1) (0 : Int))) (cond ((eqI (↑r0.1.length : Int) (1 : Int))) (must (ltI (0 : Int) (↑r0.1.length : Int)) (cond ((List.getD r0.1 (0 : Nat) (0 : UInt64) == (3 : UInt64))) (cond ((eqI (r1.2.1) (0 : Int))) (cond ((eqB r1.1 [(1 : UInt8), (2 : UInt8)])) (Option.bind (q62 N ([(1 : UInt64)]) []) fun r2 => cond ((eqI (↑r2.1.length : Int) (1 : Int))) (Option.bind (q55 N ([(9223372036854775808 : UInt64)]) ([(2 : UInt64)])) fun r3 => cond ((eqI (↑r3.1.length : Int) (2 : Int))) (Option.bind (q61 N ([(1 : UInt64)]) []) fun r4 => some (((eqI r4.1 (1 : Int)), ()))) (some ((false, ())))) (some ((false, ())))) (some ((false, ())))) (some ((false, ())))) (some ((false, ()))))) (some ((false, ())))) (some ((false, ())))
end
section
def q6 (N : Nat) (a0 m1 : List UInt64) : Option (Bool × Unit) :=
  Option.bind (q51 N) fun r0 => cond (!r0.1) (some ((false, ()))) (cond ((ltI (24 : Int) (↑a0.length : Int))) (some ((true, ()))) (cond ((ltI (12 : Int) (↑m1.length : Int))) (some ((true, ()))) (Option.bind (q52 N a0 m1) fun r1 => Option.bind (q53 N a0 m1) fun r2 => cond ((eqI (r1.2.1) (r2.2.1))) (Option.bind (q54 N r1.1 r2.1) fun r3 => some ((Prod.fst r3, ()))) (some ((false, ()))))))
end
section
def q75 (N : Nat) (n0 : UInt64) : Option (Fr × Unit) :=
  some (({ a0 := n0, a1 := (0 : UInt64), a2 := (0 : UInt64), a3 := (0 : UInt64) }, ()))
theorem ztr : p75 = q75 := by
  (repeat (apply funext; intro _))
  simp only [p75, q75, ]
def q169 (N : Nat) : Option (Fr × Unit) :=
  some (({ a0 := (18446744069414584321 : UInt64), a1 := (6034159408538082302 : UInt64), a2 := (3691218898639771653 : UInt64), a3 := (8353516859464449352 : UInt64) }, ()))
theorem zrh : p169 = q169 := by
  (repeat (apply funext; intro _))
  simp only [p169, q169, ]
def q79 (N : Nat) (a0 : Fr) : Option (Bool × Unit) :=
  Option.bind (q169 N) fun r0 => Option.bind (q61 N (List.take (Int.toNat ((↑(4 : Nat) : Int) - (0 : Int))) [Fr.a0 a0, Fr.a1 a0, Fr.a2 a0, Fr.a3 a0]) (List.take (Int.toNat ((↑(4 : Nat) : Int) - (0 : Int))) [Fr.a0 r0.1, Fr.a1 r0.1, Fr.a2 r0.1, Fr.a3 r0.1])) fun r1 => some (((ltI r1.1 (0 : Int)), ()))
theorem zri : p79 = q79 := by
  (repeat (apply funext; intro _))
  simp only [p79, q79, hide_eq, zrh, zs6]
end
section
def lv : List UInt64 -> Nat
  | [] => 0
  | x :: l => x.toNat + 18446744073709551616 * lv l
theorem zel (l : List UInt64) (i : Nat) : lv (l.take (i + 1)) = lv (l.take i) + 18446744073709551616 ^ i * (l.getD i 0).toNat := by
  induction l generalizing i with
  | nil => simp [lv]
  | cons x l ih =>
    cases i with
    | zero => simp [lv]
    | succ i =>
      simp only [List.take_succ_cons, lv, ih i, List.getD_cons_succ, Nat.pow_succ]
      generalize 18446744073709551616 ^ i = p
      rw [Nat.mul_add, Nat.add_assoc]
      congr 2
      rw [Nat.mul_comm p 18446744073709551616, Nat.mul_assoc]
theorem zfp {l : List UInt64} {n : Nat} (h : l.length <= n) : lv (l.take n) = lv l := by
  rw [List.take_of_length_le h]
theorem zts (l : List UInt64) : lv l < 18446744073709551616 ^ l.length := by
  induction l with
  | nil => simp [lv]
  | cons x l ih =>
    have hx := x.toNat_lt
    simp only [lv, List.length_cons, Nat.pow_succ]
    have h2 : 18446744073709551616 * (lv l + 1) <= 18446744073709551616 * 18446744073709551616 ^ l.length := Nat.mul_le_mul_left _ ih
    rw [Nat.mul_comm (18446744073709551616 ^ l.length)]
    omega
theorem zf8 (l : List UInt64) (i : Nat) : lv (l.take i) < 18446744073709551616 ^ i := by
  refine Nat.lt_of_lt_of_le (zts _) (Nat.pow_le_pow_right (by decide) ?_)
  rw [List.length_take]; omega
theorem zfq {l : List UInt64} {i : Nat} (h : l.length <= i) : l.getD i 0 = 0 := by
  rw [List.getD_eq_getElem?_getD, List.getElem?_eq_none h]; rfl
theorem zpH {k : Nat} (h : k < 9223372036854775807) : wr (((k + 1 : Nat) : Int) - 1) = (k : Int) := by
  rw [zfC (by omega) (by omega)]; omega
theorem zpI (a b : Nat) : mxI (a : Int) (b : Int) = ((max a b : Nat) : Int) := by
  unfold mxI
  rw [zlB]
  by_cases h : a < b
  . rw [zew h, cond_true]; congr 1; omega
  . rw [zdG h, cond_false]; congr 1; omega
end
section
theorem zme (N : Nat) (a : List UInt64) (i : Nat) : q160 N a (i : Int) = some (a.getD i 0, ()) := by
  unfold q160
  rw [zlB]
  by_cases h : i < a.length
  . rw [zew h, cond_true, zdF, Bool.true_and, zqm rfl]
    rfl
  . rw [zdG h, cond_false, zfq (by omega)]
def cmpN (a b : Nat) : Int := if a < b then -1 else if b < a then 1 else 0
theorem zrj (N : Nat) (a b : List UInt64) : ∀ n k : Nat, k < n -> k < 9223372036854775807 -> (∀ j, k <= j -> a.getD j 0 = b.getD j 0) -> zcZ N n a b (k : Int) = some (cmpN (lv (a.take k)) (lv (b.take k)), ()) := by
  intro n
  induction n with
  | zero => intro k h; omega
  | succ n ih =>
    intro k hn hb h0
    rw [zgL]
    unfold zdH
    cases k with
    | zero =>
      rw [show wr (((0 : Nat) : Int) - 1) = -1 from zfC (by omega) (by omega), show ltI (-1) 0 = true from rfl, cond_true]
      simp [cmpN, lv]
    | succ k =>
      rw [zpH (by omega), znv, cond_false, zme, zme, zel, zel]
      simp only [Option.bind_some]
      have h1 := zf8 a k
      have h2 := zf8 b k
      generalize 18446744073709551616 ^ k = p at h1 h2 ⊢
      by_cases e1 : (a.getD k 0).toNat < (b.getD k 0).toNat
      . rw [zew e1, cond_true]
        have : p * ((a.getD k 0).toNat + 1) <= p * (b.getD k 0).toNat := Nat.mul_le_mul_left _ e1
        rw [Nat.mul_add] at this
        simp only [cmpN]
        rw [if_pos (by omega)]
      . rw [zdG e1, cond_false]
        by_cases e2 : (b.getD k 0).toNat < (a.getD k 0).toNat
        . rw [zew e2, cond_true]
          have : p * ((b.getD k 0).toNat + 1) <= p * (a.getD k 0).toNat := Nat.mul_le_mul_left _ e2
          rw [Nat.mul_add] at this
          simp only [cmpN]
          rw [if_neg (by omega), if_pos (by omega)]
        . rw [zdG e2, cond_false]
          have e3 : (a.getD k 0).toNat = (b.getD k 0).toNat := by omega
          rw [ih k (by omega) (by omega) fun j hj => ?_]
          . simp only [cmpN, e3, Nat.add_lt_add_iff_right]
          . by_cases e : j = k
            . rw [e]; exact UInt64.toNat_inj.1 e3
            . exact h0 j (by omega)
theorem zrk {N : Nat} {a b : List UInt64} (ha : a.length < 1000000) (hb : b.length < 1000000) (hN : max a.length b.length < N) : q61 N a b = some (cmpN (lv a) (lv b), ()) := by
  unfold q61
  rw [zpI, zrj N a b N _ hN (by omega) fun j hj => by rw [zfq (by omega), zfq (by omega)], zfp (by omega), zfp (by omega)]
end
section
theorem znH {n : Nat} (h : n < 18446744073709551616) : (u64I (n : Int)).toNat = n := by
  unfold u64I
  rw [UInt64.toNat_ofNat']
  omega
end
section
theorem mst {R : Type} {x : Option R} : must true x = x := rfl
def RR : Nat := 52435875175126190479447740508185965837690552500527637822603658699938581184513
def fv (x : Fr) : Nat := lv x.l
end
section
def mL : List UInt64 := [18446744069414584321, 6034159408538082302, 3691218898639771653, 8353516859464449352]
theorem ztt : lv mL = RR := by decide +kernel
theorem zmf (x : Nat) : x % RR < RR := Nat.mod_lt _ (by decide)
end
section
theorem mst2 {R : Type} {x : Option R} : must true x = x := by rw [mst]
theorem bsm {α β : Type} {a : α} {f : α -> Option β} : Option.bind (some a) f = f a := by rw [Option.bind_some]
end
section
theorem i4 : (4 : Int) = ((4 : Nat) : Int) := rfl
end
section
def frN (n : Nat) : Fr := ⟨UInt64.ofNat n, UInt64.ofNat (n / 18446744073709551616), UInt64.ofNat (n / 18446744073709551616 / 18446744073709551616), UInt64.ofNat (n / 18446744073709551616 / 18446744073709551616 / 18446744073709551616)⟩
theorem zrl {n : Nat} (h : n < 18446744073709551616 ^ 4) : fv (frN n) = n := by
  simp only [fv, frN, Fr.l, lv, UInt64.toNat_ofNat']
  omega
theorem ztu : RR < 18446744073709551616 ^ 4 := by decide
theorem zpJ {n : Nat} (h : n < RR) : fv (frN n) = n := zrl (Nat.lt_trans h ztu)
theorem zrm (n : Nat) : fv (frN (n % RR)) = n % RR := zpJ (zmf n)
theorem zoz (x y : Fr) : eqL El.u64 [x.a0, x.a1, x.a2, x.a3] [y.a0, y.a1, y.a2, y.a3] = decide (x = y) := by
  obtain ⟨a, b, c, d⟩ := x
  obtain ⟨a', b', c', d'⟩ := y
  rw [Bool.eq_iff_iff, decide_eq_true_iff]
  simp [eqL, eqE, eq64, and_assoc]
where
  alg4 (B A1 A2 A3 P x y c s d : Nat) (hv : A1 + P * c = A2 + A3) (h3 : s + B * d = x + y + c) : A1 + P * s + P * B * d = A2 + P * x + (A3 + P * y) := by
    have e : P * (s + B * d) = P * (x + y + c) := by rw [h3]
    grind
end
section
theorem znI (n : UInt64) : fv ⟨n, 0, 0, 0⟩ = n.toNat := by simp [fv, Fr.l, lv]
theorem zpK (x y : Nat) : ltI (cmpN x y) 0 = decide (x < y) := by
  unfold cmpN
  split
  . rename_i h; rw [decide_eq_true h]; rfl
  . rename_i h
    rw [decide_eq_false h]
    split <;> rfl
theorem zrn {N : Nat} (hN : 10 < N) (a : Fr) : q79 N a = some (decide (fv a < RR), ()) := by
  have hq : q79 N a = Option.bind (q61 N a.l mL) fun r1 => some (((ltI r1.1 (0 : Int)), ())) := rfl
  rw [hq, zrk (N := N) (a := a.l) (b := mL) (show (4 : Nat) < 1000000 by omega) (show (4 : Nat) < 1000000 by omega) (show max 4 4 < N by omega), ztt]
  simp only [bsm]
  rw [zpK]
  rfl
def Cg (a b : Nat) : Prop := a % RR = b % RR
theorem Cg.rfl' {a : Nat} : Cg a a := rfl
theorem Cg.symm {a b : Nat} (h : Cg a b) : Cg b a := Eq.symm h
theorem Cg.trans {a b c : Nat} (h : Cg a b) (g : Cg b c) : Cg a c := Eq.trans h g
theorem Cg.mul {a b c d : Nat} (h1 : Cg a b) (h2 : Cg c d) : Cg (a * c) (b * d) := by
  unfold Cg at *
  rw [Nat.mul_mod, h1, h2, ← Nat.mul_mod]
theorem Cg.add {a b c d : Nat} (h1 : Cg a b) (h2 : Cg c d) : Cg (a + c) (b + d) := by
  unfold Cg at *
  rw [Nat.add_mod, h1, h2, ← Nat.add_mod]
theorem Cg.pow {a b : Nat} (h1 : Cg a b) (n : Nat) : Cg (a ^ n) (b ^ n) := by
  induction n with
  | zero => exact Cg.rfl'
  | succ n ih => rw [Nat.pow_succ, Nat.pow_succ]; exact ih.mul h1
theorem Cg.lt {a b : Nat} (h : Cg a b) (ha : a < RR) : a = b % RR := by
  unfold Cg at h
  rw [← h, Nat.mod_eq_of_lt ha]
end
section
def nd (q : Nat) : Nat -> Nat -> Bool
  | 0, lo => !(Nat.beq (q % lo) 0)
  | k + 1, lo => nd q k lo && nd q k (lo + 2 ^ k)
end
section
theorem zaj (x : Fr) : Fr.mk x.a0 x.a1 x.a2 x.a3 = x := rfl
theorem zak : Fr.mk 0 0 0 0 = Fr.zero := rfl
def eqF (x y : Fr) : Bool := decide (x = y)
theorem zal (x y : Fr) : eqL El.u64 [x.a0, x.a1, x.a2, x.a3] [y.a0, y.a1, y.a2, y.a3] = eqF x y := zoz x y
theorem zam (x : Fr) (n : UInt64) : eqL El.u64 [x.a0, x.a1, x.a2, x.a3] [n, (0 : UInt64), (0 : UInt64), (0 : UInt64)] = eqF x ⟨n, 0, 0, 0⟩ := zoz x ⟨n, 0, 0, 0⟩
def ztv (log : Nat) : Nat := 7 ^ ((RR - 1) / 2 ^ log) % RR
class Big (N : Nat) : Prop where
  h : 2000 <= N
instance : Big 2000 := ⟨Nat.le_refl _⟩
end
section
def q217 (N : Nat) (kind0 : Int) : Option (List Int × Bool × Unit) :=
  cond ((eqI kind0 (1 : Int))) (some (([], true, ()))) (cond ((eqI kind0 (2 : Int))) (cond ((eqI kind0 (2 : Int))) (some (([(0 : Int), (1 : Int), (2 : Int)], true, ()))) (cond ((eqI kind0 (3 : Int))) (cond ((eqI kind0 (3 : Int))) (some (([(0 : Int)], true, ()))) (cond ((eqI kind0 (4 : Int))) (some (([(0 : Int), (2 : Int)], true, ()))) (cond ((eqI kind0 (6 : Int))) (some (([(0 : Int), (1 : Int)], true, ()))) (some (([], false, ())))))) (cond ((eqI kind0 (7 : Int))) (some (([(0 : Int)], true, ()))) (cond ((eqI kind0 (4 : Int))) (some (([(0 : Int), (2 : Int)], true, ()))) (cond ((eqI kind0 (6 : Int))) (some (([(0 : Int), (1 : Int)], true, ()))) (some (([], false, ())))))))) (cond ((eqI kind0 (5 : Int))) (some (([(0 : Int), (1 : Int), (2 : Int)], true, ()))) (cond ((eqI kind0 (3 : Int))) (cond ((eqI kind0 (3 : Int))) (some (([(0 : Int)], true, ()))) (cond ((eqI kind0 (4 : Int))) (some (([(0 : Int), (2 : Int)], true, ()))) (cond ((eqI kind0 (6 : Int))) (some (([(0 : Int), (1 : Int)], true, ()))) (some (([], false, ())))))) (cond ((eqI kind0 (7 : Int))) (some (([(0 : Int)], true, ()))) (cond ((eqI kind0 (4 : Int))) (some (([(0 : Int), (2 : Int)], true, ()))) (cond ((eqI kind0 (6 : Int))) (some (([(0 : Int), (1 : Int)], true, ()))) (some (([], false, ())))))))))
theorem zro : p217 = q217 := by
  (repeat (apply funext; intro _))
  simp only [p217, q217, hide_eq, zaj, zal, zam, zak]
def q195 (N : Nat) (at0 : Int) (w1 : List Int) : Option (Row × Unit) :=
  must (leI (↑(3 : Nat) : Int) (↑w1.length : Int)) (must (leN ((0 : Nat) + (3 : Nat)) w1.length) (Option.bind (q75 N (1 : UInt64)) fun rr0 => cond (eqI at0 (↑(0 : Nat) : Int)) (must (eqI at0 (↑(0 : Nat) : Int)) (some ((Row.mk (rr0.1) (Fr.zero) (Fr.zero) (Fr.zero) (Fr.zero) (Fr.zero) (Fr.zero) (Fr.zero) (List.getD w1 (0 : Nat) (0 : Int)) (List.getD w1 ((0 : Nat) + (1 : Nat)) (0 : Int)) (List.getD w1 ((0 : Nat) + (1 : Nat) + (1 : Nat)) (0 : Int)), ())))) (cond (eqI at0 (↑((0 : Nat) + (1 : Nat)) : Int)) (must (eqI at0 (↑((0 : Nat) + (1 : Nat)) : Int)) (some ((Row.mk (Fr.zero) (rr0.1) (Fr.zero) (Fr.zero) (Fr.zero) (Fr.zero) (Fr.zero) (Fr.zero) (List.getD w1 (0 : Nat) (0 : Int)) (List.getD w1 ((0 : Nat) + (1 : Nat)) (0 : Int)) (List.getD w1 ((0 : Nat) + (1 : Nat) + (1 : Nat)) (0 : Int)), ())))) (cond (eqI at0 (↑((0 : Nat) + (1 : Nat) + (1 : Nat)) : Int)) (must (eqI at0 (↑((0 : Nat) + (1 : Nat) + (1 : Nat)) : Int)) (some ((Row.mk (Fr.zero) (Fr.zero) (rr0.1) (Fr.zero) (Fr.zero) (Fr.zero) (Fr.zero) (Fr.zero) (List.getD w1 (0 : Nat) (0 : Int)) (List.getD w1 ((0 : Nat) + (1 : Nat)) (0 : Int)) (List.getD w1 ((0 : Nat) + (1 : Nat) + (1 : Nat)) (0 : Int)), ())))) (cond (eqI at0 (↑((0 : Nat) + (1 : Nat) + (1 : Nat) + (1 : Nat)) : Int)) (must (eqI at0 (↑((0 : Nat) + (1 : Nat) + (1 : Nat) + (1 : Nat)) : Int)) (some ((Row.mk (Fr.zero) (Fr.zero) (Fr.zero) (rr0.1) (Fr.zero) (Fr.zero) (Fr.zero) (Fr.zero) (List.getD w1 (0 : Nat) (0 : Int)) (List.getD w1 ((0 : Nat) + (1 : Nat)) (0 : Int)) (List.getD w1 ((0 : Nat) + (1 : Nat) + (1 : Nat)) (0 : Int)), ())))) (cond (eqI at0 (↑((0 : Nat) + (1 : Nat) + (1 : Nat) + (1 : Nat) + (1 : Nat)) : Int)) (must (eqI at0 (↑((0 : Nat) + (1 : Nat) + (1 : Nat) + (1 : Nat) + (1 : Nat)) : Int)) (some ((Row.mk (Fr.zero) (Fr.zero) (Fr.zero) (Fr.zero) (rr0.1) (Fr.zero) (Fr.zero) (Fr.zero) (List.getD w1 (0 : Nat) (0 : Int)) (List.getD w1 ((0 : Nat) + (1 : Nat)) (0 : Int)) (List.getD w1 ((0 : Nat) + (1 : Nat) + (1 : Nat)) (0 : Int)), ())))) (cond (eqI at0 (↑((0 : Nat) + (1 : Nat) + (1 : Nat) + (1 : Nat) + (1 : Nat) + (1 : Nat)) : Int)) (must (eqI at0 (↑((0 : Nat) + (1 : Nat) + (1 : Nat) + (1 : Nat) + (1 : Nat) + (1 : Nat)) : Int)) (some ((Row.mk (Fr.zero) (Fr.zero) (Fr.zero) (Fr.zero) (Fr.zero) (rr0.1) (Fr.zero) (Fr.zero) (List.getD w1 (0 : Nat) (0 : Int)) (List.getD w1 ((0 : Nat) + (1 : Nat)) (0 : Int)) (List.getD w1 ((0 : Nat) + (1 : Nat) + (1 : Nat)) (0 : Int)), ())))) (cond (eqI at0 (↑((0 : Nat) + (1 : Nat) + (1 : Nat) + (1 : Nat) + (1 : Nat) + (1 : Nat) + (1 : Nat)) : Int)) (must (eqI at0 (↑((0 : Nat) + (1 : Nat) + (1 : Nat) + (1 : Nat) + (1 : Nat) + (1 : Nat) + (1 : Nat)) : Int)) (some ((Row.mk (Fr.zero) (Fr.zero) (Fr.zero) (Fr.zero) (Fr.zero) (Fr.zero) (rr0.1) (Fr.zero) (List.getD w1 (0 : Nat) (0 : Int)) (List.getD w1 ((0 : Nat) + (1 : Nat)) (0 : Int)) (List.getD w1 ((0 : Nat) + (1 : Nat) + (1 : Nat)) (0 : Int)), ())))) (must (eqI at0 (↑((0 : Nat) + (1 : Nat) + (1 : Nat) + (1 : Nat) + (1 : Nat) + (1 : Nat) + (1 : Nat) + (1 : Nat)) : Int)) (must (eqI at0 (↑((0 : Nat) + (1 : Nat) + (1 : Nat) + (1 : Nat) + (1 : Nat) + (1 : Nat) + (1 : Nat) + (1 : Nat)) : Int)) (some ((Row.mk (Fr.zero) (Fr.zero) (Fr.zero) (Fr.zero) (Fr.zero) (Fr.zero) (Fr.zero) (rr0.1) (List.getD w1 (0 : Nat) (0 : Int)) (List.getD w1 ((0 : Nat) + (1 : Nat)) (0 : Int)) (List.getD w1 ((0 : Nat) + (1 : Nat) + (1 : Nat)) (0 : Int)), ())))))))))))))
theorem zrp : p195 = q195 := by
  (repeat (apply funext; intro _))
  simp only [p195, q195, ztr, zaj, zal, zam, zak]
def q108 (N : Nat) (s0 : Stp) : Option (List Row × Int × Unit) :=
  cond ((eqI s0.kind (1 : Int))) (cond ((eqI s0.kind (1 : Int))) (some (([], (0 : Int), ()))) (cond ((eqI s0.kind (2 : Int))) (some (([Row.mk (s0.q0) (s0.q1) (s0.q2) (s0.q3) (s0.q4) (Fr.zero) (Fr.zero) (Fr.zero) (mxI s0.v0 (-1 : Int)) (mxI s0.v1 (-1 : Int)) (mxI s0.v2 (-1 : Int))], (0 : Int), ()))) (cond ((eqI s0.kind (3 : Int))) (Option.bind (q195 N (5 : Int) ([Stp.v0 s0, (-1 : Int), (-1 : Int)])) fun rr7 => some (([rr7.1], (0 : Int), ()))) (cond ((eqI s0.kind (4 : Int))) (Option.bind (q195 N (6 : Int) ([Stp.v0 s0, (-1 : Int), Stp.v2 s0])) fun rr6 => some (([rr6.1], (0 : Int), ()))) (cond ((eqI s0.kind (5 : Int))) (Option.bind (q195 N (7 : Int) ([Stp.v0 s0, Stp.v1 s0, (-1 : Int)])) fun rr5 => some (([rr5.1, Row.mk (Fr.zero) (Fr.zero) (Fr.zero) (Fr.zero) (Fr.zero) (Fr.zero) (Fr.zero) (Fr.zero) s0.v2 (-1 : Int) (-1 : Int)], (0 : Int), ()))) (cond ((eqI s0.kind (7 : Int))) (Option.bind (q195 N (1 : Int) ([Stp.v0 s0, (-1 : Int), (-1 : Int)])) fun rr4 => some (([rr4.1], (0 : Int), ()))) (some (([], (11 : Int), ()))))))))) (cond ((eqI s0.kind (6 : Int))) (some (([], (0 : Int), ()))) (cond ((eqI s0.kind (2 : Int))) (some (([Row.mk (s0.q0) (s0.q1) (s0.q2) (s0.q3) (s0.q4) (Fr.zero) (Fr.zero) (Fr.zero) (mxI s0.v0 (-1 : Int)) (mxI s0.v1 (-1 : Int)) (mxI s0.v2 (-1 : Int))], (0 : Int), ()))) (cond ((eqI s0.kind (3 : Int))) (Option.bind (q195 N (5 : Int) ([Stp.v0 s0, (-1 : Int), (-1 : Int)])) fun rr3 => some (([rr3.1], (0 : Int), ()))) (cond ((eqI s0.kind (4 : Int))) (Option.bind (q195 N (6 : Int) ([Stp.v0 s0, (-1 : Int), Stp.v2 s0])) fun rr2 => some (([rr2.1], (0 : Int), ()))) (cond ((eqI s0.kind (5 : Int))) (Option.bind (q195 N (7 : Int) ([Stp.v0 s0, Stp.v1 s0, (-1 : Int)])) fun rr1 => some (([rr1.1, Row.mk (Fr.zero) (Fr.zero) (Fr.zero) (Fr.zero) (Fr.zero) (Fr.zero) (Fr.zero) (Fr.zero) s0.v2 (-1 : Int) (-1 : Int)], (0 : Int), ()))) (cond ((eqI s0.kind (7 : Int))) (Option.bind (q195 N (1 : Int) ([Stp.v0 s0, (-1 : Int), (-1 : Int)])) fun rr0 => some (([rr0.1], (0 : Int), ()))) (some (([], (11 : Int), ())))))))))
theorem zoA : p108 = q108 := by
  (repeat (apply funext; intro _))
  simp only [p108, q108, hide_eq, zrp, zaj, zal, zam, zak]
def zaE (N : Nat) (A_11 : Int -> Int -> Int -> Stp -> (List Int) -> Option (Int × Unit)) (vars1 t30 t31 : Int) (ob0 : Stp) (t29o : List Int) : Option (Int × Unit) :=
  cond ((ltI t31 t30)) (must (leI (0 : Int) t31 && ltI t31 (↑t29o.length : Int)) (cond (eqI (List.getD t29o t31.toNat (0 : Int)) (↑(0 : Nat) : Int)) (must (eqI (List.getD t29o t31.toNat (0 : Int)) (↑(0 : Nat) : Int)) (cond ((leI vars1 ob0.v0)) (some (((10 : Int), ()))) (cond ((ltI ob0.v0 (0 : Int))) (cond (!eqI ob0.kind (2 : Int)) (some (((10 : Int), ()))) (A_11 vars1 t30 ((wr (t31 + (1 : Int)))) (Stp.mk ob0.kind ob0.v0 ob0.v1 ob0.v2 (ob0.q0) (ob0.q1) (ob0.q2) (ob0.q3) (ob0.q4)) t29o)) (A_11 vars1 t30 ((wr (t31 + (1 : Int)))) (Stp.mk ob0.kind ob0.v0 ob0.v1 ob0.v2 (ob0.q0) (ob0.q1) (ob0.q2) (ob0.q3) (ob0.q4)) t29o)))) (cond (eqI (List.getD t29o t31.toNat (0 : Int)) (↑((0 : Nat) + (1 : Nat)) : Int)) (must (eqI (List.getD t29o t31.toNat (0 : Int)) (↑((0 : Nat) + (1 : Nat)) : Int)) (cond ((leI vars1 ob0.v1)) (some (((10 : Int), ()))) (cond ((ltI ob0.v1 (0 : Int))) (cond (!eqI ob0.kind (2 : Int)) (some (((10 : Int), ()))) (A_11 vars1 t30 ((wr (t31 + (1 : Int)))) (Stp.mk ob0.kind ob0.v0 ob0.v1 ob0.v2 (ob0.q0) (ob0.q1) (ob0.q2) (ob0.q3) (ob0.q4)) t29o)) (A_11 vars1 t30 ((wr (t31 + (1 : Int)))) (Stp.mk ob0.kind ob0.v0 ob0.v1 ob0.v2 (ob0.q0) (ob0.q1) (ob0.q2) (ob0.q3) (ob0.q4)) t29o)))) (must (eqI (List.getD t29o t31.toNat (0 : Int)) (↑((0 : Nat) + (1 : Nat) + (1 : Nat)) : Int)) (must (eqI (List.getD t29o t31.toNat (0 : Int)) (↑((0 : Nat) + (1 : Nat) + (1 : Nat)) : Int)) (cond ((leI vars1 ob0.v2)) (some (((10 : Int), ()))) (cond ((ltI ob0.v2 (0 : Int))) (cond (!eqI ob0.kind (2 : Int)) (some (((10 : Int), ()))) (A_11 vars1 t30 ((wr (t31 + (1 : Int)))) (Stp.mk ob0.kind ob0.v0 ob0.v1 ob0.v2 (ob0.q0) (ob0.q1) (ob0.q2) (ob0.q3) (ob0.q4)) t29o)) (A_11 vars1 t30 ((wr (t31 + (1 : Int)))) (Stp.mk ob0.kind ob0.v0 ob0.v1 ob0.v2 (ob0.q0) (ob0.q1) (ob0.q2) (ob0.q3) (ob0.q4)) t29o)))))))) (some (((0 : Int), ())))
theorem zmg : ziL = zaE := by
  (repeat (apply funext; intro _))
  simp only [ziL, zaE, hide_eq, zaj, zal, zam, zak]
def zaH (N n : Nat) (vars1 t30 t31 : Int) (ob0 : Stp) (t29o : List Int) : Option (Int × Unit) :=
  zao (fun A x => zaE N (fun vars1 t30 t31 ob0 t29o => A ((vars1, ((), ((), (t30, (t31, ()))))), (ob0, (t29o, ())))) x.1.1 x.1.2.2.2.1 x.1.2.2.2.2.1 x.2.1 x.2.2.1) n ((vars1, ((), ((), (t30, (t31, ()))))), (ob0, (t29o, ())))
theorem zmh : ziM = zaH := by
  (repeat (apply funext; intro _))
  simp only [ziM, zaH, zmg, zaj, zal, zam, zak]
theorem zan (N n : Nat) (vars1 t30 t31 : Int) (ob0 : Stp) (t29o : List Int) : zaH N (n + 1) vars1 t30 t31 ob0 t29o = zaE N (zaH N n) vars1 t30 t31 ob0 t29o := rfl
def zc8 (N : Nat) (A_5 : Int -> (List Fr) -> Int -> Stp -> (List Int) -> Option (Int × Unit)) (vars1 : Int) (t21 : List Fr) (t22 : Int) (ob0 : Stp) (l5o : List Int) : Option (Int × Unit) :=
  cond ((ltI t22 (5 : Int))) (must (leI (0 : Int) t22 && (ltI t22 (↑(5 : Nat) : Int) && ltI t22 (↑t21.length : Int))) (Option.bind (q79 N ((List.getD t21 t22.toNat (Fr.zero)))) fun rr0 => cond (!rr0.1) (some (((4 : Int), ()))) (A_5 vars1 t21 ((wr (t22 + (1 : Int)))) (Stp.mk ob0.kind ob0.v0 ob0.v1 ob0.v2 (ob0.q0) (ob0.q1) (ob0.q2) (ob0.q3) (ob0.q4)) l5o))) (zaH N N vars1 ((↑l5o.length : Int)) (0 : Int) (Stp.mk ob0.kind ob0.v0 ob0.v1 ob0.v2 (ob0.q0) (ob0.q1) (ob0.q2) (ob0.q3) (ob0.q4)) l5o)
theorem znJ : zlK = zc8 := by
  (repeat (apply funext; intro _))
  simp only [zlK, zc8, hide_eq, zmh, zri, zaj, zal, zam, zak]
def zci (N n : Nat) (vars1 : Int) (t21 : List Fr) (t22 : Int) (ob0 : Stp) (l5o : List Int) : Option (Int × Unit) :=
  zao (fun A x => zc8 N (fun vars1 t21 t22 ob0 l5o => A ((vars1, ((), ((), (t21, (t22, ()))))), (ob0, (l5o, ())))) x.1.1 x.1.2.2.2.1 x.1.2.2.2.2.1 x.2.1 x.2.2.1) n ((vars1, ((), ((), (t21, (t22, ()))))), (ob0, (l5o, ())))
theorem znK : zlL = zci := by
  (repeat (apply funext; intro _))
  simp only [zlL, zci, znJ, zaj, zal, zam, zak]
theorem zbn (N n : Nat) (vars1 : Int) (t21 : List Fr) (t22 : Int) (ob0 : Stp) (l5o : List Int) : zci N (n + 1) vars1 t21 t22 ob0 l5o = zc8 N (zci N n) vars1 t21 t22 ob0 l5o := rfl
def q192 (N : Nat) (s0 : Stp) (vars1 : Int) : Option (Int × Unit) :=
  Option.bind (q217 N s0.kind) fun rr0 => cond (!rr0.2.1) (some (((11 : Int), ()))) (zci N N vars1 ([s0.q0, s0.q1, s0.q2, s0.q3, s0.q4]) (0 : Int) (Stp.mk s0.kind s0.v0 s0.v1 s0.v2 (s0.q0) (s0.q1) (s0.q2) (s0.q3) (s0.q4)) rr0.1)
theorem zrq : p192 = q192 := by
  (repeat (apply funext; intro _))
  simp only [p192, q192, hide_eq, znK, zro, zaj, zal, zam, zak]
end
section
def Sc (x : Fr) : Prop := fv x < RR
def fmul (x y : Fr) : Fr := frN (fv x * fv y % RR)
def fadd (x y : Fr) : Fr := frN ((fv x + fv y) % RR)
theorem zbE : Sc Fr.zero := by unfold Sc; decide +kernel
end
section
def nm (L x : Nat) : Fr := fmul (frN (7 ^ (x / 2 ^ L) % RR)) (frN (ztv L ^ (x % 2 ^ L) % RR))
def pre (l : List Fr) : Nat -> Nat
  | 0 => 1
  | i + 1 => pre l i * fv (l.getD i Fr.zero)
end
end Go.Proofs.Ytgimohchocjgcaa.V
