import Derived.Test.YtgimohchocjgcaaVTM
import Derived.KernelRfl
set_option linter.unusedVariables false
set_option linter.unusedSimpArgs false
namespace Go.Proofs.Ytgimohchocjgcaa.V
section
def zkS (N : Nat) (A_2 : (List UInt64) -> Int -> Option (List UInt64 × Unit)) (a0 : List UInt64) (n3 : Int) : Option (List UInt64 × Unit) :=
  cond ((ltI (0 : Int) n3)) (must (leI (0 : Int) ((wr (n3 - (1 : Int)))) && ltI ((wr (n3 - (1 : Int)))) (↑a0.length : Int)) (cond ((List.getD a0 (Int.toNat ((wr (n3 - (1 : Int))))) (0 : UInt64) == (0 : UInt64))) (A_2 a0 ((wr (n3 - (1 : Int))))) (must (leI (0 : Int) n3 && leI n3 (↑a0.length : Int)) (must (leN (((0 : Nat) + List.length (List.take (Int.toNat (n3 - (0 : Int))) a0)) * (8 : Nat)) (140737488355328 : Nat)) (some ((List.take (Int.toNat (n3 - (0 : Int))) a0, ()))))))) (must (leI (0 : Int) n3 && leI n3 (↑a0.length : Int)) (must (leN (((0 : Nat) + List.length (List.take (Int.toNat (n3 - (0 : Int))) a0)) * (8 : Nat)) (140737488355328 : Nat)) (some ((List.take (Int.toNat (n3 - (0 : Int))) a0, ())))))
theorem zue : zqx = zkS := by
  (repeat (apply funext; intro _))
  simp only [zqx, zkS, hide_eq]
def zin (N n : Nat) (a0 : List UInt64) (n3 : Int) : Option (List UInt64 × Unit) :=
  zar (fun A x => zkS N (fun a0 n3 => A ((a0, (n3, ())), ())) x.1.1 x.1.2.1) n ((a0, (n3, ())), ())
theorem zuf : zqy = zin := by
  (repeat (apply funext; intro _))
  simp only [zqy, zin, zue]
theorem zmG (N n : Nat) (a0 : List UInt64) (n3 : Int) : zin N (n + 1) a0 n3 = zkS N (zin N n) a0 n3 := rfl
def q158 (N : Nat) (a0 : List UInt64) : Option (List UInt64 × Unit) :=
  zin N N a0 ((↑a0.length : Int))
theorem zvD : p158 = q158 := by
  (repeat (apply funext; intro _))
  simp only [p158, q158, zuf]
def q160 (N : Nat) (a0 : List UInt64) (i1 : Int) : Option (UInt64 × Unit) :=
  cond ((ltI i1 (↑a0.length : Int))) (must (leI (0 : Int) i1 && ltI i1 (↑a0.length : Int)) (some ((List.getD a0 i1.toNat (0 : UInt64), ())))) (some (((0 : UInt64), ())))
theorem zAq : p160 = q160 := by
  (repeat (apply funext; intro _))
  simp only [p160, q160, hide_eq]
def zeY (N : Nat) (A_1000 : (List UInt64) -> (List UInt64) -> Int -> Option (Int × Unit)) (a0 b1 : List UInt64) (i5 : Int) : Option (Int × Unit) :=
  cond ((ltI ((wr (i5 - (1 : Int)))) (0 : Int))) (some (((0 : Int), ()))) (Option.bind (q160 N a0 ((wr (i5 - (1 : Int))))) fun r0 => Option.bind (q160 N b1 ((wr (i5 - (1 : Int))))) fun r1 => cond ((ltN r0.1.toNat r1.1.toNat)) (some (((-1 : Int), ()))) (cond ((ltN r1.1.toNat r0.1.toNat)) (some (((1 : Int), ()))) (A_1000 a0 b1 ((wr (i5 - (1 : Int)))))))
theorem zoV : zjA = zeY := by
  (repeat (apply funext; intro _))
  simp only [zjA, zeY, hide_eq, zAq]
def zdT (N n : Nat) (a0 b1 : List UInt64) (i5 : Int) : Option (Int × Unit) :=
  zar (fun A x => zeY N (fun a0 b1 i5 => A ((a0, (b1, (i5, ()))), ())) x.1.1 x.1.2.1 x.1.2.2.1) n ((a0, (b1, (i5, ()))), ())
theorem zoW : zjB = zdT := by
  (repeat (apply funext; intro _))
  simp only [zjB, zdT, zoV]
theorem zjJ (N n : Nat) (a0 b1 : List UInt64) (i5 : Int) : zdT N (n + 1) a0 b1 i5 = zeY N (zdT N n) a0 b1 i5 := rfl
def q61 (N : Nat) (a0 b1 : List UInt64) : Option (Int × Unit) :=
  zdT N N a0 b1 (mxI (↑a0.length : Int) (↑b1.length : Int))
theorem zCA : p61 = q61 := by
  (repeat (apply funext; intro _))
  simp only [p61, q61, zoW]
def zCB (N : Nat) (A_5 : (List UInt64) -> (List UInt64) -> Int -> UInt64 -> Int -> Int -> (List UInt64) -> Option (List UInt64 × Unit)) (a0 b1 : List UInt64) (n5 : Int) (carry7 : UInt64) (t17 t18 : Int) (out6o : List UInt64) : Option (List UInt64 × Unit) :=
  cond ((ltI t18 t17)) (Option.bind (q160 N a0 t18) fun r1 => Option.bind (q160 N b1 t18) fun r2 => Option.bind (kAdd r1.1 r2.1 carry7) fun r3 => must (leI (0 : Int) t18 && ltI t18 (↑out6o.length : Int)) (A_5 a0 b1 n5 r3.2 t17 ((wr (t18 + (1 : Int)))) (setL out6o t18.toNat r3.1))) (must (leI (0 : Int) n5 && ltI n5 (↑out6o.length : Int)) (Option.bind (q158 N (setL out6o n5.toNat carry7)) fun r0 => some ((Prod.fst r0, ()))))
def zCC (N n : Nat) (a0 b1 : List UInt64) (n5 : Int) (carry7 : UInt64) (t17 t18 : Int) (out6o : List UInt64) : Option (List UInt64 × Unit) :=
  zar (fun A x => zCB N (fun a0 b1 n5 carry7 t17 t18 out6o => A ((a0, (b1, (n5, ((), (carry7, (t17, (t18, ()))))))), (out6o, ()))) x.1.1 x.1.2.1 x.1.2.2.1 x.1.2.2.2.2.1 x.1.2.2.2.2.2.1 x.1.2.2.2.2.2.2.1 x.2.1) n ((a0, (b1, (n5, ((), (carry7, (t17, (t18, ()))))))), (out6o, ()))
def q62 (N : Nat) (a0 b1 : List UInt64) : Option (List UInt64 × Unit) :=
  must (leI (0 : Int) ((wr (mxI (↑a0.length : Int) (↑b1.length : Int) + (1 : Int)))) && (eqI ((wr (mxI (↑a0.length : Int) (↑b1.length : Int) + (1 : Int)))) ((wr (mxI (↑a0.length : Int) (↑b1.length : Int) + (1 : Int)))) && leN (Int.toNat ((wr (mxI (↑a0.length : Int) (↑b1.length : Int) + (1 : Int)))) * (8 : Nat)) (140737488355328 : Nat))) (zCC N N a0 b1 (mxI (↑a0.length : Int) (↑b1.length : Int)) (0 : UInt64) (mxI (↑a0.length : Int) (↑b1.length : Int)) (0 : Int) (List.replicate (Int.toNat ((wr (mxI (↑a0.length : Int) (↑b1.length : Int) + (1 : Int))))) (0 : UInt64)))
def q163 (N : Nat) (x0 y1 : UInt64) : Option (UInt64 × UInt64 × Unit) :=
  some ((((((za6 x0 (UInt64.toNat (32 : UInt64))) * (za6 y1 (UInt64.toNat (32 : UInt64)))) + (za6 ((((za6 x0 (UInt64.toNat (32 : UInt64))) * (y1 &&& (4294967295 : UInt64))) + (za6 (((x0 &&& (4294967295 : UInt64)) * (y1 &&& (4294967295 : UInt64)))) (UInt64.toNat (32 : UInt64))))) (UInt64.toNat (32 : UInt64)))) + (za6 ((((((za6 x0 (UInt64.toNat (32 : UInt64))) * (y1 &&& (4294967295 : UInt64))) + (za6 (((x0 &&& (4294967295 : UInt64)) * (y1 &&& (4294967295 : UInt64)))) (UInt64.toNat (32 : UInt64)))) &&& (4294967295 : UInt64)) + ((x0 &&& (4294967295 : UInt64)) * (za6 y1 (UInt64.toNat (32 : UInt64)))))) (UInt64.toNat (32 : UInt64)))), (x0 * y1), ()))
theorem zvE : p163 = q163 := by
  (repeat (apply funext; intro _))
  simp only [p163, q163, hide_eq]
def zCD (N : Nat) (A_3 : (List UInt64) -> (List UInt64) -> Int -> Int -> (List UInt64) -> Option (List UInt64 × Unit)) (A_7 : (List UInt64) -> Int -> UInt64 -> UInt64 -> (List UInt64) -> Int -> Int -> (List UInt64) -> Int -> Int -> (List UInt64) -> Option (List UInt64 × Unit)) (b1 : List UInt64) (i6 : Int) (x7 over8 : UInt64) (t21 : List UInt64) (t22 t23 : Int) (t28 : List UInt64) (t29 t30 : Int) (out5o : List UInt64) : Option (List UInt64 × Unit) :=
  cond ((ltI t30 t29)) (must (leI (0 : Int) t30 && ltI t30 (↑t28.length : Int)) (Option.bind (q163 N x7 (List.getD t28 t30.toNat (0 : UInt64))) fun r0 => must (leI (0 : Int) ((wr (i6 + t30))) && ltI ((wr (i6 + t30))) (↑out5o.length : Int)) (Option.bind (kAdd (r0.2.1) (List.getD out5o (Int.toNat ((wr (i6 + t30)))) (0 : UInt64)) (0 : UInt64)) fun r1 => Option.bind (kAdd r1.1 over8 (0 : UInt64)) fun r2 => must (leI (0 : Int) ((wr (i6 + t30))) && ltI ((wr (i6 + t30))) (↑out5o.length : Int)) (A_7 b1 i6 x7 (((Prod.fst r0 + Prod.snd r1) + Prod.snd r2)) t21 t22 t23 t28 t29 ((wr (t30 + (1 : Int)))) (setL out5o (Int.toNat ((wr (i6 + t30)))) r2.1))))) (must (leI (0 : Int) ((wr (i6 + (↑b1.length : Int)))) && ltI ((wr (i6 + (↑b1.length : Int)))) (↑out5o.length : Int)) (A_3 b1 t21 t22 ((wr (t23 + (1 : Int)))) (setL out5o (Int.toNat ((wr (i6 + (↑b1.length : Int))))) over8)))
def zCE (N : Nat) (A_3 : (List UInt64) -> (List UInt64) -> Int -> Int -> (List UInt64) -> Option (List UInt64 × Unit)) (n : Nat) (b1 : List UInt64) (i6 : Int) (x7 over8 : UInt64) (t21 : List UInt64) (t22 t23 : Int) (t28 : List UInt64) (t29 t30 : Int) (out5o : List UInt64) : Option (List UInt64 × Unit) :=
  zar (fun A x => zCD N A_3 (fun b1 i6 x7 over8 t21 t22 t23 t28 t29 t30 out5o => A ((b1, ((), (i6, (x7, (over8, (t21, (t22, (t23, (t28, (t29, (t30, ()))))))))))), (out5o, ()))) x.1.1 x.1.2.2.1 x.1.2.2.2.1 x.1.2.2.2.2.1 x.1.2.2.2.2.2.1 x.1.2.2.2.2.2.2.1 x.1.2.2.2.2.2.2.2.1 x.1.2.2.2.2.2.2.2.2.1 x.1.2.2.2.2.2.2.2.2.2.1 x.1.2.2.2.2.2.2.2.2.2.2.1 x.2.1) n ((b1, ((), (i6, (x7, (over8, (t21, (t22, (t23, (t28, (t29, (t30, ()))))))))))), (out5o, ()))
def zCF (N : Nat) (A_3 : (List UInt64) -> (List UInt64) -> Int -> Int -> (List UInt64) -> Option (List UInt64 × Unit)) (b1 t21 : List UInt64) (t22 t23 : Int) (out5o : List UInt64) : Option (List UInt64 × Unit) :=
  cond ((ltI t23 t22)) (must (leI (0 : Int) t23 && ltI t23 (↑t21.length : Int)) (zCE N A_3 N b1 t23 (List.getD t21 t23.toNat (0 : UInt64)) (0 : UInt64) t21 t22 t23 b1 ((↑b1.length : Int)) (0 : Int) out5o)) (Option.bind (q158 N out5o) fun r0 => some ((Prod.fst r0, ())))
def zCG (N n : Nat) (b1 t21 : List UInt64) (t22 t23 : Int) (out5o : List UInt64) : Option (List UInt64 × Unit) :=
  zar (fun A x => zCF N (fun b1 t21 t22 t23 out5o => A ((b1, ((), (t21, (t22, (t23, ()))))), (out5o, ()))) x.1.1 x.1.2.2.1 x.1.2.2.2.1 x.1.2.2.2.2.1 x.2.1) n ((b1, ((), (t21, (t22, (t23, ()))))), (out5o, ()))
def q55 (N : Nat) (a0 b1 : List UInt64) : Option (List UInt64 × Unit) :=
  must (leI (0 : Int) ((wr ((↑a0.length : Int) + (↑b1.length : Int)))) && (eqI ((wr ((↑a0.length : Int) + (↑b1.length : Int)))) ((wr ((↑a0.length : Int) + (↑b1.length : Int)))) && leN (Int.toNat ((wr ((↑a0.length : Int) + (↑b1.length : Int)))) * (8 : Nat)) (140737488355328 : Nat))) (zCG N N b1 a0 ((↑a0.length : Int)) (0 : Int) (List.replicate (Int.toNat ((wr ((↑a0.length : Int) + (↑b1.length : Int))))) (0 : UInt64)))
def zAr (N : Nat) (A_1000 : (List UInt64) -> Int -> (List UInt64) -> (List UInt64) -> Option (List UInt64 × Int × Unit)) (A_18 : (List UInt64) -> Int -> UInt64 -> Int -> Int -> (List UInt64) -> (List UInt64) -> Option (List UInt64 × Int × Unit)) (a0 : List UInt64) (i7 : Int) (borrow10 : UInt64) (t66 t67 : Int) (m1o r6o : List UInt64) : Option (List UInt64 × Int × Unit) :=
  cond ((ltI t67 t66)) (must (leI (0 : Int) t67 && ltI t67 (↑r6o.length : Int)) (Option.bind (q160 N m1o t67) fun r0 => Option.bind (kSub (List.getD r6o t67.toNat (0 : UInt64)) r0.1 borrow10) fun r1 => must (leI (0 : Int) t67 && ltI t67 (↑r6o.length : Int)) (A_18 a0 i7 r1.2 t66 ((wr (t67 + (1 : Int)))) m1o (setL r6o t67.toNat r1.1)))) (A_1000 a0 i7 m1o r6o)
def zAs (N : Nat) (A_1000 : (List UInt64) -> Int -> (List UInt64) -> (List UInt64) -> Option (List UInt64 × Int × Unit)) (n : Nat) (a0 : List UInt64) (i7 : Int) (borrow10 : UInt64) (t66 t67 : Int) (m1o r6o : List UInt64) : Option (List UInt64 × Int × Unit) :=
  zar (fun A x => zAr N A_1000 (fun a0 i7 borrow10 t66 t67 m1o r6o => A ((a0, ((), ((), (i7, (borrow10, (t66, (t67, ()))))))), (m1o, (r6o, ())))) x.1.1 x.1.2.2.2.1 x.1.2.2.2.2.1 x.1.2.2.2.2.2.1 x.1.2.2.2.2.2.2.1 x.2.1 x.2.2.1) n ((a0, ((), ((), (i7, (borrow10, (t66, (t67, ()))))))), (m1o, (r6o, ())))
def zAt (N : Nat) (A_1000 : (List UInt64) -> Int -> (List UInt64) -> (List UInt64) -> Option (List UInt64 × Int × Unit)) (A_11 : (List UInt64) -> Int -> UInt64 -> Int -> Int -> (List UInt64) -> (List UInt64) -> Option (List UInt64 × Int × Unit)) (a0 : List UInt64) (i7 : Int) (carry8 : UInt64) (t41 t42 : Int) (m1o r6o : List UInt64) : Option (List UInt64 × Int × Unit) :=
  cond ((ltI t42 t41)) (must (leI (0 : Int) t42 && ltI t42 (↑r6o.length : Int)) (must (leI (0 : Int) t42 && ltI t42 (↑r6o.length : Int)) (must (leI (0 : Int) t42 && ltI t42 (↑r6o.length : Int)) (A_11 a0 i7 ((za6 (List.getD r6o t42.toNat (0 : UInt64)) (UInt64.toNat (63 : UInt64)))) t41 ((wr (t42 + (1 : Int)))) m1o (setL r6o t42.toNat (((zf9 (List.getD r6o t42.toNat (0 : UInt64)) (UInt64.toNat (1 : UInt64))) ||| carry8))))))) (Option.bind (q61 N r6o m1o) fun r0 => cond ((leI (0 : Int) r0.1)) (zAs N A_1000 N a0 i7 (0 : UInt64) ((↑r6o.length : Int)) (0 : Int) m1o r6o) (A_1000 a0 i7 m1o r6o))
def zAu (N : Nat) (A_1000 : (List UInt64) -> Int -> (List UInt64) -> (List UInt64) -> Option (List UInt64 × Int × Unit)) (n : Nat) (a0 : List UInt64) (i7 : Int) (carry8 : UInt64) (t41 t42 : Int) (m1o r6o : List UInt64) : Option (List UInt64 × Int × Unit) :=
  zar (fun A x => zAt N A_1000 (fun a0 i7 carry8 t41 t42 m1o r6o => A ((a0, ((), ((), (i7, (carry8, (t41, (t42, ()))))))), (m1o, (r6o, ())))) x.1.1 x.1.2.2.2.1 x.1.2.2.2.2.1 x.1.2.2.2.2.2.1 x.1.2.2.2.2.2.2.1 x.2.1 x.2.2.1) n ((a0, ((), ((), (i7, (carry8, (t41, (t42, ()))))))), (m1o, (r6o, ())))
def zug (N : Nat) (A_1000 : (List UInt64) -> Int -> (List UInt64) -> (List UInt64) -> Option (List UInt64 × Int × Unit)) (a0 : List UInt64) (i7 : Int) (m1o r6o : List UInt64) : Option (List UInt64 × Int × Unit) :=
  cond ((ltI ((wr (i7 - (1 : Int)))) (0 : Int))) (Option.bind (q158 N r6o) fun r0 => some ((Prod.fst r0, (0 : Int), ()))) (must (leI (0 : Int) ((wr (Int.tdiv ((wr (i7 - (1 : Int)))) (64 : Int)))) && ltI ((wr (Int.tdiv ((wr (i7 - (1 : Int)))) (64 : Int)))) (↑a0.length : Int)) (zAu N A_1000 N a0 ((wr (i7 - (1 : Int)))) (((za6 (List.getD a0 (Int.toNat ((wr (Int.tdiv ((wr (i7 - (1 : Int)))) (64 : Int))))) (0 : UInt64)) (UInt64.toNat ((u64I ((Int.tmod ((wr (i7 - (1 : Int)))) (64 : Int))))))) &&& (1 : UInt64))) ((↑r6o.length : Int)) (0 : Int) m1o r6o))
def zuh (N n : Nat) (a0 : List UInt64) (i7 : Int) (m1o r6o : List UInt64) : Option (List UInt64 × Int × Unit) :=
  zar (fun A x => zug N (fun a0 i7 m1o r6o => A ((a0, ((), ((), (i7, ())))), (m1o, (r6o, ())))) x.1.1 x.1.2.2.2.1 x.2.1 x.2.2.1) n ((a0, ((), ((), (i7, ())))), (m1o, (r6o, ())))
def q52 (N : Nat) (a0 m1 : List UInt64) : Option (List UInt64 × Int × Unit) :=
  Option.bind (q158 N m1) fun r0 => cond ((eqI (↑r0.1.length : Int) (0 : Int))) (some (([], (7 : Int), ()))) (must (leI (0 : Int) ((wr ((↑r0.1.length : Int) + (1 : Int)))) && (eqI ((wr ((↑r0.1.length : Int) + (1 : Int)))) ((wr ((↑r0.1.length : Int) + (1 : Int)))) && leN (Int.toNat ((wr ((↑r0.1.length : Int) + (1 : Int)))) * (8 : Nat)) (140737488355328 : Nat))) (zuh N N a0 ((wr ((64 : Int) * (↑a0.length : Int)))) r0.1 (List.replicate (Int.toNat ((wr ((↑r0.1.length : Int) + (1 : Int))))) (0 : UInt64))))
def zrK (N : Nat) (A_6 : Int -> Int -> Int -> (List UInt8) -> (List UInt64) -> Option (List UInt8 × Int × Unit)) (A_9 : Int -> Int -> UInt64 -> Int -> Int -> Int -> (List UInt8) -> (List UInt64) -> Option (List UInt8 × Int × Unit)) (n1 i7 : Int) (x8 : UInt64) (t23 t24 t29 : Int) (out6o : List UInt8) (t22o : List UInt64) : Option (List UInt8 × Int × Unit) :=
  cond ((ltI t29 (8 : Int))) (cond ((ltI ((wr ((wr ((wr (n1 - (1 : Int))) - (wr ((8 : Int) * i7)))) - t29))) (0 : Int))) (cond (!(UInt8.ofNat (UInt64.toNat ((za6 x8 (UInt64.toNat ((u64I ((wr ((8 : Int) * t29)))))))))) == (0 : UInt8)) (some (([], (8 : Int), ()))) (cond ((leI (0 : Int) ((wr ((wr ((wr (n1 - (1 : Int))) - (wr ((8 : Int) * i7)))) - t29))))) (must (leI (0 : Int) ((wr ((wr ((wr (n1 - (1 : Int))) - (wr ((8 : Int) * i7)))) - t29))) && ltI ((wr ((wr ((wr (n1 - (1 : Int))) - (wr ((8 : Int) * i7)))) - t29))) (↑out6o.length : Int)) (A_9 n1 i7 x8 t23 t24 ((wr (t29 + (1 : Int)))) (setL out6o (Int.toNat ((wr ((wr ((wr (n1 - (1 : Int))) - (wr ((8 : Int) * i7)))) - t29)))) ((UInt8.ofNat (UInt64.toNat ((za6 x8 (UInt64.toNat ((u64I ((wr ((8 : Int) * t29)))))))))))) t22o)) (A_9 n1 i7 x8 t23 t24 ((wr (t29 + (1 : Int)))) out6o t22o))) (cond ((leI (0 : Int) ((wr ((wr ((wr (n1 - (1 : Int))) - (wr ((8 : Int) * i7)))) - t29))))) (must (leI (0 : Int) ((wr ((wr ((wr (n1 - (1 : Int))) - (wr ((8 : Int) * i7)))) - t29))) && ltI ((wr ((wr ((wr (n1 - (1 : Int))) - (wr ((8 : Int) * i7)))) - t29))) (↑out6o.length : Int)) (A_9 n1 i7 x8 t23 t24 ((wr (t29 + (1 : Int)))) (setL out6o (Int.toNat ((wr ((wr ((wr (n1 - (1 : Int))) - (wr ((8 : Int) * i7)))) - t29)))) ((UInt8.ofNat (UInt64.toNat ((za6 x8 (UInt64.toNat ((u64I ((wr ((8 : Int) * t29)))))))))))) t22o)) (A_9 n1 i7 x8 t23 t24 ((wr (t29 + (1 : Int)))) out6o t22o))) (A_6 n1 t23 ((wr (t24 + (1 : Int)))) out6o t22o)
theorem zxr : zwS = zrK := by
  (repeat (apply funext; intro _))
  simp only [zwS, zrK, hide_eq]
def zkT (N : Nat) (A_6 : Int -> Int -> Int -> (List UInt8) -> (List UInt64) -> Option (List UInt8 × Int × Unit)) (n : Nat) (n1 i7 : Int) (x8 : UInt64) (t23 t24 t29 : Int) (out6o : List UInt8) (t22o : List UInt64) : Option (List UInt8 × Int × Unit) :=
  zar (fun A x => zrK N A_6 (fun n1 i7 x8 t23 t24 t29 out6o t22o => A ((n1, ((), (i7, (x8, ((), (t23, (t24, (t29, ())))))))), (out6o, (t22o, ())))) x.1.1 x.1.2.2.1 x.1.2.2.2.1 x.1.2.2.2.2.2.1 x.1.2.2.2.2.2.2.1 x.1.2.2.2.2.2.2.2.1 x.2.1 x.2.2.1) n ((n1, ((), (i7, (x8, ((), (t23, (t24, (t29, ())))))))), (out6o, (t22o, ())))
theorem zxs : zwT = zkT := by
  (repeat (apply funext; intro _))
  simp only [zwT, zkT, zxr]
theorem zoX (N : Nat) (A_6 : Int -> Int -> Int -> (List UInt8) -> (List UInt64) -> Option (List UInt8 × Int × Unit)) (n : Nat) (n1 i7 : Int) (x8 : UInt64) (t23 t24 t29 : Int) (out6o : List UInt8) (t22o : List UInt64) : zkT N A_6 (n + 1) n1 i7 x8 t23 t24 t29 out6o t22o = zrK N A_6 (zkT N A_6 n) n1 i7 x8 t23 t24 t29 out6o t22o := rfl
def zrL (N : Nat) (A_6 : Int -> Int -> Int -> (List UInt8) -> (List UInt64) -> Option (List UInt8 × Int × Unit)) (n1 t23 t24 : Int) (out6o : List UInt8) (t22o : List UInt64) : Option (List UInt8 × Int × Unit) :=
  cond ((ltI t24 t23)) (must (leI (0 : Int) t24 && ltI t24 (↑t22o.length : Int)) (zkT N A_6 N n1 t24 (List.getD t22o t24.toNat (0 : UInt64)) t23 t24 (0 : Int) out6o t22o)) (some ((out6o, (0 : Int), ())))
theorem zxt : zwU = zrL := by
  (repeat (apply funext; intro _))
  simp only [zwU, zrL, hide_eq, zxs]
def zhb (N n : Nat) (n1 t23 t24 : Int) (out6o : List UInt8) (t22o : List UInt64) : Option (List UInt8 × Int × Unit) :=
  zar (fun A x => zrL N (fun n1 t23 t24 out6o t22o => A ((n1, ((), ((), (t23, (t24, ()))))), (out6o, (t22o, ())))) x.1.1 x.1.2.2.2.1 x.1.2.2.2.2.1 x.2.1 x.2.2.1) n ((n1, ((), ((), (t23, (t24, ()))))), (out6o, (t22o, ())))
theorem zxu : zwV = zhb := by
  (repeat (apply funext; intro _))
  simp only [zwV, zhb, zxt]
theorem zoY (N n : Nat) (n1 t23 t24 : Int) (out6o : List UInt8) (t22o : List UInt64) : zhb N (n + 1) n1 t23 t24 out6o t22o = zrL N (zhb N n) n1 t23 t24 out6o t22o := rfl
def q57 (N : Nat) (a0 : List UInt64) (n1 : Int) : Option (List UInt8 × Int × Unit) :=
  Option.bind (q158 N a0) fun r0 => cond ((ltI n1 (0 : Int))) (some (([], (8 : Int), ()))) (cond ((ltI (192 : Int) n1)) (some (([], (8 : Int), ()))) (must (leI (0 : Int) n1 && (eqI n1 n1 && leN (Int.toNat n1 * (1 : Nat)) (140737488355328 : Nat))) (zhb N N n1 ((↑r0.1.length : Int)) (0 : Int) (List.replicate n1.toNat (0 : UInt8)) r0.1)))
theorem zCH : p57 = q57 := by
  (repeat (apply funext; intro _))
  simp only [p57, q57, hide_eq, zxu, zvD]
def zrM (N : Nat) (A_3 : (List UInt8) -> (List UInt8) -> Int -> Int -> (List UInt64) -> Option (List UInt64 × Unit)) (b0 t12 : List UInt8) (t13 t14 : Int) (out3o : List UInt64) : Option (List UInt64 × Unit) :=
  cond ((ltI t14 t13)) (must (leI (0 : Int) t14 && ltI t14 (↑t12.length : Int)) (must (leI (0 : Int) ((wr (Int.tdiv ((wr ((wr ((↑b0.length : Int) - (1 : Int))) - t14))) (8 : Int)))) && ltI ((wr (Int.tdiv ((wr ((wr ((↑b0.length : Int) - (1 : Int))) - t14))) (8 : Int)))) (↑out3o.length : Int)) (must (leI (0 : Int) ((wr (Int.tdiv ((wr ((wr ((↑b0.length : Int) - (1 : Int))) - t14))) (8 : Int)))) && ltI ((wr (Int.tdiv ((wr ((wr ((↑b0.length : Int) - (1 : Int))) - t14))) (8 : Int)))) (↑out3o.length : Int)) (A_3 b0 t12 t13 ((wr (t14 + (1 : Int)))) (setL out3o (Int.toNat ((wr (Int.tdiv ((wr ((wr ((↑b0.length : Int) - (1 : Int))) - t14))) (8 : Int))))) ((List.getD out3o (Int.toNat ((wr (Int.tdiv ((wr ((wr ((↑b0.length : Int) - (1 : Int))) - t14))) (8 : Int))))) (0 : UInt64) ||| (zf9 ((UInt64.ofNat (UInt8.toNat (List.getD t12 t14.toNat (0 : UInt8))))) (UInt64.toNat ((u64I ((wr ((8 : Int) * (Int.tmod ((wr ((wr ((↑b0.length : Int) - (1 : Int))) - t14))) (8 : Int)))))))))))))))) (Option.bind (q158 N out3o) fun r0 => some ((Prod.fst r0, ())))
theorem zxv : zwW = zrM := by
  (repeat (apply funext; intro _))
  simp only [zwW, zrM, hide_eq, zvD]
def zoZ (N n : Nat) (b0 t12 : List UInt8) (t13 t14 : Int) (out3o : List UInt64) : Option (List UInt64 × Unit) :=
  zar (fun A x => zrM N (fun b0 t12 t13 t14 out3o => A ((b0, ((), (t12, (t13, (t14, ()))))), (out3o, ()))) x.1.1 x.1.2.2.1 x.1.2.2.2.1 x.1.2.2.2.2.1 x.2.1) n ((b0, ((), (t12, (t13, (t14, ()))))), (out3o, ()))
theorem zxw : zwX = zoZ := by
  (repeat (apply funext; intro _))
  simp only [zwX, zoZ, zxv]
theorem zo0 (N n : Nat) (b0 t12 : List UInt8) (t13 t14 : Int) (out3o : List UInt64) : zoZ N (n + 1) b0 t12 t13 t14 out3o = zrM N (zoZ N n) b0 t12 t13 t14 out3o := rfl
def q59 (N : Nat) (b0 : List UInt8) : Option (List UInt64 × Unit) :=
  must (leI (0 : Int) ((wr ((wr (Int.tdiv (↑b0.length : Int) (8 : Int))) + (1 : Int)))) && (eqI ((wr ((wr (Int.tdiv (↑b0.length : Int) (8 : Int))) + (1 : Int)))) ((wr ((wr (Int.tdiv (↑b0.length : Int) (8 : Int))) + (1 : Int)))) && leN (Int.toNat ((wr ((wr (Int.tdiv (↑b0.length : Int) (8 : Int))) + (1 : Int)))) * (8 : Nat)) (140737488355328 : Nat))) (zoZ N N b0 b0 ((↑b0.length : Int)) (0 : Int) (List.replicate (Int.toNat ((wr ((wr (Int.tdiv (↑b0.length : Int) (8 : Int))) + (1 : Int))))) (0 : UInt64)))
theorem zCI : p59 = q59 := by
  (repeat (apply funext; intro _))
  simp only [p59, q59, hide_eq, zxw]
def zrN (N : Nat) (A_2 : (List UInt64) -> Int -> Option (List UInt64 × Unit)) (a0 : List UInt64) (n3 : Int) : Option (List UInt64 × Unit) :=
  cond ((ltI (0 : Int) n3)) (must (leI (0 : Int) ((wr (n3 - (1 : Int)))) && ltI ((wr (n3 - (1 : Int)))) (↑a0.length : Int)) (cond ((List.getD a0 (Int.toNat ((wr (n3 - (1 : Int))))) (0 : UInt64) == (0 : UInt64))) (A_2 a0 ((wr (n3 - (1 : Int))))) (must (leI (0 : Int) n3 && leI n3 (↑a0.length : Int)) (must (leN (((0 : Nat) + List.length (List.take (Int.toNat (n3 - (0 : Int))) a0)) * (8 : Nat)) (140737488355328 : Nat)) (some ((List.take (Int.toNat (n3 - (0 : Int))) a0, ()))))))) (must (leI (0 : Int) n3 && leI n3 (↑a0.length : Int)) (must (leN (((0 : Nat) + List.length (List.take (Int.toNat (n3 - (0 : Int))) a0)) * (8 : Nat)) (140737488355328 : Nat)) (some ((List.take (Int.toNat (n3 - (0 : Int))) a0, ())))))
def znQ (N n : Nat) (a0 : List UInt64) (n3 : Int) : Option (List UInt64 × Unit) :=
  zar (fun A x => zrN N (fun a0 n3 => A ((a0, (n3, ())), ())) x.1.1 x.1.2.1) n ((a0, (n3, ())), ())
theorem zmH (N n : Nat) (a0 : List UInt64) (n3 : Int) : znQ N (n + 1) a0 n3 = zrN N (znQ N n) a0 n3 := rfl
def q161 (N : Nat) (a0 : List UInt64) : Option (List UInt64 × Unit) :=
  znQ N N a0 ((↑a0.length : Int))
def q162 (N : Nat) (a0 : List UInt64) (i1 : Int) : Option (UInt64 × Unit) :=
  cond ((leI (↑a0.length : Int) ((wr (Int.tdiv i1 (64 : Int)))))) (some (((0 : UInt64), ()))) (must (leI (0 : Int) ((wr (Int.tdiv i1 (64 : Int)))) && ltI ((wr (Int.tdiv i1 (64 : Int)))) (↑a0.length : Int)) (must (leI (0 : Int) ((Int.tmod i1 (64 : Int)))) (must (ltI ((Int.tmod i1 (64 : Int))) (18446744073709551616 : Int)) (some ((((za6 (List.getD a0 (Int.toNat ((wr (Int.tdiv i1 (64 : Int))))) (0 : UInt64)) (UInt64.toNat (UInt64.ofNat (Int.toNat ((Int.tmod i1 (64 : Int))))))) &&& (1 : UInt64)), ()))))))
theorem zAv : p162 = q162 := by
  (repeat (apply funext; intro _))
  simp only [p162, q162, hide_eq]
def q165 (N : Nat) (a0 : List UInt64) (i1 : Int) : Option (UInt64 × Unit) :=
  cond ((ltI i1 (↑a0.length : Int))) (must (leI (0 : Int) i1 && ltI i1 (↑a0.length : Int)) (some ((List.getD a0 i1.toNat (0 : UInt64), ())))) (some (((0 : UInt64), ())))
def zCJ (N : Nat) (A_7 : Int -> (List UInt64) -> (List UInt64) -> Option (Int × Unit)) (i5 : Int) (a0o b1o : List UInt64) : Option (Int × Unit) :=
  cond ((leI (0 : Int) i5)) (must (leI (0 : Int) i5 && ltI i5 (↑a0o.length : Int)) (must (leI (0 : Int) i5 && ltI i5 (↑b1o.length : Int)) (cond ((ltN (UInt64.toNat (List.getD a0o i5.toNat (0 : UInt64))) (UInt64.toNat (List.getD b1o i5.toNat (0 : UInt64))))) (some (((-1 : Int), ()))) (must (leI (0 : Int) i5 && ltI i5 (↑a0o.length : Int)) (must (leI (0 : Int) i5 && ltI i5 (↑b1o.length : Int)) (cond ((ltN (UInt64.toNat (List.getD b1o i5.toNat (0 : UInt64))) (UInt64.toNat (List.getD a0o i5.toNat (0 : UInt64))))) (some (((1 : Int), ()))) (A_7 ((wr (i5 - (1 : Int)))) a0o b1o))))))) (some (((0 : Int), ())))
def zCK (N n : Nat) (i5 : Int) (a0o b1o : List UInt64) : Option (Int × Unit) :=
  zar (fun A x => zCJ N (fun i5 a0o b1o => A (((), ((), (i5, ()))), (a0o, (b1o, ())))) x.1.2.2.1 x.2.1 x.2.2.1) n (((), ((), (i5, ()))), (a0o, (b1o, ())))
def q65 (N : Nat) (a0 b1 : List UInt64) : Option (Int × Unit) :=
  Option.bind (q161 N a0) fun r0 => Option.bind (q161 N b1) fun r1 => cond (!eqI (↑r0.1.length : Int) (↑r1.1.length : Int)) (cond ((ltI (↑r0.1.length : Int) (↑r1.1.length : Int))) (some (((-1 : Int), ()))) (some (((1 : Int), ())))) (zCK N N ((wr ((↑r0.1.length : Int) - (1 : Int)))) r0.1 r1.1)
def zCL (N : Nat) (A_4 : (List UInt64) -> (List UInt64) -> UInt64 -> Int -> (List UInt64) -> Option (List UInt64 × Unit)) (a0 b1 : List UInt64) (c6 : UInt64) (i7 : Int) (out5o : List UInt64) : Option (List UInt64 × Unit) :=
  cond ((ltI i7 (mxI (↑a0.length : Int) (↑b1.length : Int)))) (Option.bind (q165 N a0 i7) fun r1 => Option.bind (q165 N b1 i7) fun r2 => Option.bind (kAdd r1.1 r2.1 c6) fun r3 => must (leN ((List.length out5o + List.length [Prod.fst r3]) * (8 : Nat)) (140737488355328 : Nat)) (A_4 a0 b1 r3.2 ((wr (i7 + (1 : Int)))) (out5o ++ [Prod.fst r3]))) (must (leN ((List.length out5o + List.length [c6]) * (8 : Nat)) (140737488355328 : Nat)) (Option.bind (q161 N (out5o ++ [c6])) fun r0 => some ((Prod.fst r0, ()))))
def zCM (N n : Nat) (a0 b1 : List UInt64) (c6 : UInt64) (i7 : Int) (out5o : List UInt64) : Option (List UInt64 × Unit) :=
  zar (fun A x => zCL N (fun a0 b1 c6 i7 out5o => A ((a0, (b1, ((), (c6, (i7, ()))))), (out5o, ()))) x.1.1 x.1.2.1 x.1.2.2.2.1 x.1.2.2.2.2.1 x.2.1) n ((a0, (b1, ((), (c6, (i7, ()))))), (out5o, ()))
def q66 (N : Nat) (a0 b1 : List UInt64) : Option (List UInt64 × Unit) :=
  zCM N N a0 b1 (0 : UInt64) (0 : Int) []
def zCN (N : Nat) (A_6 : (List UInt64) -> (List UInt64) -> UInt64 -> Int -> (List UInt64) -> Option (List UInt64 × Int × Unit)) (a0 b1 : List UInt64) (c7 : UInt64) (i8 : Int) (out6o : List UInt64) : Option (List UInt64 × Int × Unit) :=
  cond ((ltI i8 (mxI (↑a0.length : Int) (↑b1.length : Int)))) (Option.bind (q165 N a0 i8) fun r1 => Option.bind (q165 N b1 i8) fun r2 => Option.bind (kSub r1.1 r2.1 c7) fun r3 => must (leN ((List.length out6o + List.length [Prod.fst r3]) * (8 : Nat)) (140737488355328 : Nat)) (A_6 a0 b1 r3.2 ((wr (i8 + (1 : Int)))) (out6o ++ [Prod.fst r3]))) (Option.bind (q161 N out6o) fun r0 => some ((Prod.fst r0, (0 : Int), ())))
def zCO (N n : Nat) (a0 b1 : List UInt64) (c7 : UInt64) (i8 : Int) (out6o : List UInt64) : Option (List UInt64 × Int × Unit) :=
  zar (fun A x => zCN N (fun a0 b1 c7 i8 out6o => A ((a0, (b1, ((), (c7, (i8, ()))))), (out6o, ()))) x.1.1 x.1.2.1 x.1.2.2.2.1 x.1.2.2.2.2.1 x.2.1) n ((a0, (b1, ((), (c7, (i8, ()))))), (out6o, ()))
def q64 (N : Nat) (a0 b1 : List UInt64) : Option (List UInt64 × Int × Unit) :=
  Option.bind (q65 N a0 b1) fun r0 => cond ((ltI r0.1 (0 : Int))) (some (([], (1 : Int), ()))) (zCO N N a0 b1 (0 : UInt64) (0 : Int) [])
def zCP (N : Nat) (A_6 : (List UInt64) -> Int -> (List UInt64) -> (List UInt64) -> Option (List UInt64 × Int × Unit)) (a0 : List UInt64) (i7 : Int) (m1o r6o : List UInt64) : Option (List UInt64 × Int × Unit) :=
  cond ((leI (0 : Int) i7)) (Option.bind (q66 N r6o r6o) fun r1 => Option.bind (q162 N a0 i7) fun r2 => cond ((Prod.fst r2 == (1 : UInt64))) (Option.bind (q66 N r1.1 ([(1 : UInt64)])) fun r5 => Option.bind (q65 N r5.1 m1o) fun r6 => cond ((leI (0 : Int) r6.1)) (Option.bind (q64 N r5.1 m1o) fun r7 => A_6 a0 ((wr (i7 - (1 : Int)))) m1o r7.1) (A_6 a0 ((wr (i7 - (1 : Int)))) m1o r5.1)) (Option.bind (q65 N r1.1 m1o) fun r3 => cond ((leI (0 : Int) r3.1)) (Option.bind (q64 N r1.1 m1o) fun r4 => A_6 a0 ((wr (i7 - (1 : Int)))) m1o r4.1) (A_6 a0 ((wr (i7 - (1 : Int)))) m1o r1.1))) (Option.bind (q161 N r6o) fun r0 => some ((Prod.fst r0, (0 : Int), ())))
def zCQ (N n : Nat) (a0 : List UInt64) (i7 : Int) (m1o r6o : List UInt64) : Option (List UInt64 × Int × Unit) :=
  zar (fun A x => zCP N (fun a0 i7 m1o r6o => A ((a0, ((), ((), (i7, ())))), (m1o, (r6o, ())))) x.1.1 x.1.2.2.2.1 x.2.1 x.2.2.1) n ((a0, ((), ((), (i7, ())))), (m1o, (r6o, ())))
def q53 (N : Nat) (a0 m1 : List UInt64) : Option (List UInt64 × Int × Unit) :=
  Option.bind (q161 N m1) fun r0 => cond ((eqI (↑r0.1.length : Int) (0 : Int))) (some (([], (7 : Int), ()))) (zCQ N N a0 ((wr ((wr ((64 : Int) * (↑a0.length : Int))) - (1 : Int)))) r0.1 [])
def zkU (N : Nat) (A_11 : Int -> Int -> (List UInt64) -> (List UInt8) -> Option (List UInt8 × Int × Unit)) (n1 i8 : Int) (a0o : List UInt64) (out7o : List UInt8) : Option (List UInt8 × Int × Unit) :=
  cond ((ltI i8 n1)) (Option.bind (q165 N a0o ((wr (Int.tdiv i8 (8 : Int))))) fun r0 => must (leI (0 : Int) ((wr ((8 : Int) * (Int.tmod i8 (8 : Int)))))) (must (ltI ((wr ((8 : Int) * (Int.tmod i8 (8 : Int))))) (18446744073709551616 : Int)) (must (leI (0 : Int) ((wr ((wr (n1 - (1 : Int))) - i8))) && ltI ((wr ((wr (n1 - (1 : Int))) - i8))) (↑out7o.length : Int)) (A_11 n1 ((wr (i8 + (1 : Int)))) a0o (setL out7o (Int.toNat ((wr ((wr (n1 - (1 : Int))) - i8)))) ((UInt8.ofNat (UInt64.toNat ((za6 r0.1 (UInt64.toNat (UInt64.ofNat (Int.toNat ((wr ((8 : Int) * (Int.tmod i8 (8 : Int)))))))))))))))))) (some ((out7o, (0 : Int), ())))
def zkV (N n : Nat) (n1 i8 : Int) (a0o : List UInt64) (out7o : List UInt8) : Option (List UInt8 × Int × Unit) :=
  zar (fun A x => zkU N (fun n1 i8 a0o out7o => A (((), (n1, ((), (i8, ())))), (a0o, (out7o, ())))) x.1.2.1 x.1.2.2.2.1 x.2.1 x.2.2.1) n (((), (n1, ((), (i8, ())))), (a0o, (out7o, ())))
theorem zhc (N n : Nat) (n1 i8 : Int) (a0o : List UInt64) (out7o : List UInt8) : zkV N (n + 1) n1 i8 a0o out7o = zkU N (zkV N n) n1 i8 a0o out7o := rfl
def zxx (N : Nat) (A_5 : Int -> Int -> (List UInt64) -> Option (List UInt8 × Int × Unit)) (n1 i6 : Int) (a0o : List UInt64) : Option (List UInt8 × Int × Unit) :=
  cond ((ltI i6 ((wr ((8 : Int) * (↑a0o.length : Int)))))) (must (leI (0 : Int) ((wr (Int.tdiv i6 (8 : Int)))) && ltI ((wr (Int.tdiv i6 (8 : Int)))) (↑a0o.length : Int)) (must (leI (0 : Int) ((wr ((8 : Int) * (Int.tmod i6 (8 : Int)))))) (must (ltI ((wr ((8 : Int) * (Int.tmod i6 (8 : Int))))) (18446744073709551616 : Int)) (cond (!(UInt8.ofNat (UInt64.toNat ((za6 (List.getD a0o (Int.toNat ((wr (Int.tdiv i6 (8 : Int))))) (0 : UInt64)) (UInt64.toNat (UInt64.ofNat (Int.toNat ((wr ((8 : Int) * (Int.tmod i6 (8 : Int)))))))))))) == (0 : UInt8)) (some (([], (8 : Int), ()))) (A_5 n1 ((wr (i6 + (1 : Int)))) a0o))))) (must (leI (0 : Int) n1 && (eqI n1 n1 && leN (Int.toNat n1 * (1 : Nat)) (140737488355328 : Nat))) (zkV N N n1 (0 : Int) a0o (List.replicate n1.toNat (0 : UInt8))))
def zrO (N n : Nat) (n1 i6 : Int) (a0o : List UInt64) : Option (List UInt8 × Int × Unit) :=
  zar (fun A x => zxx N (fun n1 i6 a0o => A (((), (n1, (i6, ()))), (a0o, ()))) x.1.2.1 x.1.2.2.1 x.2.1) n (((), (n1, (i6, ()))), (a0o, ()))
theorem zo1 (N n : Nat) (n1 i6 : Int) (a0o : List UInt64) : zrO N (n + 1) n1 i6 a0o = zxx N (zrO N n) n1 i6 a0o := rfl
def q58 (N : Nat) (a0 : List UInt64) (n1 : Int) : Option (List UInt8 × Int × Unit) :=
  Option.bind (q161 N a0) fun r0 => cond ((ltI n1 (0 : Int))) (some (([], (8 : Int), ()))) (cond ((ltI (192 : Int) n1)) (some (([], (8 : Int), ()))) (zrO N N n1 n1 r0.1))
def zCR (N : Nat) (A_4 : (List UInt64) -> (List UInt64) -> Int -> Option (Bool × Unit)) (a0 b1 : List UInt64) (i5 : Int) : Option (Bool × Unit) :=
  cond ((ltI i5 (↑a0.length : Int))) (must (leI (0 : Int) i5 && ltI i5 (↑a0.length : Int)) (must (leI (0 : Int) i5 && ltI i5 (↑b1.length : Int)) (cond (!List.getD a0 i5.toNat (0 : UInt64) == List.getD b1 i5.toNat (0 : UInt64)) (some ((false, ()))) (A_4 a0 b1 ((wr (i5 + (1 : Int)))))))) (some ((true, ())))
def zCS (N n : Nat) (a0 b1 : List UInt64) (i5 : Int) : Option (Bool × Unit) :=
  zar (fun A x => zCR N (fun a0 b1 i5 => A ((a0, (b1, (i5, ()))), ())) x.1.1 x.1.2.1 x.1.2.2.1) n ((a0, (b1, (i5, ()))), ())
def q54 (N : Nat) (a0 b1 : List UInt64) : Option (Bool × Unit) :=
  cond (!eqI (↑a0.length : Int) (↑b1.length : Int)) (some ((false, ()))) (zCS N N a0 b1 (0 : Int))
def q51 (N : Nat) : Option (Bool × Unit) :=
  Option.bind (q52 N ([(7 : UInt64)]) ([(4 : UInt64)])) fun r0 => Option.bind (q57 N ([(258 : UInt64)]) (2 : Int)) fun r1 => cond ((eqI (r0.2.1) (0 : Int))) (cond ((eqI (↑r0.1.length : Int) (1 : Int))) (must (ltI (0 : Int) (↑r0.1.length : Int)) (cond ((List.getD r0.1 (0 : Nat) (0 : UInt64) == (3 : UInt64))) (cond ((eqI (r1.2.1) (0 : Int))) (cond ((eqB r1.1 [(1 : UInt8), (2 : UInt8)])) (Option.bind (q62 N ([(1 : UInt64)]) []) fun r2 => cond ((eqI (↑r2.1.length : Int) (1 : Int))) (Option.bind (q55 N ([(9223372036854775808 : UInt64)]) ([(2 : UInt64)])) fun r3 => cond ((eqI (↑r3.1.length : Int) (2 : Int))) (Option.bind (q61 N ([(1 : UInt64)]) []) fun r4 => some (((eqI r4.1 (1 : Int)), ()))) (some ((false, ())))) (some ((false, ())))) (some ((false, ())))) (some ((false, ())))) (some ((false, ()))))) (some ((false, ())))) (some ((false, ())))
end
section
def q6 (N : Nat) (a0 m1 : List UInt64) : Option (Bool × Unit) :=
  Option.bind (q51 N) fun r0 => cond (!r0.1) (some ((false, ()))) (cond ((ltI (24 : Int) (↑a0.length : Int))) (some ((true, ()))) (cond ((ltI (12 : Int) (↑m1.length : Int))) (some ((true, ()))) (Option.bind (q52 N a0 m1) fun r1 => Option.bind (q53 N a0 m1) fun r2 => cond ((eqI (r1.2.1) (r2.2.1))) (Option.bind (q54 N r1.1 r2.1) fun r3 => some ((Prod.fst r3, ()))) (some ((false, ()))))))
end
end Go.Proofs.Ytgimohchocjgcaa.V
