import Derived.Test.YtgimohchocjgcaaVWA0
import Derived.Test.YtgimohchocjgcaaVUM
import Derived.KernelRfl
import Derived.Test.YtgimohchocjgcaaVME
set_option linter.unusedVariables false
set_option linter.unusedSimpArgs false
namespace Go.Proofs.Ytgimohchocjgcaa.V
section
def q75 (N : Nat) (n0 : UInt64) : Option (Fr × Unit) :=
  some (({ a0 := n0, a1 := (0 : UInt64), a2 := (0 : UInt64), a3 := (0 : UInt64) }, ()))
theorem zuQ : p75 = q75 := by
  (repeat (apply funext; intro _))
  simp only [p75, q75, ]
def q169 (N : Nat) : Option (Fr × Unit) :=
  some (({ a0 := (18446744069414584321 : UInt64), a1 := (6034159408538082302 : UInt64), a2 := (3691218898639771653 : UInt64), a3 := (8353516859464449352 : UInt64) }, ()))
theorem zl8 : p169 = q169 := by
  (repeat (apply funext; intro _))
  simp only [p169, q169, ]
def q213 (N : Nat) : Option (Fr × Unit) :=
  some (({ a0 := (14526898881837571181 : UInt64), a1 := (3129137299524312099 : UInt64), a2 := (419701826671360399 : UInt64), a3 := (524908885293268753 : UInt64) }, ()))
theorem zxB : p213 = q213 := by
  (repeat (apply funext; intro _))
  simp only [p213, q213, ]
def zhi (N : Nat) (A_5 : UInt64 -> UInt64 -> Int -> (List UInt64) -> (List UInt64) -> (List UInt64) -> (List UInt64) -> Option (Fr × Unit)) (over1 borrow7 : UInt64) (t10 : Int) (ob0 ob1 ob2 ob3 : List UInt64) : Option (Fr × Unit) :=
  cond ((ltI t10 (4 : Int))) (must (leI (0 : Int) t10 && ltI t10 (↑(4 : Nat) : Int)) (must (leI (0 : Int) t10 && ltI t10 (↑(4 : Nat) : Int)) (Option.bind (kSub (List.getD ob0 t10.toNat (0 : UInt64)) (List.getD ob2 t10.toNat (0 : UInt64)) borrow7) fun r2 => must (leI (0 : Int) t10 && ltI t10 (↑(4 : Nat) : Int)) (A_5 over1 r2.2 ((wr (t10 + (1 : Int)))) ob0 ob1 ob2 (setL ob3 t10.toNat r2.1))))) (cond ((ltN over1.toNat borrow7.toNat)) (must (Nat.beq ob0.length (4 : Nat)) (Option.bind (Fr.of? ob0) fun r1 => some ((r1, ())))) (must (Nat.beq ob3.length (4 : Nat)) (Option.bind (Fr.of? ob3) fun r0 => some ((r0, ())))))
theorem zr1 : zoK = zhi := by
  (repeat (apply funext; intro _))
  simp only [zoK, zhi, hide_eq]
def ze0 (N n : Nat) (over1 borrow7 : UInt64) (t10 : Int) (ob0 ob1 ob2 ob3 : List UInt64) : Option (Fr × Unit) :=
  zaj (fun A x => zhi N (fun over1 borrow7 t10 ob0 ob1 ob2 ob3 => A ((over1, ((), ((), ((), ((), (borrow7, (t10, ()))))))), (ob0, (ob1, (ob2, (ob3, ())))))) x.1.1 x.1.2.2.2.2.2.1 x.1.2.2.2.2.2.2.1 x.2.1 x.2.2.1 x.2.2.2.1 x.2.2.2.2.1) n ((over1, ((), ((), ((), ((), (borrow7, (t10, ()))))))), (ob0, (ob1, (ob2, (ob3, ())))))
theorem zr2 : zoL = ze0 := by
  (repeat (apply funext; intro _))
  simp only [zoL, ze0, zr1]
theorem zgd (N n : Nat) (over1 borrow7 : UInt64) (t10 : Int) (ob0 ob1 ob2 ob3 : List UInt64) : ze0 N (n + 1) over1 borrow7 t10 ob0 ob1 ob2 ob3 = zhi N (ze0 N n) over1 borrow7 t10 ob0 ob1 ob2 ob3 := rfl
def q174 (N : Nat) (a0 : Fr) (over1 : UInt64) : Option (Fr × Unit) :=
  Option.bind (q169 N) fun r0 => ze0 N N over1 (0 : UInt64) (0 : Int) ([Fr.a0 a0, Fr.a1 a0, Fr.a2 a0, Fr.a3 a0]) ([(0 : UInt64), (0 : UInt64), (0 : UInt64), (0 : UInt64)]) ([Fr.a0 r0.1, Fr.a1 r0.1, Fr.a2 r0.1, Fr.a3 r0.1]) ([(0 : UInt64), (0 : UInt64), (0 : UInt64), (0 : UInt64)])
theorem zxC : p174 = q174 := by
  (repeat (apply funext; intro _))
  simp only [p174, q174, zr2, zl8]
def zeD (N : Nat) (A_4 : Int -> (List UInt64) -> (List UInt64) -> (List UInt64) -> (List UInt64) -> (List UInt64) -> Option (Fr × Unit)) (A_22 : UInt64 -> UInt64 -> UInt64 -> UInt64 -> Int -> Int -> (List UInt64) -> (List UInt64) -> (List UInt64) -> (List UInt64) -> (List UInt64) -> Option (Fr × Unit)) (c8 top13 more14 x15 : UInt64) (j16 t18 : Int) (ob0 ob1 ob2 ob3 ob4 : List UInt64) : Option (Fr × Unit) :=
  cond ((ltI j16 (4 : Int))) (must (leI (0 : Int) j16 && ltI j16 (↑(4 : Nat) : Int)) (Option.bind (q163 N x15 (List.getD ob3 j16.toNat (0 : UInt64))) fun r1 => must (leI (0 : Int) j16 && ltI j16 (↑(5 : Nat) : Int)) (Option.bind (kAdd (r1.2.1) (List.getD ob4 j16.toNat (0 : UInt64)) (0 : UInt64)) fun r2 => Option.bind (kAdd r2.1 c8 (0 : UInt64)) fun r3 => must (leI (0 : Int) ((wr (j16 - (1 : Int)))) && ltI ((wr (j16 - (1 : Int)))) (↑(5 : Nat) : Int)) (A_22 (((Prod.fst r1 + Prod.snd r2) + Prod.snd r3)) top13 more14 x15 ((wr (j16 + (1 : Int)))) t18 ob0 ob1 ob2 ob3 (setL ob4 (Int.toNat ((wr (j16 - (1 : Int))))) r3.1))))) (Option.bind (kAdd top13 c8 (0 : UInt64)) fun r0 => A_4 ((wr (t18 + (1 : Int)))) ob0 ob1 ob2 ob3 (setL (setL ob4 (3 : Nat) r0.1) (4 : Nat) ((more14 + Prod.snd r0))))
theorem zpS : zkx = zeD := by
  (repeat (apply funext; intro _))
  simp only [zkx, zeD, hide_eq, zl7]
def zdJ (N : Nat) (A_4 : Int -> (List UInt64) -> (List UInt64) -> (List UInt64) -> (List UInt64) -> (List UInt64) -> Option (Fr × Unit)) (n : Nat) (c8 top13 more14 x15 : UInt64) (j16 t18 : Int) (ob0 ob1 ob2 ob3 ob4 : List UInt64) : Option (Fr × Unit) :=
  zaj (fun A x => zeD N A_4 (fun c8 top13 more14 x15 j16 t18 ob0 ob1 ob2 ob3 ob4 => A (((), ((), ((), ((), ((), (c8, (top13, (more14, (x15, (j16, (t18, ()))))))))))), (ob0, (ob1, (ob2, (ob3, (ob4, ()))))))) x.1.2.2.2.2.2.1 x.1.2.2.2.2.2.2.1 x.1.2.2.2.2.2.2.2.1 x.1.2.2.2.2.2.2.2.2.1 x.1.2.2.2.2.2.2.2.2.2.1 x.1.2.2.2.2.2.2.2.2.2.2.1 x.2.1 x.2.2.1 x.2.2.2.1 x.2.2.2.2.1 x.2.2.2.2.2.1) n (((), ((), ((), ((), ((), (c8, (top13, (more14, (x15, (j16, (t18, ()))))))))))), (ob0, (ob1, (ob2, (ob3, (ob4, ()))))))
theorem zpT : zky = zdJ := by
  (repeat (apply funext; intro _))
  simp only [zky, zdJ, zpS]
theorem ze1 (N : Nat) (A_4 : Int -> (List UInt64) -> (List UInt64) -> (List UInt64) -> (List UInt64) -> (List UInt64) -> Option (Fr × Unit)) (n : Nat) (c8 top13 more14 x15 : UInt64) (j16 t18 : Int) (ob0 ob1 ob2 ob3 ob4 : List UInt64) : zdJ N A_4 (n + 1) c8 top13 more14 x15 j16 t18 ob0 ob1 ob2 ob3 ob4 = zeD N A_4 (zdJ N A_4 n) c8 top13 more14 x15 j16 t18 ob0 ob1 ob2 ob3 ob4 := rfl
def zhj (N : Nat) (A_4 : Int -> (List UInt64) -> (List UInt64) -> (List UInt64) -> (List UInt64) -> (List UInt64) -> Option (Fr × Unit)) (A_8 : Int -> UInt64 -> Int -> Int -> (List UInt64) -> (List UInt64) -> (List UInt64) -> (List UInt64) -> (List UInt64) -> Option (Fr × Unit)) (i7 : Int) (c8 : UInt64) (t18 t21 : Int) (ob0 ob1 ob2 ob3 ob4 : List UInt64) : Option (Fr × Unit) :=
  cond ((ltI t21 (4 : Int))) (must (leI (0 : Int) t21 && ltI t21 (↑(4 : Nat) : Int)) (must (leI (0 : Int) i7 && ltI i7 (↑(4 : Nat) : Int)) (Option.bind (q163 N (List.getD ob0 t21.toNat (0 : UInt64)) (List.getD ob1 i7.toNat (0 : UInt64))) fun r3 => must (leI (0 : Int) t21 && ltI t21 (↑(5 : Nat) : Int)) (Option.bind (kAdd (r3.2.1) (List.getD ob4 t21.toNat (0 : UInt64)) (0 : UInt64)) fun r4 => Option.bind (kAdd r4.1 c8 (0 : UInt64)) fun r5 => must (leI (0 : Int) t21 && ltI t21 (↑(5 : Nat) : Int)) (A_8 i7 (((Prod.fst r3 + Prod.snd r4) + Prod.snd r5)) t18 ((wr (t21 + (1 : Int)))) ob0 ob1 ob2 ob3 (setL ob4 t21.toNat r5.1)))))) (Option.bind (kAdd (List.getD ob4 (4 : Nat) (0 : UInt64)) c8 (0 : UInt64)) fun r0 => Option.bind (q163 N ((List.getD ob4 (0 : Nat) (0 : UInt64) * (18446744069414584319 : UInt64))) (List.getD ob3 (0 : Nat) (0 : UInt64))) fun r1 => Option.bind (kAdd (r1.2.1) (List.getD ob4 (0 : Nat) (0 : UInt64)) (0 : UInt64)) fun r2 => zdJ N A_4 N ((Prod.fst r1 + Prod.snd r2)) r0.1 r0.2 ((List.getD ob4 (0 : Nat) (0 : UInt64) * (18446744069414584319 : UInt64))) (1 : Int) t18 ob0 ob1 ob2 ob3 ob4)
theorem zr3 : zoN = zhj := by
  (repeat (apply funext; intro _))
  simp only [zoN, zhj, hide_eq, zpT, zl7]
def zge (N : Nat) (A_4 : Int -> (List UInt64) -> (List UInt64) -> (List UInt64) -> (List UInt64) -> (List UInt64) -> Option (Fr × Unit)) (n : Nat) (i7 : Int) (c8 : UInt64) (t18 t21 : Int) (ob0 ob1 ob2 ob3 ob4 : List UInt64) : Option (Fr × Unit) :=
  zaj (fun A x => zhj N A_4 (fun i7 c8 t18 t21 ob0 ob1 ob2 ob3 ob4 => A (((), ((), ((), ((), ((), (i7, (c8, (t18, (t21, ()))))))))), (ob0, (ob1, (ob2, (ob3, (ob4, ()))))))) x.1.2.2.2.2.2.1 x.1.2.2.2.2.2.2.1 x.1.2.2.2.2.2.2.2.1 x.1.2.2.2.2.2.2.2.2.1 x.2.1 x.2.2.1 x.2.2.2.1 x.2.2.2.2.1 x.2.2.2.2.2.1) n (((), ((), ((), ((), ((), (i7, (c8, (t18, (t21, ()))))))))), (ob0, (ob1, (ob2, (ob3, (ob4, ()))))))
theorem zr4 : zoO = zge := by
  (repeat (apply funext; intro _))
  simp only [zoO, zge, zr3]
theorem zgf (N : Nat) (A_4 : Int -> (List UInt64) -> (List UInt64) -> (List UInt64) -> (List UInt64) -> (List UInt64) -> Option (Fr × Unit)) (n : Nat) (i7 : Int) (c8 : UInt64) (t18 t21 : Int) (ob0 ob1 ob2 ob3 ob4 : List UInt64) : zge N A_4 (n + 1) i7 c8 t18 t21 ob0 ob1 ob2 ob3 ob4 = zhj N A_4 (zge N A_4 n) i7 c8 t18 t21 ob0 ob1 ob2 ob3 ob4 := rfl
def zhk (N : Nat) (A_4 : Int -> (List UInt64) -> (List UInt64) -> (List UInt64) -> (List UInt64) -> (List UInt64) -> Option (Fr × Unit)) (t18 : Int) (ob0 ob1 ob2 ob3 ob4 : List UInt64) : Option (Fr × Unit) :=
  cond ((ltI t18 (4 : Int))) (zge N A_4 N t18 (0 : UInt64) t18 (0 : Int) ob0 ob1 ob2 ob3 ob4) (must (leN (Int.toNat (0 : Int) + (4 : Nat)) ob4.length) (Option.bind (Option.bind (Option.bind (Fr.of? (List.take (4 : Nat) ob4)) fun r0 => some ((r0, List.getD ob4 (4 : Nat) (0 : UInt64), ()))) fun r1 => q174 N r1.1 (r1.2.1)) fun r2 => some (({ a0 := Fr.a0 r2.1, a1 := Fr.a1 r2.1, a2 := Fr.a2 r2.1, a3 := Fr.a3 r2.1 }, ()))))
theorem zr5 : zoP = zhk := by
  (repeat (apply funext; intro _))
  simp only [zoP, zhk, hide_eq, zr4, zxC]
def zcT (N n : Nat) (t18 : Int) (ob0 ob1 ob2 ob3 ob4 : List UInt64) : Option (Fr × Unit) :=
  zaj (fun A x => zhk N (fun t18 ob0 ob1 ob2 ob3 ob4 => A (((), ((), ((), ((), ((), (t18, ())))))), (ob0, (ob1, (ob2, (ob3, (ob4, ()))))))) x.1.2.2.2.2.2.1 x.2.1 x.2.2.1 x.2.2.2.1 x.2.2.2.2.1 x.2.2.2.2.2.1) n (((), ((), ((), ((), ((), (t18, ())))))), (ob0, (ob1, (ob2, (ob3, (ob4, ()))))))
theorem zr6 : zoQ = zcT := by
  (repeat (apply funext; intro _))
  simp only [zoQ, zcT, zr5]
theorem zgg (N n : Nat) (t18 : Int) (ob0 ob1 ob2 ob3 ob4 : List UInt64) : zcT N (n + 1) t18 ob0 ob1 ob2 ob3 ob4 = zhk N (zcT N n) t18 ob0 ob1 ob2 ob3 ob4 := rfl
def q172 (N : Nat) (a0 b1 : Fr) : Option (Fr × Unit) :=
  Option.bind (q169 N) fun r0 => zcT N N (0 : Int) ([Fr.a0 a0, Fr.a1 a0, Fr.a2 a0, Fr.a3 a0]) ([Fr.a0 b1, Fr.a1 b1, Fr.a2 b1, Fr.a3 b1]) ([(0 : UInt64), (0 : UInt64), (0 : UInt64), (0 : UInt64)]) ([Fr.a0 r0.1, Fr.a1 r0.1, Fr.a2 r0.1, Fr.a3 r0.1]) ([(0 : UInt64), (0 : UInt64), (0 : UInt64), (0 : UInt64), (0 : UInt64)])
theorem zl9 : p172 = q172 := by
  (repeat (apply funext; intro _))
  simp only [p172, q172, zr6, zl8]
def q170 (N : Nat) (a0 : Fr) : Option (Fr × Unit) :=
  Option.bind (q213 N) fun r0 => Option.bind (q172 N ({ a0 := Fr.a0 a0, a1 := Fr.a1 a0, a2 := Fr.a2 a0, a3 := Fr.a3 a0 }) ({ a0 := Fr.a0 r0.1, a1 := Fr.a1 r0.1, a2 := Fr.a2 r0.1, a3 := Fr.a3 r0.1 })) fun r1 => some (({ a0 := Fr.a0 r1.1, a1 := Fr.a1 r1.1, a2 := Fr.a2 r1.1, a3 := Fr.a3 r1.1 }, ()))
theorem zta : p170 = q170 := by
  (repeat (apply funext; intro _))
  simp only [p170, q170, zl9, zxB]
def q171 (N : Nat) (a0 : Fr) : Option (Fr × Unit) :=
  Option.bind (q172 N ({ a0 := Fr.a0 a0, a1 := Fr.a1 a0, a2 := Fr.a2 a0, a3 := Fr.a3 a0 }) ({ a0 := (1 : UInt64), a1 := (0 : UInt64), a2 := (0 : UInt64), a3 := (0 : UInt64) })) fun r0 => some (({ a0 := Fr.a0 r0.1, a1 := Fr.a1 r0.1, a2 := Fr.a2 r0.1, a3 := Fr.a3 r0.1 }, ()))
theorem zxD : p171 = q171 := by
  (repeat (apply funext; intro _))
  simp only [p171, q171, zl9]
def zdj (N : Nat) (A_1000 : (List UInt64) -> Int -> (List UInt64) -> (List UInt64) -> (List UInt64) -> Option (Fr × Unit)) (e1 : List UInt64) (i7 : Int) (ob0 ob1 ob2 : List UInt64) : Option (Fr × Unit) :=
  cond ((ltI ((wr (i7 - (1 : Int)))) (0 : Int))) (Option.bind (Option.bind (Option.bind (Fr.of? ob2) fun r9 => some ((r9, ()))) fun r10 => q171 N r10.1) fun r11 => some (({ a0 := Fr.a0 r11.1, a1 := Fr.a1 r11.1, a2 := Fr.a2 r11.1, a3 := Fr.a3 r11.1 }, ()))) (Option.bind (Option.bind (Option.bind (Fr.of? ob2) fun r0 => Option.bind (Option.bind (Fr.of? ob2) fun r1 => some ((r1, ()))) fun r2 => some ((r0, r2))) fun r3 => q172 N r3.1 (r3.2.1)) fun r4 => must (leI (0 : Int) ((wr (Int.tdiv ((wr (i7 - (1 : Int)))) (64 : Int)))) && ltI ((wr (Int.tdiv ((wr (i7 - (1 : Int)))) (64 : Int)))) (↑e1.length : Int)) (cond ((((zaL (List.getD e1 (Int.toNat ((wr (Int.tdiv ((wr (i7 - (1 : Int)))) (64 : Int))))) (0 : UInt64)) (UInt64.toNat ((u64I ((Int.tmod ((wr (i7 - (1 : Int)))) (64 : Int))))))) &&& (1 : UInt64)) == (1 : UInt64))) (Option.bind (Option.bind (Option.bind (Option.bind (Fr.of? ob1) fun r5 => some ((r5, ()))) fun r6 => some (({ a0 := Fr.a0 r4.1, a1 := Fr.a1 r4.1, a2 := Fr.a2 r4.1, a3 := Fr.a3 r4.1 }, r6))) fun r7 => q172 N r7.1 (r7.2.1)) fun r8 => A_1000 e1 ((wr (i7 - (1 : Int)))) ob0 ob1 ([Fr.a0 r8.1, Fr.a1 r8.1, Fr.a2 r8.1, Fr.a3 r8.1])) (A_1000 e1 ((wr (i7 - (1 : Int)))) ob0 ob1 ([Fr.a0 r4.1, Fr.a1 r4.1, Fr.a2 r4.1, Fr.a3 r4.1]))))
theorem zm3 : zin = zdj := by
  (repeat (apply funext; intro _))
  simp only [zin, zdj, hide_eq, zxD, zl9]
def zdk (N n : Nat) (e1 : List UInt64) (i7 : Int) (ob0 ob1 ob2 : List UInt64) : Option (Fr × Unit) :=
  zaj (fun A x => zdj N (fun e1 i7 ob0 ob1 ob2 => A ((e1, ((), ((), ((), (i7, ()))))), (ob0, (ob1, (ob2, ()))))) x.1.1 x.1.2.2.2.2.1 x.2.1 x.2.2.1 x.2.2.2.1) n ((e1, ((), ((), ((), (i7, ()))))), (ob0, (ob1, (ob2, ()))))
theorem zm4 : zio = zdk := by
  (repeat (apply funext; intro _))
  simp only [zio, zdk, zm3]
theorem zeg (N n : Nat) (e1 : List UInt64) (i7 : Int) (ob0 ob1 ob2 : List UInt64) : zdk N (n + 1) e1 i7 ob0 ob1 ob2 = zdj N (zdk N n) e1 i7 ob0 ob1 ob2 := rfl
def q72 (N : Nat) (a0 : Fr) (e1 : List UInt64) : Option (Fr × Unit) :=
  Option.bind (q170 N ({ a0 := Fr.a0 a0, a1 := Fr.a1 a0, a2 := Fr.a2 a0, a3 := Fr.a3 a0 })) fun r0 => Option.bind (q170 N ({ a0 := (1 : UInt64), a1 := (0 : UInt64), a2 := (0 : UInt64), a3 := (0 : UInt64) })) fun r1 => zdk N N e1 ((wr ((64 : Int) * (↑e1.length : Int)))) ([(0 : UInt64), (0 : UInt64), (0 : UInt64), (0 : UInt64)]) ([Fr.a0 r0.1, Fr.a1 r0.1, Fr.a2 r0.1, Fr.a3 r0.1]) ([Fr.a0 r1.1, Fr.a1 r1.1, Fr.a2 r1.1, Fr.a3 r1.1])
theorem zxE : p72 = q72 := by
  (repeat (apply funext; intro _))
  simp only [p72, q72, hide_eq, zm4, zta]
def q70 (N : Nat) (a0 : Fr) : Option (Fr × Int × Unit) :=
  cond ((eqL El.u64 [Fr.a0 a0, Fr.a1 a0, Fr.a2 a0, Fr.a3 a0] [(0 : UInt64), (0 : UInt64), (0 : UInt64), (0 : UInt64)])) (some (({ a0 := Fr.a0 a0, a1 := Fr.a1 a0, a2 := Fr.a2 a0, a3 := Fr.a3 a0 }, (7 : Int), ()))) (Option.bind (q169 N) fun r0 => Option.bind (q72 N ({ a0 := Fr.a0 a0, a1 := Fr.a1 a0, a2 := Fr.a2 a0, a3 := Fr.a3 a0 }) (List.take (Int.toNat ((↑(4 : Nat) : Int) - (0 : Int))) (setL [Fr.a0 r0.1, Fr.a1 r0.1, Fr.a2 r0.1, Fr.a3 r0.1] (0 : Nat) ((Fr.a0 r0.1 - (2 : UInt64)))))) fun r1 => some (({ a0 := Fr.a0 r1.1, a1 := Fr.a1 r1.1, a2 := Fr.a2 r1.1, a3 := Fr.a3 r1.1 }, (0 : Int), ())))
def zuR (N : Nat) (A_6 : Int -> Int -> (List UInt64) -> (List UInt64) -> Option (Fr × Int × Unit)) (A_9 : UInt64 -> Int -> Int -> Int -> (List UInt64) -> (List UInt64) -> Option (Fr × Int × Unit)) (over5 : UInt64) (i6 t19 t20 : Int) (ob0 ob1 : List UInt64) : Option (Fr × Int × Unit) :=
  cond ((leI (0 : Int) i6)) (must (leI (0 : Int) i6 && ltI i6 (↑(4 : Nat) : Int)) (must (leI (0 : Int) i6 && ltI i6 (↑(4 : Nat) : Int)) (must (leI (0 : Int) i6 && ltI i6 (↑(4 : Nat) : Int)) (A_9 ((zcU (List.getD ob1 i6.toNat (0 : UInt64)) (UInt64.toNat (63 : UInt64)))) ((wr (i6 - (1 : Int)))) t19 t20 ob0 (setL ob1 i6.toNat (((zaL (List.getD ob1 i6.toNat (0 : UInt64)) (UInt64.toNat (1 : UInt64))) ||| over5))))))) (A_6 t19 ((wr (t20 + (1 : Int)))) ob0 ob1)
theorem zuS : zuo = zuR := by
  (repeat (apply funext; intro _))
  simp only [zuo, zuR, hide_eq]
def zr7 (N : Nat) (A_6 : Int -> Int -> (List UInt64) -> (List UInt64) -> Option (Fr × Int × Unit)) (n : Nat) (over5 : UInt64) (i6 t19 t20 : Int) (ob0 ob1 : List UInt64) : Option (Fr × Int × Unit) :=
  zaj (fun A x => zuR N A_6 (fun over5 i6 t19 t20 ob0 ob1 => A (((), ((), (over5, (i6, (t19, (t20, ())))))), (ob0, (ob1, ())))) x.1.2.2.1 x.1.2.2.2.1 x.1.2.2.2.2.1 x.1.2.2.2.2.2.1 x.2.1 x.2.2.1) n (((), ((), (over5, (i6, (t19, (t20, ())))))), (ob0, (ob1, ())))
theorem zuT : zup = zr7 := by
  (repeat (apply funext; intro _))
  simp only [zup, zr7, zuS]
def zm5 (N : Nat) (A_6 : Int -> Int -> (List UInt64) -> (List UInt64) -> Option (Fr × Int × Unit)) (t19 t20 : Int) (ob0 ob1 : List UInt64) : Option (Fr × Int × Unit) :=
  cond ((ltI t20 t19)) (zr7 N A_6 N (0 : UInt64) (3 : Int) t19 t20 ob0 ob1) (Option.bind (q75 N (7 : UInt64)) fun r0 => Option.bind (q72 N ({ a0 := Fr.a0 r0.1, a1 := Fr.a1 r0.1, a2 := Fr.a2 r0.1, a3 := Fr.a3 r0.1 }) (List.take (Int.toNat ((↑(4 : Nat) : Int) - (0 : Int))) ob1)) fun r1 => some (({ a0 := Fr.a0 r1.1, a1 := Fr.a1 r1.1, a2 := Fr.a2 r1.1, a3 := Fr.a3 r1.1 }, (0 : Int), ())))
theorem zuU : zuq = zm5 := by
  (repeat (apply funext; intro _))
  simp only [zuq, zm5, hide_eq, zuT, zxE, zuQ]
def zm6 (N n : Nat) (t19 t20 : Int) (ob0 ob1 : List UInt64) : Option (Fr × Int × Unit) :=
  zaj (fun A x => zm5 N (fun t19 t20 ob0 ob1 => A (((), ((), (t19, (t20, ())))), (ob0, (ob1, ())))) x.1.2.2.1 x.1.2.2.2.1 x.2.1 x.2.2.1) n (((), ((), (t19, (t20, ())))), (ob0, (ob1, ())))
theorem zuV : zur = zm6 := by
  (repeat (apply funext; intro _))
  simp only [zur, zm6, zuU]
theorem zhl (N n : Nat) (t19 t20 : Int) (ob0 ob1 : List UInt64) : zm6 N (n + 1) t19 t20 ob0 ob1 = zm5 N (zm6 N n) t19 t20 ob0 ob1 := rfl
def q77 (N : Nat) (log0 : Int) : Option (Fr × Int × Unit) :=
  cond ((ltI log0 (0 : Int))) (some (({ a0 := (0 : UInt64), a1 := (0 : UInt64), a2 := (0 : UInt64), a3 := (0 : UInt64) }, (1 : Int), ()))) (cond ((ltI (32 : Int) log0)) (some (({ a0 := (0 : UInt64), a1 := (0 : UInt64), a2 := (0 : UInt64), a3 := (0 : UInt64) }, (1 : Int), ()))) (Option.bind (q169 N) fun r0 => zm6 N N log0 (0 : Int) ([(0 : UInt64), (0 : UInt64), (0 : UInt64), (0 : UInt64)]) (setL [Fr.a0 r0.1, Fr.a1 r0.1, Fr.a2 r0.1, Fr.a3 r0.1] (0 : Nat) ((Fr.a0 r0.1 - (1 : UInt64))))))
theorem zzW : p77 = q77 := by
  (repeat (apply funext; intro _))
  simp only [p77, q77, hide_eq, zuV, zl8]
def q76 (N : Nat) (a0 b1 : Fr) : Option (Fr × Unit) :=
  Option.bind (q172 N ({ a0 := Fr.a0 a0, a1 := Fr.a1 a0, a2 := Fr.a2 a0, a3 := Fr.a3 a0 }) ({ a0 := Fr.a0 b1, a1 := Fr.a1 b1, a2 := Fr.a2 b1, a3 := Fr.a3 b1 })) fun r0 => Option.bind (q170 N ({ a0 := Fr.a0 r0.1, a1 := Fr.a1 r0.1, a2 := Fr.a2 r0.1, a3 := Fr.a3 r0.1 })) fun r1 => some (({ a0 := Fr.a0 r1.1, a1 := Fr.a1 r1.1, a2 := Fr.a2 r1.1, a3 := Fr.a3 r1.1 }, ()))
theorem zzX : p76 = q76 := by
  (repeat (apply funext; intro _))
  simp only [p76, q76, zta, zl9]
def zxF (N : Nat) (A_12 : UInt64 -> Int -> (List UInt64) -> (List UInt64) -> (List UInt64) -> Option (Fr × Unit)) (carry8 : UInt64) (t32 : Int) (ob0 ob1 ob2 : List UInt64) : Option (Fr × Unit) :=
  cond ((ltI t32 (4 : Int))) (must (leI (0 : Int) t32 && ltI t32 (↑(4 : Nat) : Int)) (must (leI (0 : Int) t32 && ltI t32 (↑(4 : Nat) : Int)) (Option.bind (kAdd (List.getD ob2 t32.toNat (0 : UInt64)) (List.getD ob1 t32.toNat (0 : UInt64)) carry8) fun r1 => must (leI (0 : Int) t32 && ltI t32 (↑(4 : Nat) : Int)) (A_12 r1.2 ((wr (t32 + (1 : Int)))) ob0 ob1 (setL ob2 t32.toNat r1.1))))) (must (Nat.beq ob2.length (4 : Nat)) (Option.bind (Fr.of? ob2) fun r0 => some ((r0, ()))))
def zxG (N n : Nat) (carry8 : UInt64) (t32 : Int) (ob0 ob1 ob2 : List UInt64) : Option (Fr × Unit) :=
  zaj (fun A x => zxF N (fun carry8 t32 ob0 ob1 ob2 => A (((), ((), ((), (carry8, (t32, ()))))), (ob0, (ob1, (ob2, ()))))) x.1.2.2.2.1 x.1.2.2.2.2.1 x.2.1 x.2.2.1 x.2.2.2.1) n (((), ((), ((), (carry8, (t32, ()))))), (ob0, (ob1, (ob2, ()))))
def zzY (N : Nat) (A_5 : UInt64 -> UInt64 -> Int -> (List UInt64) -> (List UInt64) -> (List UInt64) -> (List UInt64) -> (List UInt64) -> Option (Fr × Unit)) (borrow7 carry8 : UInt64) (t12 : Int) (ob0 ob1 ob2 ob3 ob4 : List UInt64) : Option (Fr × Unit) :=
  cond ((ltI t12 (4 : Int))) (must (leI (0 : Int) t12 && ltI t12 (↑(4 : Nat) : Int)) (must (leI (0 : Int) t12 && ltI t12 (↑(4 : Nat) : Int)) (Option.bind (kSub (List.getD ob0 t12.toNat (0 : UInt64)) (List.getD ob1 t12.toNat (0 : UInt64)) borrow7) fun r1 => must (leI (0 : Int) t12 && ltI t12 (↑(4 : Nat) : Int)) (A_5 r1.2 carry8 ((wr (t12 + (1 : Int)))) ob0 ob1 ob2 ob3 (setL ob4 t12.toNat r1.1))))) (cond ((borrow7 == (0 : UInt64))) (must (Nat.beq ob4.length (4 : Nat)) (Option.bind (Fr.of? ob4) fun r0 => some ((r0, ())))) (zxG N N carry8 (0 : Int) ob2 ob3 ob4))
def zzZ (N n : Nat) (borrow7 carry8 : UInt64) (t12 : Int) (ob0 ob1 ob2 ob3 ob4 : List UInt64) : Option (Fr × Unit) :=
  zaj (fun A x => zzY N (fun borrow7 carry8 t12 ob0 ob1 ob2 ob3 ob4 => A (((), ((), ((), ((), ((), (borrow7, (carry8, (t12, ())))))))), (ob0, (ob1, (ob2, (ob3, (ob4, ()))))))) x.1.2.2.2.2.2.1 x.1.2.2.2.2.2.2.1 x.1.2.2.2.2.2.2.2.1 x.2.1 x.2.2.1 x.2.2.2.1 x.2.2.2.2.1 x.2.2.2.2.2.1) n (((), ((), ((), ((), ((), (borrow7, (carry8, (t12, ())))))))), (ob0, (ob1, (ob2, (ob3, (ob4, ()))))))
def q82 (N : Nat) (a0 b1 : Fr) : Option (Fr × Unit) :=
  Option.bind (q169 N) fun r0 => zzZ N N (0 : UInt64) (0 : UInt64) (0 : Int) ([Fr.a0 a0, Fr.a1 a0, Fr.a2 a0, Fr.a3 a0]) ([Fr.a0 b1, Fr.a1 b1, Fr.a2 b1, Fr.a3 b1]) ([(0 : UInt64), (0 : UInt64), (0 : UInt64), (0 : UInt64)]) ([Fr.a0 r0.1, Fr.a1 r0.1, Fr.a2 r0.1, Fr.a3 r0.1]) ([(0 : UInt64), (0 : UInt64), (0 : UInt64), (0 : UInt64)])
def q84 (N : Nat) (a0 : Fr) : Option (Fr × Unit) :=
  Option.bind (q82 N ({ a0 := (0 : UInt64), a1 := (0 : UInt64), a2 := (0 : UInt64), a3 := (0 : UInt64) }) ({ a0 := Fr.a0 a0, a1 := Fr.a1 a0, a2 := Fr.a2 a0, a3 := Fr.a3 a0 })) fun r0 => some (({ a0 := Fr.a0 r0.1, a1 := Fr.a1 r0.1, a2 := Fr.a2 r0.1, a3 := Fr.a3 r0.1 }, ()))
def q79 (N : Nat) (a0 : Fr) : Option (Bool × Unit) :=
  Option.bind (q169 N) fun r0 => Option.bind (q61 N (List.take (Int.toNat ((↑(4 : Nat) : Int) - (0 : Int))) [Fr.a0 a0, Fr.a1 a0, Fr.a2 a0, Fr.a3 a0]) (List.take (Int.toNat ((↑(4 : Nat) : Int) - (0 : Int))) [Fr.a0 r0.1, Fr.a1 r0.1, Fr.a2 r0.1, Fr.a3 r0.1])) fun r1 => some (((ltI r1.1 (0 : Int)), ()))
theorem zz0 : p79 = q79 := by
  (repeat (apply funext; intro _))
  simp only [p79, q79, hide_eq, zl8, zzB]
def q74 (N : Nat) : Option (List UInt64 × Unit) :=
  Option.bind (q169 N) fun r0 => some ((List.take (Int.toNat ((↑(4 : Nat) : Int) - (0 : Int))) [Fr.a0 r0.1, Fr.a1 r0.1, Fr.a2 r0.1, Fr.a3 r0.1], ()))
def q68 (N : Nat) : Option (Bool × Unit) :=
  Option.bind (q75 N (2 : UInt64)) fun r0 => Option.bind (q70 N ({ a0 := Fr.a0 r0.1, a1 := Fr.a1 r0.1, a2 := Fr.a2 r0.1, a3 := Fr.a3 r0.1 })) fun r1 => Option.bind (q77 N (1 : Int)) fun r2 => cond ((eqI (r1.2.1) (0 : Int))) (Option.bind (q75 N (2 : UInt64)) fun r3 => Option.bind (q76 N ({ a0 := Fr.a0 r1.1, a1 := Fr.a1 r1.1, a2 := Fr.a2 r1.1, a3 := Fr.a3 r1.1 }) ({ a0 := Fr.a0 r3.1, a1 := Fr.a1 r3.1, a2 := Fr.a2 r3.1, a3 := Fr.a3 r3.1 })) fun r4 => Option.bind (q75 N (1 : UInt64)) fun r5 => cond ((eqL El.u64 [Fr.a0 r4.1, Fr.a1 r4.1, Fr.a2 r4.1, Fr.a3 r4.1] [Fr.a0 r5.1, Fr.a1 r5.1, Fr.a2 r5.1, Fr.a3 r5.1])) (cond ((eqI (r2.2.1) (0 : Int))) (Option.bind (q75 N (1 : UInt64)) fun r6 => Option.bind (q84 N ({ a0 := Fr.a0 r6.1, a1 := Fr.a1 r6.1, a2 := Fr.a2 r6.1, a3 := Fr.a3 r6.1 })) fun r7 => cond ((eqL El.u64 [Fr.a0 r2.1, Fr.a1 r2.1, Fr.a2 r2.1, Fr.a3 r2.1] [Fr.a0 r7.1, Fr.a1 r7.1, Fr.a2 r7.1, Fr.a3 r7.1])) (Option.bind (q75 N (3 : UInt64)) fun r8 => cond ((eqL El.u64 [Fr.a0 r8.1, Fr.a1 r8.1, Fr.a2 r8.1, Fr.a3 r8.1] [(3 : UInt64), (0 : UInt64), (0 : UInt64), (0 : UInt64)])) (Option.bind (q79 N ({ a0 := Fr.a0 r1.1, a1 := Fr.a1 r1.1, a2 := Fr.a2 r1.1, a3 := Fr.a3 r1.1 })) fun r9 => cond r9.1 (Option.bind (q74 N) fun r10 => some (((eqI (↑r10.1.length : Int) (4 : Int)), ()))) (some ((false, ())))) (some ((false, ())))) (some ((false, ())))) (some ((false, ())))) (some ((false, ())))) (some ((false, ())))
def q88 (N : Nat) : Option (List UInt64 × Unit) :=
  some (([(18446744069414584321 : UInt64), (6034159408538082302 : UInt64), (3691218898639771653 : UInt64), (8353516859464449352 : UInt64)], ()))
theorem zr8 : p88 = q88 := by
  (repeat (apply funext; intro _))
  simp only [p88, q88, ]
def zhm (N : Nat) (A_2 : (List UInt64) -> (List UInt64) -> Int -> Option (Bool × Unit)) (a0 m1 : List UInt64) (i5 : Int) : Option (Bool × Unit) :=
  cond ((leI (0 : Int) i5)) (must (leI (0 : Int) i5 && ltI i5 (↑a0.length : Int)) (must (leI (0 : Int) i5 && ltI i5 (↑m1.length : Int)) (cond (!List.getD a0 i5.toNat (0 : UInt64) == List.getD m1 i5.toNat (0 : UInt64)) (must (leI (0 : Int) i5 && ltI i5 (↑a0.length : Int)) (must (leI (0 : Int) i5 && ltI i5 (↑m1.length : Int)) (some (((ltN (UInt64.toNat (List.getD a0 i5.toNat (0 : UInt64))) (UInt64.toNat (List.getD m1 i5.toNat (0 : UInt64)))), ()))))) (A_2 a0 m1 ((wr (i5 - (1 : Int)))))))) (some ((false, ())))
theorem zr9 : zoV = zhm := by
  (repeat (apply funext; intro _))
  simp only [zoV, zhm, hide_eq]
def zhn (N n : Nat) (a0 m1 : List UInt64) (i5 : Int) : Option (Bool × Unit) :=
  zaj (fun A x => zhm N (fun a0 m1 i5 => A ((a0, (m1, (i5, ()))), ())) x.1.1 x.1.2.1 x.1.2.2.1) n ((a0, (m1, (i5, ()))), ())
theorem zsa : zoW = zhn := by
  (repeat (apply funext; intro _))
  simp only [zoW, zhn, zr9]
theorem zgh (N n : Nat) (a0 m1 : List UInt64) (i5 : Int) : zhn N (n + 1) a0 m1 i5 = zhm N (zhn N n) a0 m1 i5 := rfl
def q168 (N : Nat) (a0 m1 : List UInt64) : Option (Bool × Unit) :=
  zhn N N a0 m1 ((wr ((↑m1.length : Int) - (1 : Int))))
theorem zpU : p168 = q168 := by
  (repeat (apply funext; intro _))
  simp only [p168, q168, hide_eq, zsa]
def q69 (N : Nat) (a0 : Fr) : Option (Bool × Unit) :=
  Option.bind (q88 N) fun r0 => Option.bind (q168 N (List.take (Int.toNat ((↑(4 : Nat) : Int) - (0 : Int))) [Fr.a0 a0, Fr.a1 a0, Fr.a2 a0, Fr.a3 a0]) r0.1) fun r1 => some ((Prod.fst r1, ()))
theorem zz1 : p69 = q69 := by
  (repeat (apply funext; intro _))
  simp only [p69, q69, zpU, zr8]
def q173 (N : Nat) (n0 : UInt64) : Option (Fr × Unit) :=
  some (({ a0 := n0, a1 := (0 : UInt64), a2 := (0 : UInt64), a3 := (0 : UInt64) }, ()))
theorem zma : p173 = q173 := by
  (repeat (apply funext; intro _))
  simp only [p173, q173, ]
def zho (N : Nat) (A_2 : Nat -> Nat -> (List UInt64) -> UInt64 -> Int -> (List UInt64) -> Option (List UInt64 × Unit)) (t0f t0n : Nat) (m1 : List UInt64) (c4 : UInt64) (i5 : Int) (t0o : List UInt64) : Option (List UInt64 × Unit) :=
  cond ((ltI i5 (↑m1.length : Int))) (must (leI (0 : Int) i5 && ltI i5 (↑t0n : Int)) (must (leI (0 : Int) i5 && ltI i5 (↑m1.length : Int)) (Option.bind (kSub (List.getD t0o (t0f + Int.toNat i5) (0 : UInt64)) (List.getD m1 i5.toNat (0 : UInt64)) c4) fun r0 => must (leI (0 : Int) i5 && ltI i5 (↑t0n : Int)) (A_2 t0f t0n m1 r0.2 ((wr (i5 + (1 : Int)))) (setL t0o (t0f + Int.toNat i5) r0.1))))) (some ((t0o, ())))
theorem zsb : zoZ = zho := by
  (repeat (apply funext; intro _))
  simp only [zoZ, zho, hide_eq]
def zhp (N n t0f t0n : Nat) (m1 : List UInt64) (c4 : UInt64) (i5 : Int) (t0o : List UInt64) : Option (List UInt64 × Unit) :=
  zaj (fun A x => zho N (fun t0f t0n m1 c4 i5 t0o => A (((t0f, t0n), (m1, (c4, (i5, ())))), (t0o, ()))) x.1.1.1 x.1.1.2 x.1.2.1 x.1.2.2.1 x.1.2.2.2.1 x.2.1) n (((t0f, t0n), (m1, (c4, (i5, ())))), (t0o, ()))
theorem zsc : zo0 = zhp := by
  (repeat (apply funext; intro _))
  simp only [zo0, zhp, zsb]
theorem zgi (N n t0f t0n : Nat) (m1 : List UInt64) (c4 : UInt64) (i5 : Int) (t0o : List UInt64) : zhp N (n + 1) t0f t0n m1 c4 i5 t0o = zho N (zhp N n) t0f t0n m1 c4 i5 t0o := rfl
def q214 (N : Nat) (t0 m1 : List UInt64) : Option (List UInt64 × Unit) :=
  zhp N N (0 : Nat) t0.length m1 (0 : UInt64) (0 : Int) t0
theorem ztb : p214 = q214 := by
  (repeat (apply funext; intro _))
  simp only [p214, q214, zsc]
def zdK (N : Nat) (A_10 : (List UInt64) -> (List UInt64) -> (List UInt64) -> Int -> UInt64 -> Int -> (List UInt64) -> Option (List UInt64 × Unit)) (A_27 : (List UInt64) -> (List UInt64) -> (List UInt64) -> Int -> UInt64 -> Int -> UInt64 -> UInt64 -> Int -> (List UInt64) -> Option (List UInt64 × Unit)) (a0 b1 m2 : List UInt64) (n7 : Int) (inv8 : UInt64) (i11 : Int) (c12 q21 : UInt64) (k24 : Int) (t10o : List UInt64) : Option (List UInt64 × Unit) :=
  cond ((ltI k24 n7)) (must (leI (0 : Int) k24 && ltI k24 (↑m2.length : Int)) (Option.bind (q163 N q21 (List.getD m2 k24.toNat (0 : UInt64))) fun r1 => must (leI (0 : Int) k24 && ltI k24 (↑t10o.length : Int)) (Option.bind (kAdd (List.getD t10o k24.toNat (0 : UInt64)) (r1.2.1) (0 : UInt64)) fun r2 => Option.bind (kAdd r2.1 c12 (0 : UInt64)) fun r3 => must (leI (0 : Int) ((wr (k24 - (1 : Int)))) && ltI ((wr (k24 - (1 : Int)))) (↑t10o.length : Int)) (A_27 a0 b1 m2 n7 inv8 i11 (((Prod.fst r1 + Prod.snd r2) + Prod.snd r3)) q21 ((wr (k24 + (1 : Int)))) (setL t10o (Int.toNat ((wr (k24 - (1 : Int))))) r3.1))))) (must (leI (0 : Int) n7 && ltI n7 (↑t10o.length : Int)) (Option.bind (kAdd (List.getD t10o n7.toNat (0 : UInt64)) c12 (0 : UInt64)) fun r0 => must (leI (0 : Int) ((wr (n7 + (1 : Int)))) && ltI ((wr (n7 + (1 : Int)))) (↑t10o.length : Int)) (must (leI (0 : Int) ((wr (n7 - (1 : Int)))) && ltI ((wr (n7 - (1 : Int)))) (↑t10o.length : Int)) (must (leI (0 : Int) n7 && ltI n7 (↑(List.length (setL t10o (Int.toNat ((wr (n7 - (1 : Int))))) r0.1)) : Int)) (A_10 a0 b1 m2 n7 inv8 ((wr (i11 + (1 : Int)))) (setL (setL t10o (Int.toNat ((wr (n7 - (1 : Int))))) r0.1) n7.toNat ((List.getD t10o (Int.toNat ((wr (n7 + (1 : Int))))) (0 : UInt64) + Prod.snd r0))))))))
theorem zpV : zkB = zdK := by
  (repeat (apply funext; intro _))
  simp only [zkB, zdK, hide_eq, zl7]
def zc5 (N : Nat) (A_10 : (List UInt64) -> (List UInt64) -> (List UInt64) -> Int -> UInt64 -> Int -> (List UInt64) -> Option (List UInt64 × Unit)) (n : Nat) (a0 b1 m2 : List UInt64) (n7 : Int) (inv8 : UInt64) (i11 : Int) (c12 q21 : UInt64) (k24 : Int) (t10o : List UInt64) : Option (List UInt64 × Unit) :=
  zaj (fun A x => zdK N A_10 (fun a0 b1 m2 n7 inv8 i11 c12 q21 k24 t10o => A ((a0, (b1, (m2, (n7, (inv8, ((), (i11, (c12, (q21, (k24, ())))))))))), (t10o, ()))) x.1.1 x.1.2.1 x.1.2.2.1 x.1.2.2.2.1 x.1.2.2.2.2.1 x.1.2.2.2.2.2.2.1 x.1.2.2.2.2.2.2.2.1 x.1.2.2.2.2.2.2.2.2.1 x.1.2.2.2.2.2.2.2.2.2.1 x.2.1) n ((a0, (b1, (m2, (n7, (inv8, ((), (i11, (c12, (q21, (k24, ())))))))))), (t10o, ()))
theorem zpW : zkC = zc5 := by
  (repeat (apply funext; intro _))
  simp only [zkC, zc5, zpV]
theorem ze2 (N : Nat) (A_10 : (List UInt64) -> (List UInt64) -> (List UInt64) -> Int -> UInt64 -> Int -> (List UInt64) -> Option (List UInt64 × Unit)) (n : Nat) (a0 b1 m2 : List UInt64) (n7 : Int) (inv8 : UInt64) (i11 : Int) (c12 q21 : UInt64) (k24 : Int) (t10o : List UInt64) : zc5 N A_10 (n + 1) a0 b1 m2 n7 inv8 i11 c12 q21 k24 t10o = zdK N A_10 (zc5 N A_10 n) a0 b1 m2 n7 inv8 i11 c12 q21 k24 t10o := rfl
def zdL (N : Nat) (A_10 : (List UInt64) -> (List UInt64) -> (List UInt64) -> Int -> UInt64 -> Int -> (List UInt64) -> Option (List UInt64 × Unit)) (A_14 : (List UInt64) -> (List UInt64) -> (List UInt64) -> Int -> UInt64 -> Int -> UInt64 -> Int -> (List UInt64) -> Option (List UInt64 × Unit)) (a0 b1 m2 : List UInt64) (n7 : Int) (inv8 : UInt64) (i11 : Int) (c12 : UInt64) (k13 : Int) (t10o : List UInt64) : Option (List UInt64 × Unit) :=
  cond ((ltI k13 n7)) (must (leI (0 : Int) i11 && ltI i11 (↑a0.length : Int)) (must (leI (0 : Int) k13 && ltI k13 (↑b1.length : Int)) (Option.bind (q163 N (List.getD a0 i11.toNat (0 : UInt64)) (List.getD b1 k13.toNat (0 : UInt64))) fun r3 => must (leI (0 : Int) k13 && ltI k13 (↑t10o.length : Int)) (Option.bind (kAdd (List.getD t10o k13.toNat (0 : UInt64)) (r3.2.1) (0 : UInt64)) fun r4 => Option.bind (kAdd r4.1 c12 (0 : UInt64)) fun r5 => must (leI (0 : Int) k13 && ltI k13 (↑t10o.length : Int)) (A_14 a0 b1 m2 n7 inv8 i11 (((Prod.fst r3 + Prod.snd r4) + Prod.snd r5)) ((wr (k13 + (1 : Int)))) (setL t10o k13.toNat r5.1)))))) (must (leI (0 : Int) n7 && ltI n7 (↑t10o.length : Int)) (Option.bind (kAdd (List.getD t10o n7.toNat (0 : UInt64)) c12 (0 : UInt64)) fun r0 => must (leI (0 : Int) n7 && ltI n7 (↑t10o.length : Int)) (must (leI (0 : Int) ((wr (n7 + (1 : Int)))) && ltI ((wr (n7 + (1 : Int)))) (↑(List.length (setL t10o n7.toNat r0.1)) : Int)) (must (ltI (0 : Int) (↑(List.length (setL (setL t10o n7.toNat r0.1) (Int.toNat ((wr (n7 + (1 : Int))))) r0.2)) : Int)) (must (ltI (0 : Int) (↑m2.length : Int)) (Option.bind (q163 N ((List.getD (setL (setL t10o n7.toNat r0.1) (Int.toNat ((wr (n7 + (1 : Int))))) r0.2) (0 : Nat) (0 : UInt64) * inv8)) (List.getD m2 (0 : Nat) (0 : UInt64))) fun r1 => must (ltI (0 : Int) (↑(List.length (setL (setL t10o n7.toNat r0.1) (Int.toNat ((wr (n7 + (1 : Int))))) r0.2)) : Int)) (Option.bind (kAdd (List.getD (setL (setL t10o n7.toNat r0.1) (Int.toNat ((wr (n7 + (1 : Int))))) r0.2) (0 : Nat) (0 : UInt64)) (r1.2.1) (0 : UInt64)) fun r2 => zc5 N A_10 N a0 b1 m2 n7 inv8 i11 ((Prod.fst r1 + Prod.snd r2)) ((List.getD (setL (setL t10o n7.toNat r0.1) (Int.toNat ((wr (n7 + (1 : Int))))) r0.2) (0 : Nat) (0 : UInt64) * inv8)) (1 : Int) (setL (setL t10o n7.toNat r0.1) (Int.toNat ((wr (n7 + (1 : Int))))) r0.2))))))))
theorem zpX : zkD = zdL := by
  (repeat (apply funext; intro _))
  simp only [zkD, zdL, hide_eq, zpW, zl7]
def zdM (N : Nat) (A_10 : (List UInt64) -> (List UInt64) -> (List UInt64) -> Int -> UInt64 -> Int -> (List UInt64) -> Option (List UInt64 × Unit)) (n : Nat) (a0 b1 m2 : List UInt64) (n7 : Int) (inv8 : UInt64) (i11 : Int) (c12 : UInt64) (k13 : Int) (t10o : List UInt64) : Option (List UInt64 × Unit) :=
  zaj (fun A x => zdL N A_10 (fun a0 b1 m2 n7 inv8 i11 c12 k13 t10o => A ((a0, (b1, (m2, (n7, (inv8, ((), (i11, (c12, (k13, ()))))))))), (t10o, ()))) x.1.1 x.1.2.1 x.1.2.2.1 x.1.2.2.2.1 x.1.2.2.2.2.1 x.1.2.2.2.2.2.2.1 x.1.2.2.2.2.2.2.2.1 x.1.2.2.2.2.2.2.2.2.1 x.2.1) n ((a0, (b1, (m2, (n7, (inv8, ((), (i11, (c12, (k13, ()))))))))), (t10o, ()))
theorem zpY : zkE = zdM := by
  (repeat (apply funext; intro _))
  simp only [zkE, zdM, zpX]
theorem ze3 (N : Nat) (A_10 : (List UInt64) -> (List UInt64) -> (List UInt64) -> Int -> UInt64 -> Int -> (List UInt64) -> Option (List UInt64 × Unit)) (n : Nat) (a0 b1 m2 : List UInt64) (n7 : Int) (inv8 : UInt64) (i11 : Int) (c12 : UInt64) (k13 : Int) (t10o : List UInt64) : zdM N A_10 (n + 1) a0 b1 m2 n7 inv8 i11 c12 k13 t10o = zdL N A_10 (zdM N A_10 n) a0 b1 m2 n7 inv8 i11 c12 k13 t10o := rfl
def zeE (N : Nat) (A_10 : (List UInt64) -> (List UInt64) -> (List UInt64) -> Int -> UInt64 -> Int -> (List UInt64) -> Option (List UInt64 × Unit)) (a0 b1 m2 : List UInt64) (n7 : Int) (inv8 : UInt64) (i11 : Int) (t10o : List UInt64) : Option (List UInt64 × Unit) :=
  cond ((ltI i11 n7)) (zdM N A_10 N a0 b1 m2 n7 inv8 i11 (0 : UInt64) (0 : Int) t10o) (must (leI (0 : Int) n7 && ltI n7 (↑t10o.length : Int)) (cond (!List.getD t10o n7.toNat (0 : UInt64) == (0 : UInt64)) (must (ltN (0 : Nat) t10o.length) (Option.bind (q214 N t10o m2) fun r2 => must (Nat.beq r2.1.length t10o.length) (must (leI (0 : Int) n7 && leI n7 (↑r2.1.length : Int)) (must (ltN (0 : Nat) (Int.toNat (n7 - (0 : Int)))) (some ((List.take (Int.toNat (n7 - (0 : Int))) r2.1, ()))))))) (must (leI (0 : Int) n7 && leI n7 (↑t10o.length : Int)) (Option.bind (q168 N (List.take (Int.toNat (n7 - (0 : Int))) t10o) m2) fun r0 => cond (!r0.1) (must (ltN (0 : Nat) t10o.length) (Option.bind (q214 N t10o m2) fun r1 => must (Nat.beq r1.1.length t10o.length) (must (leI (0 : Int) n7 && leI n7 (↑r1.1.length : Int)) (must (ltN (0 : Nat) (Int.toNat (n7 - (0 : Int)))) (some ((List.take (Int.toNat (n7 - (0 : Int))) r1.1, ()))))))) (must (leI (0 : Int) n7 && leI n7 (↑t10o.length : Int)) (must (ltN (0 : Nat) (Int.toNat (n7 - (0 : Int)))) (some ((List.take (Int.toNat (n7 - (0 : Int))) t10o, ())))))))))
theorem zpZ : zkF = zeE := by
  (repeat (apply funext; intro _))
  simp only [zkF, zeE, hide_eq, zpY, zpU, ztb]
def zbl (N n : Nat) (a0 b1 m2 : List UInt64) (n7 : Int) (inv8 : UInt64) (i11 : Int) (t10o : List UInt64) : Option (List UInt64 × Unit) :=
  zaj (fun A x => zeE N (fun a0 b1 m2 n7 inv8 i11 t10o => A ((a0, (b1, (m2, (n7, (inv8, ((), (i11, ()))))))), (t10o, ()))) x.1.1 x.1.2.1 x.1.2.2.1 x.1.2.2.2.1 x.1.2.2.2.2.1 x.1.2.2.2.2.2.2.1 x.2.1) n ((a0, (b1, (m2, (n7, (inv8, ((), (i11, ()))))))), (t10o, ()))
theorem zp0 : zkG = zbl := by
  (repeat (apply funext; intro _))
  simp only [zkG, zbl, zpZ]
theorem ze4 (N n : Nat) (a0 b1 m2 : List UInt64) (n7 : Int) (inv8 : UInt64) (i11 : Int) (t10o : List UInt64) : zbl N (n + 1) a0 b1 m2 n7 inv8 i11 t10o = zeE N (zbl N n) a0 b1 m2 n7 inv8 i11 t10o := rfl
def zhq (N : Nat) (A_4 : (List UInt64) -> (List UInt64) -> (List UInt64) -> Int -> UInt64 -> Int -> Option (List UInt64 × Unit)) (a0 b1 m2 : List UInt64) (n7 : Int) (inv8 : UInt64) (i9 : Int) : Option (List UInt64 × Unit) :=
  cond ((ltI i9 (6 : Int))) (must (ltI (0 : Int) (↑m2.length : Int)) (A_4 a0 b1 m2 n7 ((inv8 * ((2 : UInt64) - (List.getD m2 (0 : Nat) (0 : UInt64) * inv8)))) ((wr (i9 + (1 : Int)))))) (must (leI (0 : Int) ((wr (n7 + (2 : Int)))) && (eqI ((wr (n7 + (2 : Int)))) ((wr (n7 + (2 : Int)))) && leN (Int.toNat ((wr (n7 + (2 : Int)))) * (8 : Nat)) (140737488355328 : Nat))) (zbl N N a0 b1 m2 n7 (((0 : UInt64) - inv8)) (0 : Int) (List.replicate (Int.toNat ((wr (n7 + (2 : Int))))) (0 : UInt64))))
theorem zsd : zo3 = zhq := by
  (repeat (apply funext; intro _))
  simp only [zo3, zhq, hide_eq, zp0]
def zdw (N n : Nat) (a0 b1 m2 : List UInt64) (n7 : Int) (inv8 : UInt64) (i9 : Int) : Option (List UInt64 × Unit) :=
  zaj (fun A x => zhq N (fun a0 b1 m2 n7 inv8 i9 => A ((a0, (b1, (m2, (n7, (inv8, (i9, ())))))), ())) x.1.1 x.1.2.1 x.1.2.2.1 x.1.2.2.2.1 x.1.2.2.2.2.1 x.1.2.2.2.2.2.1) n ((a0, (b1, (m2, (n7, (inv8, (i9, ())))))), ())
theorem zse : zo4 = zdw := by
  (repeat (apply funext; intro _))
  simp only [zo4, zdw, zsd]
theorem zgj (N n : Nat) (a0 b1 m2 : List UInt64) (n7 : Int) (inv8 : UInt64) (i9 : Int) : zdw N (n + 1) a0 b1 m2 n7 inv8 i9 = zhq N (zdw N n) a0 b1 m2 n7 inv8 i9 := rfl
def q184 (N : Nat) (a0 b1 m2 : List UInt64) : Option (List UInt64 × Unit) :=
  must (ltI (0 : Int) (↑m2.length : Int)) (zdw N N a0 b1 m2 ((↑m2.length : Int)) (List.getD m2 (0 : Nat) (0 : UInt64)) (0 : Int))
theorem zxH : p184 = q184 := by
  (repeat (apply funext; intro _))
  simp only [p184, q184, zse]
def q175 (N : Nat) (a0 : List UInt64) : Option (Fr × Unit) :=
  must (Nat.beq (List.length (zao [(0 : UInt64), (0 : UInt64), (0 : UInt64), (0 : UInt64)] (Int.toNat (0 : Int)) (List.take (Int.toNat ((↑(4 : Nat) : Int) - (0 : Int))) a0))) (4 : Nat)) (Option.bind (Fr.of? (zao [(0 : UInt64), (0 : UInt64), (0 : UInt64), (0 : UInt64)] (Int.toNat (0 : Int)) (List.take (Int.toNat ((↑(4 : Nat) : Int) - (0 : Int))) a0))) fun r0 => some ((r0, ())))
theorem zp1 : p175 = q175 := by
  (repeat (apply funext; intro _))
  simp only [p175, q175, ]
def q94 (N : Nat) (a0 b1 : Fr) : Option (Fr × Unit) :=
  Option.bind (q88 N) fun r0 => Option.bind (q184 N (List.take (Int.toNat ((↑(4 : Nat) : Int) - (0 : Int))) [Fr.a0 a0, Fr.a1 a0, Fr.a2 a0, Fr.a3 a0]) (List.take (Int.toNat ((↑(4 : Nat) : Int) - (0 : Int))) [Fr.a0 b1, Fr.a1 b1, Fr.a2 b1, Fr.a3 b1]) r0.1) fun r1 => Option.bind (q184 N (List.take r1.1.length (List.drop (0 : Nat) r1.1)) ([(14526898881837571181 : UInt64), (3129137299524312099 : UInt64), (419701826671360399 : UInt64), (524908885293268753 : UInt64)]) r0.1) fun r2 => Option.bind (q175 N (List.take r2.1.length (List.drop (0 : Nat) r2.1))) fun r3 => some (({ a0 := Fr.a0 r3.1, a1 := Fr.a1 r3.1, a2 := Fr.a2 r3.1, a3 := Fr.a3 r3.1 }, ()))
theorem zxI : p94 = q94 := by
  (repeat (apply funext; intro _))
  simp only [p94, q94, zp1, zxH, zr8]
def zm7 (N : Nat) (A_3 : (List UInt64) -> Int -> (List UInt64) -> (List UInt64) -> (List UInt64) -> Option (Fr × Unit)) (e1 : List UInt64) (i6 : Int) (ob0 ob1 ob2 : List UInt64) : Option (Fr × Unit) :=
  cond ((leI (0 : Int) i6)) (Option.bind (Option.bind (Option.bind (Fr.of? ob2) fun r1 => Option.bind (Option.bind (Fr.of? ob2) fun r2 => some ((r2, ()))) fun r3 => some ((r1, r3))) fun r4 => q94 N r4.1 (r4.2.1)) fun r5 => Option.bind (q162 N e1 i6) fun r6 => cond ((Prod.fst r6 == (1 : UInt64))) (Option.bind (Option.bind (Option.bind (Option.bind (Fr.of? ob0) fun r7 => some ((r7, ()))) fun r8 => some (({ a0 := Fr.a0 r5.1, a1 := Fr.a1 r5.1, a2 := Fr.a2 r5.1, a3 := Fr.a3 r5.1 }, r8))) fun r9 => q94 N r9.1 (r9.2.1)) fun r10 => A_3 e1 ((wr (i6 - (1 : Int)))) ob0 ob1 ([Fr.a0 r10.1, Fr.a1 r10.1, Fr.a2 r10.1, Fr.a3 r10.1])) (A_3 e1 ((wr (i6 - (1 : Int)))) ob0 ob1 ([Fr.a0 r5.1, Fr.a1 r5.1, Fr.a2 r5.1, Fr.a3 r5.1]))) (must (Nat.beq ob2.length (4 : Nat)) (Option.bind (Fr.of? ob2) fun r0 => some ((r0, ()))))
theorem zuW : zut = zm7 := by
  (repeat (apply funext; intro _))
  simp only [zut, zm7, hide_eq, zxA, zxI]
def zm8 (N n : Nat) (e1 : List UInt64) (i6 : Int) (ob0 ob1 ob2 : List UInt64) : Option (Fr × Unit) :=
  zaj (fun A x => zm7 N (fun e1 i6 ob0 ob1 ob2 => A ((e1, ((), ((), ((), (i6, ()))))), (ob0, (ob1, (ob2, ()))))) x.1.1 x.1.2.2.2.2.1 x.2.1 x.2.2.1 x.2.2.2.1) n ((e1, ((), ((), ((), (i6, ()))))), (ob0, (ob1, (ob2, ()))))
theorem zuX : zuu = zm8 := by
  (repeat (apply funext; intro _))
  simp only [zuu, zm8, zuW]
theorem zhr (N n : Nat) (e1 : List UInt64) (i6 : Int) (ob0 ob1 ob2 : List UInt64) : zm8 N (n + 1) e1 i6 ob0 ob1 ob2 = zm7 N (zm8 N n) e1 i6 ob0 ob1 ob2 := rfl
def q73 (N : Nat) (a0 : Fr) (e1 : List UInt64) : Option (Fr × Unit) :=
  Option.bind (q173 N (1 : UInt64)) fun r0 => zm8 N N e1 ((wr ((wr ((64 : Int) * (↑e1.length : Int))) - (1 : Int)))) ([Fr.a0 a0, Fr.a1 a0, Fr.a2 a0, Fr.a3 a0]) ([(0 : UInt64), (0 : UInt64), (0 : UInt64), (0 : UInt64)]) ([Fr.a0 r0.1, Fr.a1 r0.1, Fr.a2 r0.1, Fr.a3 r0.1])
theorem zz2 : p73 = q73 := by
  (repeat (apply funext; intro _))
  simp only [p73, q73, hide_eq, zuX, zma]
def q71 (N : Nat) (a0 : Fr) : Option (Fr × Int × Unit) :=
  cond ((eqL El.u64 [Fr.a0 a0, Fr.a1 a0, Fr.a2 a0, Fr.a3 a0] [(0 : UInt64), (0 : UInt64), (0 : UInt64), (0 : UInt64)])) (some (({ a0 := Fr.a0 a0, a1 := Fr.a1 a0, a2 := Fr.a2 a0, a3 := Fr.a3 a0 }, (7 : Int), ()))) (Option.bind (q88 N) fun r0 => Option.bind (q64 N r0.1 ([(2 : UInt64)])) fun r1 => Option.bind (q73 N ({ a0 := Fr.a0 a0, a1 := Fr.a1 a0, a2 := Fr.a2 a0, a3 := Fr.a3 a0 }) r1.1) fun r2 => some (({ a0 := Fr.a0 r2.1, a1 := Fr.a1 r2.1, a2 := Fr.a2 r2.1, a3 := Fr.a3 r2.1 }, (0 : Int), ())))
def q13 (N : Nat) (a0 : Fr) (e1 : List UInt64) : Option (Bool × Unit) :=
  Option.bind (q68 N) fun r0 => cond (!r0.1) (some ((false, ()))) (Option.bind (q69 N ({ a0 := Fr.a0 a0, a1 := Fr.a1 a0, a2 := Fr.a2 a0, a3 := Fr.a3 a0 })) fun r1 => cond (!r1.1) (some ((true, ()))) (cond ((ltI (5 : Int) (↑e1.length : Int))) (some ((true, ()))) (Option.bind (q70 N ({ a0 := Fr.a0 a0, a1 := Fr.a1 a0, a2 := Fr.a2 a0, a3 := Fr.a3 a0 })) fun r2 => Option.bind (q71 N ({ a0 := Fr.a0 a0, a1 := Fr.a1 a0, a2 := Fr.a2 a0, a3 := Fr.a3 a0 })) fun r3 => Option.bind (q72 N ({ a0 := Fr.a0 a0, a1 := Fr.a1 a0, a2 := Fr.a2 a0, a3 := Fr.a3 a0 }) e1) fun r4 => Option.bind (q73 N ({ a0 := Fr.a0 a0, a1 := Fr.a1 a0, a2 := Fr.a2 a0, a3 := Fr.a3 a0 }) e1) fun r5 => cond ((eqL El.u64 [Fr.a0 r4.1, Fr.a1 r4.1, Fr.a2 r4.1, Fr.a3 r4.1] [Fr.a0 r5.1, Fr.a1 r5.1, Fr.a2 r5.1, Fr.a3 r5.1])) (cond ((eqL El.u64 [Fr.a0 r2.1, Fr.a1 r2.1, Fr.a2 r2.1, Fr.a3 r2.1] [Fr.a0 r3.1, Fr.a1 r3.1, Fr.a2 r3.1, Fr.a3 r3.1])) (some (((eqI (r2.2.1) (r3.2.1)), ()))) (some ((false, ())))) (some ((false, ()))))))
def zuY (N : Nat) (A_4 : UInt64 -> Int -> (List UInt64) -> (List UInt64) -> (List UInt64) -> (List UInt64) -> Option (Fr × Unit)) (carry6 : UInt64) (t8 : Int) (ob0 ob1 ob2 ob3 : List UInt64) : Option (Fr × Unit) :=
  cond ((ltI t8 (4 : Int))) (must (leI (0 : Int) t8 && ltI t8 (↑(4 : Nat) : Int)) (must (leI (0 : Int) t8 && ltI t8 (↑(4 : Nat) : Int)) (Option.bind (kAdd (List.getD ob0 t8.toNat (0 : UInt64)) (List.getD ob1 t8.toNat (0 : UInt64)) carry6) fun r3 => must (leI (0 : Int) t8 && ltI t8 (↑(4 : Nat) : Int)) (A_4 r3.2 ((wr (t8 + (1 : Int)))) ob0 ob1 ob2 (setL ob3 t8.toNat r3.1))))) (Option.bind (Option.bind (Option.bind (Fr.of? ob3) fun r0 => some ((r0, carry6, ()))) fun r1 => q174 N r1.1 (r1.2.1)) fun r2 => some (({ a0 := Fr.a0 r2.1, a1 := Fr.a1 r2.1, a2 := Fr.a2 r2.1, a3 := Fr.a3 r2.1 }, ())))
def zsf (N n : Nat) (carry6 : UInt64) (t8 : Int) (ob0 ob1 ob2 ob3 : List UInt64) : Option (Fr × Unit) :=
  zaj (fun A x => zuY N (fun carry6 t8 ob0 ob1 ob2 ob3 => A (((), ((), ((), ((), (carry6, (t8, ())))))), (ob0, (ob1, (ob2, (ob3, ())))))) x.1.2.2.2.2.1 x.1.2.2.2.2.2.1 x.2.1 x.2.2.1 x.2.2.2.1 x.2.2.2.2.1) n (((), ((), ((), ((), (carry6, (t8, ())))))), (ob0, (ob1, (ob2, (ob3, ())))))
theorem zm9 (N n : Nat) (carry6 : UInt64) (t8 : Int) (ob0 ob1 ob2 ob3 : List UInt64) : zsf N (n + 1) carry6 t8 ob0 ob1 ob2 ob3 = zuY N (zsf N n) carry6 t8 ob0 ob1 ob2 ob3 := rfl
def zhs (N : Nat) (A_4 : (List UInt64) -> (List UInt64) -> (List UInt64) -> UInt64 -> Int -> (List UInt64) -> Option (List UInt64 × Unit)) (a0 b1 m2 : List UInt64) (c8 : UInt64) (i9 : Int) (t7o : List UInt64) : Option (List UInt64 × Unit) :=
  cond ((ltI i9 (↑m2.length : Int))) (must (leI (0 : Int) i9 && ltI i9 (↑a0.length : Int)) (must (leI (0 : Int) i9 && ltI i9 (↑b1.length : Int)) (Option.bind (kAdd (List.getD a0 i9.toNat (0 : UInt64)) (List.getD b1 i9.toNat (0 : UInt64)) c8) fun r3 => must (leI (0 : Int) i9 && ltI i9 (↑t7o.length : Int)) (A_4 a0 b1 m2 r3.2 ((wr (i9 + (1 : Int)))) (setL t7o i9.toNat r3.1))))) (cond ((c8 == (1 : UInt64))) (must (ltN (0 : Nat) t7o.length) (Option.bind (q214 N t7o m2) fun r2 => must (Nat.beq r2.1.length t7o.length) (some ((Prod.fst r2, ()))))) (Option.bind (q168 N t7o m2) fun r0 => cond (!r0.1) (must (ltN (0 : Nat) t7o.length) (Option.bind (q214 N t7o m2) fun r1 => must (Nat.beq r1.1.length t7o.length) (some ((Prod.fst r1, ()))))) (some ((t7o, ())))))
theorem zsg : zo7 = zhs := by
  (repeat (apply funext; intro _))
  simp only [zo7, zhs, hide_eq, zpU, ztb]
def ze5 (N n : Nat) (a0 b1 m2 : List UInt64) (c8 : UInt64) (i9 : Int) (t7o : List UInt64) : Option (List UInt64 × Unit) :=
  zaj (fun A x => zhs N (fun a0 b1 m2 c8 i9 t7o => A ((a0, (b1, (m2, ((), (c8, (i9, ())))))), (t7o, ()))) x.1.1 x.1.2.1 x.1.2.2.1 x.1.2.2.2.2.1 x.1.2.2.2.2.2.1 x.2.1) n ((a0, (b1, (m2, ((), (c8, (i9, ())))))), (t7o, ()))
theorem zsh : zo8 = ze5 := by
  (repeat (apply funext; intro _))
  simp only [zo8, ze5, zsg]
theorem zgk (N n : Nat) (a0 b1 m2 : List UInt64) (c8 : UInt64) (i9 : Int) (t7o : List UInt64) : ze5 N (n + 1) a0 b1 m2 c8 i9 t7o = zhs N (ze5 N n) a0 b1 m2 c8 i9 t7o := rfl
def q176 (N : Nat) (a0 b1 m2 : List UInt64) : Option (List UInt64 × Unit) :=
  must (eqI (↑m2.length : Int) (↑m2.length : Int) && leN (Int.toNat (↑m2.length : Int) * (8 : Nat)) (140737488355328 : Nat)) (ze5 N N a0 b1 m2 (0 : UInt64) (0 : Int) (List.replicate (Int.toNat (↑m2.length : Int)) (0 : UInt64)))
theorem zxJ : p176 = q176 := by
  (repeat (apply funext; intro _))
  simp only [p176, q176, zsh]
def q81 (N : Nat) (a0 b1 : Fr) : Option (Fr × Unit) :=
  Option.bind (q88 N) fun r0 => Option.bind (q176 N (List.take (Int.toNat ((↑(4 : Nat) : Int) - (0 : Int))) [Fr.a0 a0, Fr.a1 a0, Fr.a2 a0, Fr.a3 a0]) (List.take (Int.toNat ((↑(4 : Nat) : Int) - (0 : Int))) [Fr.a0 b1, Fr.a1 b1, Fr.a2 b1, Fr.a3 b1]) r0.1) fun r1 => Option.bind (q175 N r1.1) fun r2 => some (({ a0 := Fr.a0 r2.1, a1 := Fr.a1 r2.1, a2 := Fr.a2 r2.1, a3 := Fr.a3 r2.1 }, ()))
theorem zz3 : p81 = q81 := by
  (repeat (apply funext; intro _))
  simp only [p81, q81, zp1, zxJ, zr8]
def zeF (N : Nat) (A_10 : (List UInt64) -> UInt64 -> Int -> (List UInt64) -> Option (List UInt64 × Unit)) (m2 : List UInt64) (c8 : UInt64) (i10 : Int) (t7o : List UInt64) : Option (List UInt64 × Unit) :=
  cond ((ltI i10 (↑m2.length : Int))) (must (leI (0 : Int) i10 && ltI i10 (↑t7o.length : Int)) (must (leI (0 : Int) i10 && ltI i10 (↑m2.length : Int)) (Option.bind (kAdd (List.getD t7o i10.toNat (0 : UInt64)) (List.getD m2 i10.toNat (0 : UInt64)) c8) fun r0 => must (leI (0 : Int) i10 && ltI i10 (↑t7o.length : Int)) (A_10 m2 r0.2 ((wr (i10 + (1 : Int)))) (setL t7o i10.toNat r0.1))))) (some ((t7o, ())))
theorem zp2 : zkI = zeF := by
  (repeat (apply funext; intro _))
  simp only [zkI, zeF, hide_eq]
def zeG (N n : Nat) (m2 : List UInt64) (c8 : UInt64) (i10 : Int) (t7o : List UInt64) : Option (List UInt64 × Unit) :=
  zaj (fun A x => zeF N (fun m2 c8 i10 t7o => A ((m2, ((), (c8, (i10, ())))), (t7o, ()))) x.1.1 x.1.2.2.1 x.1.2.2.2.1 x.2.1) n ((m2, ((), (c8, (i10, ())))), (t7o, ()))
theorem zp3 : zkJ = zeG := by
  (repeat (apply funext; intro _))
  simp only [zkJ, zeG, zp2]
theorem ze6 (N n : Nat) (m2 : List UInt64) (c8 : UInt64) (i10 : Int) (t7o : List UInt64) : zeG N (n + 1) m2 c8 i10 t7o = zeF N (zeG N n) m2 c8 i10 t7o := rfl
def zht (N : Nat) (A_4 : (List UInt64) -> (List UInt64) -> (List UInt64) -> UInt64 -> Int -> (List UInt64) -> Option (List UInt64 × Unit)) (a0 b1 m2 : List UInt64) (c8 : UInt64) (i9 : Int) (t7o : List UInt64) : Option (List UInt64 × Unit) :=
  cond ((ltI i9 (↑m2.length : Int))) (must (leI (0 : Int) i9 && ltI i9 (↑a0.length : Int)) (must (leI (0 : Int) i9 && ltI i9 (↑b1.length : Int)) (Option.bind (kSub (List.getD a0 i9.toNat (0 : UInt64)) (List.getD b1 i9.toNat (0 : UInt64)) c8) fun r0 => must (leI (0 : Int) i9 && ltI i9 (↑t7o.length : Int)) (A_4 a0 b1 m2 r0.2 ((wr (i9 + (1 : Int)))) (setL t7o i9.toNat r0.1))))) (cond ((c8 == (1 : UInt64))) (zeG N N m2 (0 : UInt64) (0 : Int) t7o) (some ((t7o, ()))))
theorem zsi : zpa = zht := by
  (repeat (apply funext; intro _))
  simp only [zpa, zht, hide_eq, zp3]
def ze7 (N n : Nat) (a0 b1 m2 : List UInt64) (c8 : UInt64) (i9 : Int) (t7o : List UInt64) : Option (List UInt64 × Unit) :=
  zaj (fun A x => zht N (fun a0 b1 m2 c8 i9 t7o => A ((a0, (b1, (m2, ((), (c8, (i9, ())))))), (t7o, ()))) x.1.1 x.1.2.1 x.1.2.2.1 x.1.2.2.2.2.1 x.1.2.2.2.2.2.1 x.2.1) n ((a0, (b1, (m2, ((), (c8, (i9, ())))))), (t7o, ()))
theorem zsj : zpb = ze7 := by
  (repeat (apply funext; intro _))
  simp only [zpb, ze7, zsi]
theorem zgl (N n : Nat) (a0 b1 m2 : List UInt64) (c8 : UInt64) (i9 : Int) (t7o : List UInt64) : ze7 N (n + 1) a0 b1 m2 c8 i9 t7o = zht N (ze7 N n) a0 b1 m2 c8 i9 t7o := rfl
def q177 (N : Nat) (a0 b1 m2 : List UInt64) : Option (List UInt64 × Unit) :=
  must (eqI (↑m2.length : Int) (↑m2.length : Int) && leN (Int.toNat (↑m2.length : Int) * (8 : Nat)) (140737488355328 : Nat)) (ze7 N N a0 b1 m2 (0 : UInt64) (0 : Int) (List.replicate (Int.toNat (↑m2.length : Int)) (0 : UInt64)))
theorem zxK : p177 = q177 := by
  (repeat (apply funext; intro _))
  simp only [p177, q177, zsj]
def q83 (N : Nat) (a0 b1 : Fr) : Option (Fr × Unit) :=
  Option.bind (q88 N) fun r0 => Option.bind (q177 N (List.take (Int.toNat ((↑(4 : Nat) : Int) - (0 : Int))) [Fr.a0 a0, Fr.a1 a0, Fr.a2 a0, Fr.a3 a0]) (List.take (Int.toNat ((↑(4 : Nat) : Int) - (0 : Int))) [Fr.a0 b1, Fr.a1 b1, Fr.a2 b1, Fr.a3 b1]) r0.1) fun r1 => Option.bind (q175 N r1.1) fun r2 => some (({ a0 := Fr.a0 r2.1, a1 := Fr.a1 r2.1, a2 := Fr.a2 r2.1, a3 := Fr.a3 r2.1 }, ()))
theorem zz4 : p83 = q83 := by
  (repeat (apply funext; intro _))
  simp only [p83, q83, zp1, zxK, zr8]
def q85 (N : Nat) (a0 : Fr) : Option (Fr × Unit) :=
  Option.bind (q83 N ({ a0 := (0 : UInt64), a1 := (0 : UInt64), a2 := (0 : UInt64), a3 := (0 : UInt64) }) ({ a0 := Fr.a0 a0, a1 := Fr.a1 a0, a2 := Fr.a2 a0, a3 := Fr.a3 a0 })) fun r0 => some (({ a0 := Fr.a0 r0.1, a1 := Fr.a1 r0.1, a2 := Fr.a2 r0.1, a3 := Fr.a3 r0.1 }, ()))
theorem zz5 : p85 = q85 := by
  (repeat (apply funext; intro _))
  simp only [p85, q85, zz4]
end
section
def lv : List UInt64 -> Nat
  | [] => 0
  | x :: l => x.toNat + 18446744073709551616 * lv l
theorem zaf (l : List UInt64) (i : Nat) : lv (l.take (i + 1)) = lv (l.take i) + 18446744073709551616 ^ i * (l.getD i 0).toNat := by
  induction l generalizing i with
  | nil => simp [lv]
  | cons x l ih =>
    cases i with
    | zero => simp [lv]
    | succ i =>
      simp only [List.take_succ_cons, lv, ih i, List.getD_cons_succ, Nat.pow_succ]
      generalize 18446744073709551616 ^ i = p
      rw [Nat.mul_add, Nat.add_assoc]
      congr 2
      rw [Nat.mul_comm p 18446744073709551616, Nat.mul_assoc]
theorem zgm {l : List UInt64} {n : Nat} (h : l.length <= n) : lv (l.take n) = lv l := by
  rw [List.take_of_length_le h]
theorem zgM (l : List UInt64) : lv l < 18446744073709551616 ^ l.length := by
  induction l with
  | nil => simp [lv]
  | cons x l ih =>
    have hx := x.toNat_lt
    simp only [lv, List.length_cons, Nat.pow_succ]
    have h2 : 18446744073709551616 * (lv l + 1) <= 18446744073709551616 * 18446744073709551616 ^ l.length := Nat.mul_le_mul_left _ ih
    rw [Nat.mul_comm (18446744073709551616 ^ l.length)]
    omega
theorem zb1 (l : List UInt64) (i : Nat) : lv (l.take i) < 18446744073709551616 ^ i := by
  refine Nat.lt_of_lt_of_le (zgM _) (Nat.pow_le_pow_right (by decide) ?_)
  rw [List.length_take]; omega
theorem zat {α : Type} (l : List α) (i : Nat) (x : α) : (setL l i x).length = l.length := by
  induction l generalizing i with
  | nil => rfl
  | cons y l ih => cases i <;> simp [setL, ih]
theorem zc6 {α : Type} (l : List α) {i j : Nat} (x : α) (h : j <= i) : (setL l i x).take j = l.take j := by
  induction l generalizing i j with
  | nil => rfl
  | cons y l ih =>
    cases j with
    | zero => rfl
    | succ j => cases i with
      | zero => omega
      | succ i => simp [setL, ih (Nat.le_of_succ_le_succ h)]
theorem zaX {α : Type} (l : List α) (i j : Nat) (x d : α) : (setL l i x).getD j d = if j = i /\ i < l.length then x else l.getD j d := by
  induction l generalizing i j with
  | nil => simp [setL]
  | cons y l ih =>
    cases i with
    | zero => cases j <;> simp [setL]
    | succ i => cases j with
      | zero => simp [setL]
      | succ j => simp only [setL, List.getD_cons_succ, ih, Nat.add_right_cancel_iff, List.length_cons, Nat.add_lt_add_iff_right]
theorem zaJ (l : List UInt64) {i : Nat} (x : UInt64) (h : i < l.length) : lv ((setL l i x).take (i + 1)) = lv (l.take i) + 18446744073709551616 ^ i * x.toNat := by
  rw [zaf, zc6 l x (Nat.le_refl i), zaX, if_pos ⟨rfl, h⟩]
theorem zeh {l : List UInt64} {i : Nat} (h : l.length <= i) : l.getD i 0 = 0 := by
  rw [List.getD_eq_getElem?_getD, List.getElem?_eq_none h]; rfl
theorem ziq {k : Nat} (h : k < 9223372036854775807) : wr (((k + 1 : Nat) : Int) - 1) = (k : Int) := by
  rw [zdo (by omega) (by omega)]; omega
theorem zuZ (a b : Nat) : mxI (a : Int) (b : Int) = ((max a b : Nat) : Int) := by
  unfold mxI
  rw [zbk]
  by_cases h : a < b
  . rw [zau h, cond_true]; congr 1; omega
  . rw [zcn h, cond_false]; congr 1; omega
end
section
theorem zp4 (N : Nat) (a : List UInt64) (i : Nat) : q160 N a (i : Int) = some (a.getD i 0, ()) := by
  unfold q160
  rw [zbk]
  by_cases h : i < a.length
  . rw [zau h, cond_true, zav, Bool.true_and, zoC rfl]
    rfl
  . rw [zcn h, cond_false, zeh (by omega)]
def cmpN (a b : Nat) : Int := if a < b then -1 else if b < a then 1 else 0
theorem zxL (N : Nat) (a b : List UInt64) : ∀ n k : Nat, k < n -> k < 9223372036854775807 -> (∀ j, k <= j -> a.getD j 0 = b.getD j 0) -> zdi N n a b (k : Int) = some (cmpN (lv (a.take k)) (lv (b.take k)), ()) := by
  intro n
  induction n with
  | zero => intro k h; omega
  | succ n ih =>
    intro k hn hb h0
    rw [zip]
    unfold zef
    cases k with
    | zero =>
      rw [show wr (((0 : Nat) : Int) - 1) = -1 from zdo (by omega) (by omega), show ltI (-1) 0 = true from rfl, cond_true]
      simp [cmpN, lv]
    | succ k =>
      rw [ziq (by omega), zrG, cond_false, zp4, zp4, zaf, zaf]
      simp only [Option.bind_some]
      have h1 := zb1 a k
      have h2 := zb1 b k
      generalize 18446744073709551616 ^ k = p at h1 h2 ⊢
      by_cases e1 : (a.getD k 0).toNat < (b.getD k 0).toNat
      . rw [zau e1, cond_true]
        have : p * ((a.getD k 0).toNat + 1) <= p * (b.getD k 0).toNat := Nat.mul_le_mul_left _ e1
        rw [Nat.mul_add] at this
        simp only [cmpN]
        rw [if_pos (by omega)]
      . rw [zcn e1, cond_false]
        by_cases e2 : (b.getD k 0).toNat < (a.getD k 0).toNat
        . rw [zau e2, cond_true]
          have : p * ((b.getD k 0).toNat + 1) <= p * (a.getD k 0).toNat := Nat.mul_le_mul_left _ e2
          rw [Nat.mul_add] at this
          simp only [cmpN]
          rw [if_neg (by omega), if_pos (by omega)]
        . rw [zcn e2, cond_false]
          have e3 : (a.getD k 0).toNat = (b.getD k 0).toNat := by omega
          rw [ih k (by omega) (by omega) fun j hj => ?_]
          . simp only [cmpN, e3, Nat.add_lt_add_iff_right]
          . by_cases e : j = k
            . rw [e]; exact UInt64.toNat_inj.1 e3
            . exact h0 j (by omega)
theorem zxM {N : Nat} {a b : List UInt64} (ha : a.length < 1000000) (hb : b.length < 1000000) (hN : max a.length b.length < N) : q61 N a b = some (cmpN (lv a) (lv b), ()) := by
  unfold q61
  rw [zuZ, zxL N a b N _ hN (by omega) fun j hj => by rw [zeh (by omega), zeh (by omega)], zgm (by omega), zgm (by omega)]
theorem zc7 {x y c : UInt64} (h : c.toNat <= 1) : ∃ s d : UInt64, kAdd x y c = some (s, d) /\ d.toNat <= 1 /\ s.toNat + 18446744073709551616 * d.toNat = x.toNat + y.toNat + c.toNat := by
  have hx := x.toNat_lt
  have hy := y.toNat_lt
  refine ⟨addS x y c, addC x y c, ?_, ?_, ?_⟩
  . unfold kAdd; rw [zaE h, cond_true]
  . rw [addC, ofN _ (by omega)]; omega
  . rw [addC, addS, ofN _ (by omega), ofN _ (by omega)]; omega
theorem zkZ {x y c : UInt64} (h : c.toNat <= 1) : ∃ s d : UInt64, kSub x y c = some (s, d) /\ d.toNat <= 1 /\ s.toNat + y.toNat + c.toNat = x.toNat + 18446744073709551616 * d.toNat := by
  have hx := x.toNat_lt
  have hy := y.toNat_lt
  refine ⟨subS x y c, subC x y c, ?_, ?_, ?_⟩
  . unfold kSub; rw [zaE h, cond_true]
  . unfold subC
    cases ltN x.toNat (y.toNat + c.toNat) <;> simp
  . rw [subS, ofN _ (Nat.mod_lt _ (by decide))]
    unfold subC
    by_cases h1 : x.toNat < y.toNat + c.toNat
    . rw [zau h1]; simp; omega
    . rw [zcn h1]; simp; omega
end
end Go.Proofs.Ytgimohchocjgcaa.V
