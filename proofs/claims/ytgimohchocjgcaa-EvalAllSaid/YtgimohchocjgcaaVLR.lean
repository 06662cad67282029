import Derived.Test.YtgimohchocjgcaaVFM
import Derived.Test.YtgimohchocjgcaaVUM
import Derived.KernelRfl
import Derived.Test.YtgimohchocjgcaaVME
set_option linter.unusedVariables false
set_option linter.unusedSimpArgs false
namespace Go.Proofs.Ytgimohchocjgcaa.V
section
def q75 (N : Nat) (n0 : UInt64) : Option (Fr × Unit) :=
 some (({ a0 := n0, a1 := (0 : UInt64), a2 := (0 : UInt64), a3 := (0 : UInt64) }, ()))
theorem zBJ : p75 = q75 := by
 (repeat (apply funext; intro _))
 simp only [p75, q75, ]
def q169 (N : Nat) : Option (Fr × Unit) :=
 some (({ a0 := (18446744069414584321 : UInt64), a1 := (6034159408538082302 : UInt64), a2 := (3691218898639771653 : UInt64), a3 := (8353516859464449352 : UInt64) }, ()))
theorem znJ : p169 = q169 := by
 (repeat (apply funext; intro _))
 simp only [p169, q169, ]
def q213 (N : Nat) : Option (Fr × Unit) :=
 some (({ a0 := (14526898881837571181 : UInt64), a1 := (3129137299524312099 : UInt64), a2 := (419701826671360399 : UInt64), a3 := (524908885293268753 : UInt64) }, ()))
theorem zBK : p213 = q213 := by
 (repeat (apply funext; intro _))
 simp only [p213, q213, ]
def zij (N : Nat) (A_5 : UInt64 -> UInt64 -> Int -> (List UInt64) -> (List UInt64) -> (List UInt64) -> (List UInt64) -> Option (Fr × Unit)) (over1 borrow7 : UInt64) (t10 : Int) (ob0 ob1 ob2 ob3 : List UInt64) : Option (Fr × Unit) :=
 cond ((ltI t10 (4 : Int))) (must (leI (0 : Int) t10 && ltI t10 (↑(4 : Nat) : Int)) (must (leI (0 : Int) t10 && ltI t10 (↑(4 : Nat) : Int)) (Option.bind (kSub (List.getD ob0 t10.toNat (0 : UInt64)) (List.getD ob2 t10.toNat (0 : UInt64)) borrow7) fun r2 => must (leI (0 : Int) t10 && ltI t10 (↑(4 : Nat) : Int)) (A_5 over1 r2.2 ((wr (t10 + (1 : Int)))) ob0 ob1 ob2 (setL ob3 t10.toNat r2.1))))) (cond ((ltN over1.toNat borrow7.toNat)) (must (Nat.beq ob0.length (4 : Nat)) (Option.bind (Fr.of? ob0) fun r1 => some ((r1, ())))) (must (Nat.beq ob3.length (4 : Nat)) (Option.bind (Fr.of? ob3) fun r0 => some ((r0, ())))))
theorem zuS : zqn = zij := by
 (repeat (apply funext; intro _))
 simp only [zqn, zij, hide_eq]
def zfG (N n : Nat) (over1 borrow7 : UInt64) (t10 : Int) (ob0 ob1 ob2 ob3 : List UInt64) : Option (Fr × Unit) :=
 zan (fun A x => zij N (fun over1 borrow7 t10 ob0 ob1 ob2 ob3 => A ((over1, ((), ((), ((), ((), (borrow7, (t10, ()))))))), (ob0, (ob1, (ob2, (ob3, ())))))) x.1.1 x.1.2.2.2.2.2.1 x.1.2.2.2.2.2.2.1 x.2.1 x.2.2.1 x.2.2.2.1 x.2.2.2.2.1) n ((over1, ((), ((), ((), ((), (borrow7, (t10, ()))))))), (ob0, (ob1, (ob2, (ob3, ())))))
theorem zuT : zqo = zfG := by
 (repeat (apply funext; intro _))
 simp only [zqo, zfG, zuS]
theorem zg5 (N n : Nat) (over1 borrow7 : UInt64) (t10 : Int) (ob0 ob1 ob2 ob3 : List UInt64) : zfG N (n + 1) over1 borrow7 t10 ob0 ob1 ob2 ob3 = zij N (zfG N n) over1 borrow7 t10 ob0 ob1 ob2 ob3 := rfl
def q174 (N : Nat) (a0 : Fr) (over1 : UInt64) : Option (Fr × Unit) :=
 Option.bind (q169 N) fun r0 => zfG N N over1 (0 : UInt64) (0 : Int) ([Fr.a0 a0, Fr.a1 a0, Fr.a2 a0, Fr.a3 a0]) ([(0 : UInt64), (0 : UInt64), (0 : UInt64), (0 : UInt64)]) ([Fr.a0 r0.1, Fr.a1 r0.1, Fr.a2 r0.1, Fr.a3 r0.1]) ([(0 : UInt64), (0 : UInt64), (0 : UInt64), (0 : UInt64)])
theorem zwz : p174 = q174 := by
 (repeat (apply funext; intro _))
 simp only [p174, q174, zuT, znJ]
def zff (N : Nat) (A_4 : Int -> (List UInt64) -> (List UInt64) -> (List UInt64) -> (List UInt64) -> (List UInt64) -> Option (Fr × Unit)) (A_22 : UInt64 -> UInt64 -> UInt64 -> UInt64 -> Int -> Int -> (List UInt64) -> (List UInt64) -> (List UInt64) -> (List UInt64) -> (List UInt64) -> Option (Fr × Unit)) (c8 top13 more14 x15 : UInt64) (j16 t18 : Int) (ob0 ob1 ob2 ob3 ob4 : List UInt64) : Option (Fr × Unit) :=
 cond ((ltI j16 (4 : Int))) (must (leI (0 : Int) j16 && ltI j16 (↑(4 : Nat) : Int)) (Option.bind (q163 N x15 (List.getD ob3 j16.toNat (0 : UInt64))) fun r1 => must (leI (0 : Int) j16 && ltI j16 (↑(5 : Nat) : Int)) (Option.bind (kAdd (r1.2.1) (List.getD ob4 j16.toNat (0 : UInt64)) (0 : UInt64)) fun r2 => Option.bind (kAdd r2.1 c8 (0 : UInt64)) fun r3 => must (leI (0 : Int) ((wr (j16 - (1 : Int)))) && ltI ((wr (j16 - (1 : Int)))) (↑(5 : Nat) : Int)) (A_22 (((Prod.fst r1 + Prod.snd r2) + Prod.snd r3)) top13 more14 x15 ((wr (j16 + (1 : Int)))) t18 ob0 ob1 ob2 ob3 (setL ob4 (Int.toNat ((wr (j16 - (1 : Int))))) r3.1))))) (Option.bind (kAdd top13 c8 (0 : UInt64)) fun r0 => A_4 ((wr (t18 + (1 : Int)))) ob0 ob1 ob2 ob3 (setL (setL ob4 (3 : Nat) r0.1) (4 : Nat) ((more14 + Prod.snd r0))))
theorem zr7 : zlS = zff := by
 (repeat (apply funext; intro _))
 simp only [zlS, zff, hide_eq, znI]
def zed (N : Nat) (A_4 : Int -> (List UInt64) -> (List UInt64) -> (List UInt64) -> (List UInt64) -> (List UInt64) -> Option (Fr × Unit)) (n : Nat) (c8 top13 more14 x15 : UInt64) (j16 t18 : Int) (ob0 ob1 ob2 ob3 ob4 : List UInt64) : Option (Fr × Unit) :=
 zan (fun A x => zff N A_4 (fun c8 top13 more14 x15 j16 t18 ob0 ob1 ob2 ob3 ob4 => A (((), ((), ((), ((), ((), (c8, (top13, (more14, (x15, (j16, (t18, ()))))))))))), (ob0, (ob1, (ob2, (ob3, (ob4, ()))))))) x.1.2.2.2.2.2.1 x.1.2.2.2.2.2.2.1 x.1.2.2.2.2.2.2.2.1 x.1.2.2.2.2.2.2.2.2.1 x.1.2.2.2.2.2.2.2.2.2.1 x.1.2.2.2.2.2.2.2.2.2.2.1 x.2.1 x.2.2.1 x.2.2.2.1 x.2.2.2.2.1 x.2.2.2.2.2.1) n (((), ((), ((), ((), ((), (c8, (top13, (more14, (x15, (j16, (t18, ()))))))))))), (ob0, (ob1, (ob2, (ob3, (ob4, ()))))))
theorem zr8 : zlT = zed := by
 (repeat (apply funext; intro _))
 simp only [zlT, zed, zr7]
theorem zfH (N : Nat) (A_4 : Int -> (List UInt64) -> (List UInt64) -> (List UInt64) -> (List UInt64) -> (List UInt64) -> Option (Fr × Unit)) (n : Nat) (c8 top13 more14 x15 : UInt64) (j16 t18 : Int) (ob0 ob1 ob2 ob3 ob4 : List UInt64) : zed N A_4 (n + 1) c8 top13 more14 x15 j16 t18 ob0 ob1 ob2 ob3 ob4 = zff N A_4 (zed N A_4 n) c8 top13 more14 x15 j16 t18 ob0 ob1 ob2 ob3 ob4 := rfl
def zik (N : Nat) (A_4 : Int -> (List UInt64) -> (List UInt64) -> (List UInt64) -> (List UInt64) -> (List UInt64) -> Option (Fr × Unit)) (A_8 : Int -> UInt64 -> Int -> Int -> (List UInt64) -> (List UInt64) -> (List UInt64) -> (List UInt64) -> (List UInt64) -> Option (Fr × Unit)) (i7 : Int) (c8 : UInt64) (t18 t21 : Int) (ob0 ob1 ob2 ob3 ob4 : List UInt64) : Option (Fr × Unit) :=
 cond ((ltI t21 (4 : Int))) (must (leI (0 : Int) t21 && ltI t21 (↑(4 : Nat) : Int)) (must (leI (0 : Int) i7 && ltI i7 (↑(4 : Nat) : Int)) (Option.bind (q163 N (List.getD ob0 t21.toNat (0 : UInt64)) (List.getD ob1 i7.toNat (0 : UInt64))) fun r3 => must (leI (0 : Int) t21 && ltI t21 (↑(5 : Nat) : Int)) (Option.bind (kAdd (r3.2.1) (List.getD ob4 t21.toNat (0 : UInt64)) (0 : UInt64)) fun r4 => Option.bind (kAdd r4.1 c8 (0 : UInt64)) fun r5 => must (leI (0 : Int) t21 && ltI t21 (↑(5 : Nat) : Int)) (A_8 i7 (((Prod.fst r3 + Prod.snd r4) + Prod.snd r5)) t18 ((wr (t21 + (1 : Int)))) ob0 ob1 ob2 ob3 (setL ob4 t21.toNat r5.1)))))) (Option.bind (kAdd (List.getD ob4 (4 : Nat) (0 : UInt64)) c8 (0 : UInt64)) fun r0 => Option.bind (q163 N ((List.getD ob4 (0 : Nat) (0 : UInt64) * (18446744069414584319 : UInt64))) (List.getD ob3 (0 : Nat) (0 : UInt64))) fun r1 => Option.bind (kAdd (r1.2.1) (List.getD ob4 (0 : Nat) (0 : UInt64)) (0 : UInt64)) fun r2 => zed N A_4 N ((Prod.fst r1 + Prod.snd r2)) r0.1 r0.2 ((List.getD ob4 (0 : Nat) (0 : UInt64) * (18446744069414584319 : UInt64))) (1 : Int) t18 ob0 ob1 ob2 ob3 ob4)
theorem zuU : zqr = zik := by
 (repeat (apply funext; intro _))
 simp only [zqr, zik, hide_eq, zr8, znI]
def zg6 (N : Nat) (A_4 : Int -> (List UInt64) -> (List UInt64) -> (List UInt64) -> (List UInt64) -> (List UInt64) -> Option (Fr × Unit)) (n : Nat) (i7 : Int) (c8 : UInt64) (t18 t21 : Int) (ob0 ob1 ob2 ob3 ob4 : List UInt64) : Option (Fr × Unit) :=
 zan (fun A x => zik N A_4 (fun i7 c8 t18 t21 ob0 ob1 ob2 ob3 ob4 => A (((), ((), ((), ((), ((), (i7, (c8, (t18, (t21, ()))))))))), (ob0, (ob1, (ob2, (ob3, (ob4, ()))))))) x.1.2.2.2.2.2.1 x.1.2.2.2.2.2.2.1 x.1.2.2.2.2.2.2.2.1 x.1.2.2.2.2.2.2.2.2.1 x.2.1 x.2.2.1 x.2.2.2.1 x.2.2.2.2.1 x.2.2.2.2.2.1) n (((), ((), ((), ((), ((), (i7, (c8, (t18, (t21, ()))))))))), (ob0, (ob1, (ob2, (ob3, (ob4, ()))))))
theorem zuV : zqs = zg6 := by
 (repeat (apply funext; intro _))
 simp only [zqs, zg6, zuU]
theorem zg7 (N : Nat) (A_4 : Int -> (List UInt64) -> (List UInt64) -> (List UInt64) -> (List UInt64) -> (List UInt64) -> Option (Fr × Unit)) (n : Nat) (i7 : Int) (c8 : UInt64) (t18 t21 : Int) (ob0 ob1 ob2 ob3 ob4 : List UInt64) : zg6 N A_4 (n + 1) i7 c8 t18 t21 ob0 ob1 ob2 ob3 ob4 = zik N A_4 (zg6 N A_4 n) i7 c8 t18 t21 ob0 ob1 ob2 ob3 ob4 := rfl
def zil (N : Nat) (A_4 : Int -> (List UInt64) -> (List UInt64) -> (List UInt64) -> (List UInt64) -> (List UInt64) -> Option (Fr × Unit)) (t18 : Int) (ob0 ob1 ob2 ob3 ob4 : List UInt64) : Option (Fr × Unit) :=
 cond ((ltI t18 (4 : Int))) (zg6 N A_4 N t18 (0 : UInt64) t18 (0 : Int) ob0 ob1 ob2 ob3 ob4) (must (leN (Int.toNat (0 : Int) + (4 : Nat)) ob4.length) (Option.bind (Option.bind (Option.bind (Fr.of? (List.take (4 : Nat) ob4)) fun r0 => some ((r0, List.getD ob4 (4 : Nat) (0 : UInt64), ()))) fun r1 => q174 N r1.1 (r1.2.1)) fun r2 => some (({ a0 := Fr.a0 r2.1, a1 := Fr.a1 r2.1, a2 := Fr.a2 r2.1, a3 := Fr.a3 r2.1 }, ()))))
theorem zuW : zqt = zil := by
 (repeat (apply funext; intro _))
 simp only [zqt, zil, hide_eq, zuV, zwz]
def zdh (N n : Nat) (t18 : Int) (ob0 ob1 ob2 ob3 ob4 : List UInt64) : Option (Fr × Unit) :=
 zan (fun A x => zil N (fun t18 ob0 ob1 ob2 ob3 ob4 => A (((), ((), ((), ((), ((), (t18, ())))))), (ob0, (ob1, (ob2, (ob3, (ob4, ()))))))) x.1.2.2.2.2.2.1 x.2.1 x.2.2.1 x.2.2.2.1 x.2.2.2.2.1 x.2.2.2.2.2.1) n (((), ((), ((), ((), ((), (t18, ())))))), (ob0, (ob1, (ob2, (ob3, (ob4, ()))))))
theorem zuX : zqu = zdh := by
 (repeat (apply funext; intro _))
 simp only [zqu, zdh, zuW]
theorem zg8 (N n : Nat) (t18 : Int) (ob0 ob1 ob2 ob3 ob4 : List UInt64) : zdh N (n + 1) t18 ob0 ob1 ob2 ob3 ob4 = zil N (zdh N n) t18 ob0 ob1 ob2 ob3 ob4 := rfl
def q172 (N : Nat) (a0 b1 : Fr) : Option (Fr × Unit) :=
 Option.bind (q169 N) fun r0 => zdh N N (0 : Int) ([Fr.a0 a0, Fr.a1 a0, Fr.a2 a0, Fr.a3 a0]) ([Fr.a0 b1, Fr.a1 b1, Fr.a2 b1, Fr.a3 b1]) ([(0 : UInt64), (0 : UInt64), (0 : UInt64), (0 : UInt64)]) ([Fr.a0 r0.1, Fr.a1 r0.1, Fr.a2 r0.1, Fr.a3 r0.1]) ([(0 : UInt64), (0 : UInt64), (0 : UInt64), (0 : UInt64), (0 : UInt64)])
theorem zwA : p172 = q172 := by
 (repeat (apply funext; intro _))
 simp only [p172, q172, zuX, znJ]
def q170 (N : Nat) (a0 : Fr) : Option (Fr × Unit) :=
 Option.bind (q213 N) fun r0 => Option.bind (q172 N ({ a0 := Fr.a0 a0, a1 := Fr.a1 a0, a2 := Fr.a2 a0, a3 := Fr.a3 a0 }) ({ a0 := Fr.a0 r0.1, a1 := Fr.a1 r0.1, a2 := Fr.a2 r0.1, a3 := Fr.a3 r0.1 })) fun r1 => some (({ a0 := Fr.a0 r1.1, a1 := Fr.a1 r1.1, a2 := Fr.a2 r1.1, a3 := Fr.a3 r1.1 }, ()))
theorem zBL : p170 = q170 := by
 (repeat (apply funext; intro _))
 simp only [p170, q170, zwA, zBK]
def q76 (N : Nat) (a0 b1 : Fr) : Option (Fr × Unit) :=
 Option.bind (q172 N ({ a0 := Fr.a0 a0, a1 := Fr.a1 a0, a2 := Fr.a2 a0, a3 := Fr.a3 a0 }) ({ a0 := Fr.a0 b1, a1 := Fr.a1 b1, a2 := Fr.a2 b1, a3 := Fr.a3 b1 })) fun r0 => Option.bind (q170 N ({ a0 := Fr.a0 r0.1, a1 := Fr.a1 r0.1, a2 := Fr.a2 r0.1, a3 := Fr.a3 r0.1 })) fun r1 => some (({ a0 := Fr.a0 r1.1, a1 := Fr.a1 r1.1, a2 := Fr.a2 r1.1, a3 := Fr.a3 r1.1 }, ()))
theorem zyz : p76 = q76 := by
 (repeat (apply funext; intro _))
 simp only [p76, q76, zBL, zwA]
def zim (N : Nat) (A_12 : UInt64 -> Int -> (List UInt64) -> (List UInt64) -> (List UInt64) -> Option (Fr × Unit)) (carry8 : UInt64) (t32 : Int) (ob0 ob1 ob2 : List UInt64) : Option (Fr × Unit) :=
 cond ((ltI t32 (4 : Int))) (must (leI (0 : Int) t32 && ltI t32 (↑(4 : Nat) : Int)) (must (leI (0 : Int) t32 && ltI t32 (↑(4 : Nat) : Int)) (Option.bind (kAdd (List.getD ob2 t32.toNat (0 : UInt64)) (List.getD ob1 t32.toNat (0 : UInt64)) carry8) fun r1 => must (leI (0 : Int) t32 && ltI t32 (↑(4 : Nat) : Int)) (A_12 r1.2 ((wr (t32 + (1 : Int)))) ob0 ob1 (setL ob2 t32.toNat r1.1))))) (must (Nat.beq ob2.length (4 : Nat)) (Option.bind (Fr.of? ob2) fun r0 => some ((r0, ()))))
theorem zuY : zqy = zim := by
 (repeat (apply funext; intro _))
 simp only [zqy, zim, hide_eq]
def zin (N n : Nat) (carry8 : UInt64) (t32 : Int) (ob0 ob1 ob2 : List UInt64) : Option (Fr × Unit) :=
 zan (fun A x => zim N (fun carry8 t32 ob0 ob1 ob2 => A (((), ((), ((), (carry8, (t32, ()))))), (ob0, (ob1, (ob2, ()))))) x.1.2.2.2.1 x.1.2.2.2.2.1 x.2.1 x.2.2.1 x.2.2.2.1) n (((), ((), ((), (carry8, (t32, ()))))), (ob0, (ob1, (ob2, ()))))
theorem zuZ : zqz = zin := by
 (repeat (apply funext; intro _))
 simp only [zqz, zin, zuY]
theorem zg9 (N n : Nat) (carry8 : UInt64) (t32 : Int) (ob0 ob1 ob2 : List UInt64) : zin N (n + 1) carry8 t32 ob0 ob1 ob2 = zim N (zin N n) carry8 t32 ob0 ob1 ob2 := rfl
def zoE (N : Nat) (A_5 : UInt64 -> UInt64 -> Int -> (List UInt64) -> (List UInt64) -> (List UInt64) -> (List UInt64) -> (List UInt64) -> Option (Fr × Unit)) (borrow7 carry8 : UInt64) (t12 : Int) (ob0 ob1 ob2 ob3 ob4 : List UInt64) : Option (Fr × Unit) :=
 cond ((ltI t12 (4 : Int))) (must (leI (0 : Int) t12 && ltI t12 (↑(4 : Nat) : Int)) (must (leI (0 : Int) t12 && ltI t12 (↑(4 : Nat) : Int)) (Option.bind (kSub (List.getD ob0 t12.toNat (0 : UInt64)) (List.getD ob1 t12.toNat (0 : UInt64)) borrow7) fun r1 => must (leI (0 : Int) t12 && ltI t12 (↑(4 : Nat) : Int)) (A_5 r1.2 carry8 ((wr (t12 + (1 : Int)))) ob0 ob1 ob2 ob3 (setL ob4 t12.toNat r1.1))))) (cond ((borrow7 == (0 : UInt64))) (must (Nat.beq ob4.length (4 : Nat)) (Option.bind (Fr.of? ob4) fun r0 => some ((r0, ())))) (zin N N carry8 (0 : Int) ob2 ob3 ob4))
theorem zyA : zxV = zoE := by
 (repeat (apply funext; intro _))
 simp only [zxV, zoE, hide_eq, zuZ]
def zkE (N n : Nat) (borrow7 carry8 : UInt64) (t12 : Int) (ob0 ob1 ob2 ob3 ob4 : List UInt64) : Option (Fr × Unit) :=
 zan (fun A x => zoE N (fun borrow7 carry8 t12 ob0 ob1 ob2 ob3 ob4 => A (((), ((), ((), ((), ((), (borrow7, (carry8, (t12, ())))))))), (ob0, (ob1, (ob2, (ob3, (ob4, ()))))))) x.1.2.2.2.2.2.1 x.1.2.2.2.2.2.2.1 x.1.2.2.2.2.2.2.2.1 x.2.1 x.2.2.1 x.2.2.2.1 x.2.2.2.2.1 x.2.2.2.2.2.1) n (((), ((), ((), ((), ((), (borrow7, (carry8, (t12, ())))))))), (ob0, (ob1, (ob2, (ob3, (ob4, ()))))))
theorem zyB : zxW = zkE := by
 (repeat (apply funext; intro _))
 simp only [zxW, zkE, zyA]
theorem zio (N n : Nat) (borrow7 carry8 : UInt64) (t12 : Int) (ob0 ob1 ob2 ob3 ob4 : List UInt64) : zkE N (n + 1) borrow7 carry8 t12 ob0 ob1 ob2 ob3 ob4 = zoE N (zkE N n) borrow7 carry8 t12 ob0 ob1 ob2 ob3 ob4 := rfl
def q82 (N : Nat) (a0 b1 : Fr) : Option (Fr × Unit) :=
 Option.bind (q169 N) fun r0 => zkE N N (0 : UInt64) (0 : UInt64) (0 : Int) ([Fr.a0 a0, Fr.a1 a0, Fr.a2 a0, Fr.a3 a0]) ([Fr.a0 b1, Fr.a1 b1, Fr.a2 b1, Fr.a3 b1]) ([(0 : UInt64), (0 : UInt64), (0 : UInt64), (0 : UInt64)]) ([Fr.a0 r0.1, Fr.a1 r0.1, Fr.a2 r0.1, Fr.a3 r0.1]) ([(0 : UInt64), (0 : UInt64), (0 : UInt64), (0 : UInt64)])
theorem zBM : p82 = q82 := by
 (repeat (apply funext; intro _))
 simp only [p82, q82, zyB, znJ]
def q84 (N : Nat) (a0 : Fr) : Option (Fr × Unit) :=
 Option.bind (q82 N ({ a0 := (0 : UInt64), a1 := (0 : UInt64), a2 := (0 : UInt64), a3 := (0 : UInt64) }) ({ a0 := Fr.a0 a0, a1 := Fr.a1 a0, a2 := Fr.a2 a0, a3 := Fr.a3 a0 })) fun r0 => some (({ a0 := Fr.a0 r0.1, a1 := Fr.a1 r0.1, a2 := Fr.a2 r0.1, a3 := Fr.a3 r0.1 }, ()))
theorem zEm : p84 = q84 := by
 (repeat (apply funext; intro _))
 simp only [p84, q84, zBM]
def q79 (N : Nat) (a0 : Fr) : Option (Bool × Unit) :=
 Option.bind (q169 N) fun r0 => Option.bind (q61 N (List.take (Int.toNat ((↑(4 : Nat) : Int) - (0 : Int))) [Fr.a0 a0, Fr.a1 a0, Fr.a2 a0, Fr.a3 a0]) (List.take (Int.toNat ((↑(4 : Nat) : Int) - (0 : Int))) [Fr.a0 r0.1, Fr.a1 r0.1, Fr.a2 r0.1, Fr.a3 r0.1])) fun r1 => some (((ltI r1.1 (0 : Int)), ()))
theorem zEn : p79 = q79 := by
 (repeat (apply funext; intro _))
 simp only [p79, q79, hide_eq, znJ, zD1]
def q88 (N : Nat) : Option (List UInt64 × Unit) :=
 some (([(18446744069414584321 : UInt64), (6034159408538082302 : UInt64), (3691218898639771653 : UInt64), (8353516859464449352 : UInt64)], ()))
theorem zu0 : p88 = q88 := by
 (repeat (apply funext; intro _))
 simp only [p88, q88, ]
def zip (N : Nat) (A_2 : (List UInt64) -> (List UInt64) -> Int -> Option (Bool × Unit)) (a0 m1 : List UInt64) (i5 : Int) : Option (Bool × Unit) :=
 cond ((leI (0 : Int) i5)) (must (leI (0 : Int) i5 && ltI i5 (↑a0.length : Int)) (must (leI (0 : Int) i5 && ltI i5 (↑m1.length : Int)) (cond (!List.getD a0 i5.toNat (0 : UInt64) == List.getD m1 i5.toNat (0 : UInt64)) (must (leI (0 : Int) i5 && ltI i5 (↑a0.length : Int)) (must (leI (0 : Int) i5 && ltI i5 (↑m1.length : Int)) (some (((ltN (UInt64.toNat (List.getD a0 i5.toNat (0 : UInt64))) (UInt64.toNat (List.getD m1 i5.toNat (0 : UInt64)))), ()))))) (A_2 a0 m1 ((wr (i5 - (1 : Int)))))))) (some ((false, ())))
theorem zu1 : zqA = zip := by
 (repeat (apply funext; intro _))
 simp only [zqA, zip, hide_eq]
def ziq (N n : Nat) (a0 m1 : List UInt64) (i5 : Int) : Option (Bool × Unit) :=
 zan (fun A x => zip N (fun a0 m1 i5 => A ((a0, (m1, (i5, ()))), ())) x.1.1 x.1.2.1 x.1.2.2.1) n ((a0, (m1, (i5, ()))), ())
theorem zu2 : zqB = ziq := by
 (repeat (apply funext; intro _))
 simp only [zqB, ziq, zu1]
theorem zha (N n : Nat) (a0 m1 : List UInt64) (i5 : Int) : ziq N (n + 1) a0 m1 i5 = zip N (ziq N n) a0 m1 i5 := rfl
def q168 (N : Nat) (a0 m1 : List UInt64) : Option (Bool × Unit) :=
 ziq N N a0 m1 ((wr ((↑m1.length : Int) - (1 : Int))))
theorem zr9 : p168 = q168 := by
 (repeat (apply funext; intro _))
 simp only [p168, q168, hide_eq, zu2]
def q69 (N : Nat) (a0 : Fr) : Option (Bool × Unit) :=
 Option.bind (q88 N) fun r0 => Option.bind (q168 N (List.take (Int.toNat ((↑(4 : Nat) : Int) - (0 : Int))) [Fr.a0 a0, Fr.a1 a0, Fr.a2 a0, Fr.a3 a0]) r0.1) fun r1 => some ((Prod.fst r1, ()))
theorem zyC : p69 = q69 := by
 (repeat (apply funext; intro _))
 simp only [p69, q69, zr9, zu0]
def q173 (N : Nat) (n0 : UInt64) : Option (Fr × Unit) :=
 some (({ a0 := n0, a1 := (0 : UInt64), a2 := (0 : UInt64), a3 := (0 : UInt64) }, ()))
theorem zkF : p173 = q173 := by
 (repeat (apply funext; intro _))
 simp only [p173, q173, ]
def zir (N : Nat) (A_2 : Nat -> Nat -> (List UInt64) -> UInt64 -> Int -> (List UInt64) -> Option (List UInt64 × Unit)) (t0f t0n : Nat) (m1 : List UInt64) (c4 : UInt64) (i5 : Int) (t0o : List UInt64) : Option (List UInt64 × Unit) :=
 cond ((ltI i5 (↑m1.length : Int))) (must (leI (0 : Int) i5 && ltI i5 (↑t0n : Int)) (must (leI (0 : Int) i5 && ltI i5 (↑m1.length : Int)) (Option.bind (kSub (List.getD t0o (t0f + Int.toNat i5) (0 : UInt64)) (List.getD m1 i5.toNat (0 : UInt64)) c4) fun r0 => must (leI (0 : Int) i5 && ltI i5 (↑t0n : Int)) (A_2 t0f t0n m1 r0.2 ((wr (i5 + (1 : Int)))) (setL t0o (t0f + Int.toNat i5) r0.1))))) (some ((t0o, ())))
theorem zu3 : zqF = zir := by
 (repeat (apply funext; intro _))
 simp only [zqF, zir, hide_eq]
def zis (N n t0f t0n : Nat) (m1 : List UInt64) (c4 : UInt64) (i5 : Int) (t0o : List UInt64) : Option (List UInt64 × Unit) :=
 zan (fun A x => zir N (fun t0f t0n m1 c4 i5 t0o => A (((t0f, t0n), (m1, (c4, (i5, ())))), (t0o, ()))) x.1.1.1 x.1.1.2 x.1.2.1 x.1.2.2.1 x.1.2.2.2.1 x.2.1) n (((t0f, t0n), (m1, (c4, (i5, ())))), (t0o, ()))
theorem zu4 : zqG = zis := by
 (repeat (apply funext; intro _))
 simp only [zqG, zis, zu3]
theorem zhb (N n t0f t0n : Nat) (m1 : List UInt64) (c4 : UInt64) (i5 : Int) (t0o : List UInt64) : zis N (n + 1) t0f t0n m1 c4 i5 t0o = zir N (zis N n) t0f t0n m1 c4 i5 t0o := rfl
def q214 (N : Nat) (t0 m1 : List UInt64) : Option (List UInt64 × Unit) :=
 zis N N (0 : Nat) t0.length m1 (0 : UInt64) (0 : Int) t0
theorem zwB : p214 = q214 := by
 (repeat (apply funext; intro _))
 simp only [p214, q214, zu4]
def zee (N : Nat) (A_10 : (List UInt64) -> (List UInt64) -> (List UInt64) -> Int -> UInt64 -> Int -> (List UInt64) -> Option (List UInt64 × Unit)) (A_27 : (List UInt64) -> (List UInt64) -> (List UInt64) -> Int -> UInt64 -> Int -> UInt64 -> UInt64 -> Int -> (List UInt64) -> Option (List UInt64 × Unit)) (a0 b1 m2 : List UInt64) (n7 : Int) (inv8 : UInt64) (i11 : Int) (c12 q21 : UInt64) (k24 : Int) (t10o : List UInt64) : Option (List UInt64 × Unit) :=
 cond ((ltI k24 n7)) (must (leI (0 : Int) k24 && ltI k24 (↑m2.length : Int)) (Option.bind (q163 N q21 (List.getD m2 k24.toNat (0 : UInt64))) fun r1 => must (leI (0 : Int) k24 && ltI k24 (↑t10o.length : Int)) (Option.bind (kAdd (List.getD t10o k24.toNat (0 : UInt64)) (r1.2.1) (0 : UInt64)) fun r2 => Option.bind (kAdd r2.1 c12 (0 : UInt64)) fun r3 => must (leI (0 : Int) ((wr (k24 - (1 : Int)))) && ltI ((wr (k24 - (1 : Int)))) (↑t10o.length : Int)) (A_27 a0 b1 m2 n7 inv8 i11 (((Prod.fst r1 + Prod.snd r2) + Prod.snd r3)) q21 ((wr (k24 + (1 : Int)))) (setL t10o (Int.toNat ((wr (k24 - (1 : Int))))) r3.1))))) (must (leI (0 : Int) n7 && ltI n7 (↑t10o.length : Int)) (Option.bind (kAdd (List.getD t10o n7.toNat (0 : UInt64)) c12 (0 : UInt64)) fun r0 => must (leI (0 : Int) ((wr (n7 + (1 : Int)))) && ltI ((wr (n7 + (1 : Int)))) (↑t10o.length : Int)) (must (leI (0 : Int) ((wr (n7 - (1 : Int)))) && ltI ((wr (n7 - (1 : Int)))) (↑t10o.length : Int)) (must (leI (0 : Int) n7 && ltI n7 (↑(List.length (setL t10o (Int.toNat ((wr (n7 - (1 : Int))))) r0.1)) : Int)) (A_10 a0 b1 m2 n7 inv8 ((wr (i11 + (1 : Int)))) (setL (setL t10o (Int.toNat ((wr (n7 - (1 : Int))))) r0.1) n7.toNat ((List.getD t10o (Int.toNat ((wr (n7 + (1 : Int))))) (0 : UInt64) + Prod.snd r0))))))))
theorem zsa : zlV = zee := by
 (repeat (apply funext; intro _))
 simp only [zlV, zee, hide_eq, znI]
def zdu (N : Nat) (A_10 : (List UInt64) -> (List UInt64) -> (List UInt64) -> Int -> UInt64 -> Int -> (List UInt64) -> Option (List UInt64 × Unit)) (n : Nat) (a0 b1 m2 : List UInt64) (n7 : Int) (inv8 : UInt64) (i11 : Int) (c12 q21 : UInt64) (k24 : Int) (t10o : List UInt64) : Option (List UInt64 × Unit) :=
 zan (fun A x => zee N A_10 (fun a0 b1 m2 n7 inv8 i11 c12 q21 k24 t10o => A ((a0, (b1, (m2, (n7, (inv8, ((), (i11, (c12, (q21, (k24, ())))))))))), (t10o, ()))) x.1.1 x.1.2.1 x.1.2.2.1 x.1.2.2.2.1 x.1.2.2.2.2.1 x.1.2.2.2.2.2.2.1 x.1.2.2.2.2.2.2.2.1 x.1.2.2.2.2.2.2.2.2.1 x.1.2.2.2.2.2.2.2.2.2.1 x.2.1) n ((a0, (b1, (m2, (n7, (inv8, ((), (i11, (c12, (q21, (k24, ())))))))))), (t10o, ()))
theorem zsb : zlW = zdu := by
 (repeat (apply funext; intro _))
 simp only [zlW, zdu, zsa]
theorem zfI (N : Nat) (A_10 : (List UInt64) -> (List UInt64) -> (List UInt64) -> Int -> UInt64 -> Int -> (List UInt64) -> Option (List UInt64 × Unit)) (n : Nat) (a0 b1 m2 : List UInt64) (n7 : Int) (inv8 : UInt64) (i11 : Int) (c12 q21 : UInt64) (k24 : Int) (t10o : List UInt64) : zdu N A_10 (n + 1) a0 b1 m2 n7 inv8 i11 c12 q21 k24 t10o = zee N A_10 (zdu N A_10 n) a0 b1 m2 n7 inv8 i11 c12 q21 k24 t10o := rfl
def zef (N : Nat) (A_10 : (List UInt64) -> (List UInt64) -> (List UInt64) -> Int -> UInt64 -> Int -> (List UInt64) -> Option (List UInt64 × Unit)) (A_14 : (List UInt64) -> (List UInt64) -> (List UInt64) -> Int -> UInt64 -> Int -> UInt64 -> Int -> (List UInt64) -> Option (List UInt64 × Unit)) (a0 b1 m2 : List UInt64) (n7 : Int) (inv8 : UInt64) (i11 : Int) (c12 : UInt64) (k13 : Int) (t10o : List UInt64) : Option (List UInt64 × Unit) :=
 cond ((ltI k13 n7)) (must (leI (0 : Int) i11 && ltI i11 (↑a0.length : Int)) (must (leI (0 : Int) k13 && ltI k13 (↑b1.length : Int)) (Option.bind (q163 N (List.getD a0 i11.toNat (0 : UInt64)) (List.getD b1 k13.toNat (0 : UInt64))) fun r3 => must (leI (0 : Int) k13 && ltI k13 (↑t10o.length : Int)) (Option.bind (kAdd (List.getD t10o k13.toNat (0 : UInt64)) (r3.2.1) (0 : UInt64)) fun r4 => Option.bind (kAdd r4.1 c12 (0 : UInt64)) fun r5 => must (leI (0 : Int) k13 && ltI k13 (↑t10o.length : Int)) (A_14 a0 b1 m2 n7 inv8 i11 (((Prod.fst r3 + Prod.snd r4) + Prod.snd r5)) ((wr (k13 + (1 : Int)))) (setL t10o k13.toNat r5.1)))))) (must (leI (0 : Int) n7 && ltI n7 (↑t10o.length : Int)) (Option.bind (kAdd (List.getD t10o n7.toNat (0 : UInt64)) c12 (0 : UInt64)) fun r0 => must (leI (0 : Int) n7 && ltI n7 (↑t10o.length : Int)) (must (leI (0 : Int) ((wr (n7 + (1 : Int)))) && ltI ((wr (n7 + (1 : Int)))) (↑(List.length (setL t10o n7.toNat r0.1)) : Int)) (must (ltI (0 : Int) (↑(List.length (setL (setL t10o n7.toNat r0.1) (Int.toNat ((wr (n7 + (1 : Int))))) r0.2)) : Int)) (must (ltI (0 : Int) (↑m2.length : Int)) (Option.bind (q163 N ((List.getD (setL (setL t10o n7.toNat r0.1) (Int.toNat ((wr (n7 + (1 : Int))))) r0.2) (0 : Nat) (0 : UInt64) * inv8)) (List.getD m2 (0 : Nat) (0 : UInt64))) fun r1 => must (ltI (0 : Int) (↑(List.length (setL (setL t10o n7.toNat r0.1) (Int.toNat ((wr (n7 + (1 : Int))))) r0.2)) : Int)) (Option.bind (kAdd (List.getD (setL (setL t10o n7.toNat r0.1) (Int.toNat ((wr (n7 + (1 : Int))))) r0.2) (0 : Nat) (0 : UInt64)) (r1.2.1) (0 : UInt64)) fun r2 => zdu N A_10 N a0 b1 m2 n7 inv8 i11 ((Prod.fst r1 + Prod.snd r2)) ((List.getD (setL (setL t10o n7.toNat r0.1) (Int.toNat ((wr (n7 + (1 : Int))))) r0.2) (0 : Nat) (0 : UInt64) * inv8)) (1 : Int) (setL (setL t10o n7.toNat r0.1) (Int.toNat ((wr (n7 + (1 : Int))))) r0.2))))))))
theorem zsc : zlX = zef := by
 (repeat (apply funext; intro _))
 simp only [zlX, zef, hide_eq, zsb, znI]
def zeg (N : Nat) (A_10 : (List UInt64) -> (List UInt64) -> (List UInt64) -> Int -> UInt64 -> Int -> (List UInt64) -> Option (List UInt64 × Unit)) (n : Nat) (a0 b1 m2 : List UInt64) (n7 : Int) (inv8 : UInt64) (i11 : Int) (c12 : UInt64) (k13 : Int) (t10o : List UInt64) : Option (List UInt64 × Unit) :=
 zan (fun A x => zef N A_10 (fun a0 b1 m2 n7 inv8 i11 c12 k13 t10o => A ((a0, (b1, (m2, (n7, (inv8, ((), (i11, (c12, (k13, ()))))))))), (t10o, ()))) x.1.1 x.1.2.1 x.1.2.2.1 x.1.2.2.2.1 x.1.2.2.2.2.1 x.1.2.2.2.2.2.2.1 x.1.2.2.2.2.2.2.2.1 x.1.2.2.2.2.2.2.2.2.1 x.2.1) n ((a0, (b1, (m2, (n7, (inv8, ((), (i11, (c12, (k13, ()))))))))), (t10o, ()))
theorem zsd : zlY = zeg := by
 (repeat (apply funext; intro _))
 simp only [zlY, zeg, zsc]
theorem zfJ (N : Nat) (A_10 : (List UInt64) -> (List UInt64) -> (List UInt64) -> Int -> UInt64 -> Int -> (List UInt64) -> Option (List UInt64 × Unit)) (n : Nat) (a0 b1 m2 : List UInt64) (n7 : Int) (inv8 : UInt64) (i11 : Int) (c12 : UInt64) (k13 : Int) (t10o : List UInt64) : zeg N A_10 (n + 1) a0 b1 m2 n7 inv8 i11 c12 k13 t10o = zef N A_10 (zeg N A_10 n) a0 b1 m2 n7 inv8 i11 c12 k13 t10o := rfl
def zfg (N : Nat) (A_10 : (List UInt64) -> (List UInt64) -> (List UInt64) -> Int -> UInt64 -> Int -> (List UInt64) -> Option (List UInt64 × Unit)) (a0 b1 m2 : List UInt64) (n7 : Int) (inv8 : UInt64) (i11 : Int) (t10o : List UInt64) : Option (List UInt64 × Unit) :=
 cond ((ltI i11 n7)) (zeg N A_10 N a0 b1 m2 n7 inv8 i11 (0 : UInt64) (0 : Int) t10o) (must (leI (0 : Int) n7 && ltI n7 (↑t10o.length : Int)) (cond (!List.getD t10o n7.toNat (0 : UInt64) == (0 : UInt64)) (must (ltN (0 : Nat) t10o.length) (Option.bind (q214 N t10o m2) fun r2 => must (Nat.beq r2.1.length t10o.length) (must (leI (0 : Int) n7 && leI n7 (↑r2.1.length : Int)) (must (ltN (0 : Nat) (Int.toNat (n7 - (0 : Int)))) (some ((List.take (Int.toNat (n7 - (0 : Int))) r2.1, ()))))))) (must (leI (0 : Int) n7 && leI n7 (↑t10o.length : Int)) (Option.bind (q168 N (List.take (Int.toNat (n7 - (0 : Int))) t10o) m2) fun r0 => cond (!r0.1) (must (ltN (0 : Nat) t10o.length) (Option.bind (q214 N t10o m2) fun r1 => must (Nat.beq r1.1.length t10o.length) (must (leI (0 : Int) n7 && leI n7 (↑r1.1.length : Int)) (must (ltN (0 : Nat) (Int.toNat (n7 - (0 : Int)))) (some ((List.take (Int.toNat (n7 - (0 : Int))) r1.1, ()))))))) (must (leI (0 : Int) n7 && leI n7 (↑t10o.length : Int)) (must (ltN (0 : Nat) (Int.toNat (n7 - (0 : Int)))) (some ((List.take (Int.toNat (n7 - (0 : Int))) t10o, ())))))))))
theorem zse : zlZ = zfg := by
 (repeat (apply funext; intro _))
 simp only [zlZ, zfg, hide_eq, zsd, zr9, zwB]
def zbo (N n : Nat) (a0 b1 m2 : List UInt64) (n7 : Int) (inv8 : UInt64) (i11 : Int) (t10o : List UInt64) : Option (List UInt64 × Unit) :=
 zan (fun A x => zfg N (fun a0 b1 m2 n7 inv8 i11 t10o => A ((a0, (b1, (m2, (n7, (inv8, ((), (i11, ()))))))), (t10o, ()))) x.1.1 x.1.2.1 x.1.2.2.1 x.1.2.2.2.1 x.1.2.2.2.2.1 x.1.2.2.2.2.2.2.1 x.2.1) n ((a0, (b1, (m2, (n7, (inv8, ((), (i11, ()))))))), (t10o, ()))
theorem zsf : zl0 = zbo := by
 (repeat (apply funext; intro _))
 simp only [zl0, zbo, zse]
theorem zfK (N n : Nat) (a0 b1 m2 : List UInt64) (n7 : Int) (inv8 : UInt64) (i11 : Int) (t10o : List UInt64) : zbo N (n + 1) a0 b1 m2 n7 inv8 i11 t10o = zfg N (zbo N n) a0 b1 m2 n7 inv8 i11 t10o := rfl
def zit (N : Nat) (A_4 : (List UInt64) -> (List UInt64) -> (List UInt64) -> Int -> UInt64 -> Int -> Option (List UInt64 × Unit)) (a0 b1 m2 : List UInt64) (n7 : Int) (inv8 : UInt64) (i9 : Int) : Option (List UInt64 × Unit) :=
 cond ((ltI i9 (6 : Int))) (must (ltI (0 : Int) (↑m2.length : Int)) (A_4 a0 b1 m2 n7 ((inv8 * ((2 : UInt64) - (List.getD m2 (0 : Nat) (0 : UInt64) * inv8)))) ((wr (i9 + (1 : Int)))))) (must (leI (0 : Int) ((wr (n7 + (2 : Int)))) && (eqI ((wr (n7 + (2 : Int)))) ((wr (n7 + (2 : Int)))) && leN (Int.toNat ((wr (n7 + (2 : Int)))) * (8 : Nat)) (140737488355328 : Nat))) (zbo N N a0 b1 m2 n7 (((0 : UInt64) - inv8)) (0 : Int) (List.replicate (Int.toNat ((wr (n7 + (2 : Int))))) (0 : UInt64))))
theorem zu5 : zqJ = zit := by
 (repeat (apply funext; intro _))
 simp only [zqJ, zit, hide_eq, zsf]
def zdW (N n : Nat) (a0 b1 m2 : List UInt64) (n7 : Int) (inv8 : UInt64) (i9 : Int) : Option (List UInt64 × Unit) :=
 zan (fun A x => zit N (fun a0 b1 m2 n7 inv8 i9 => A ((a0, (b1, (m2, (n7, (inv8, (i9, ())))))), ())) x.1.1 x.1.2.1 x.1.2.2.1 x.1.2.2.2.1 x.1.2.2.2.2.1 x.1.2.2.2.2.2.1) n ((a0, (b1, (m2, (n7, (inv8, (i9, ())))))), ())
theorem zu6 : zqK = zdW := by
 (repeat (apply funext; intro _))
 simp only [zqK, zdW, zu5]
theorem zhc (N n : Nat) (a0 b1 m2 : List UInt64) (n7 : Int) (inv8 : UInt64) (i9 : Int) : zdW N (n + 1) a0 b1 m2 n7 inv8 i9 = zit N (zdW N n) a0 b1 m2 n7 inv8 i9 := rfl
def q184 (N : Nat) (a0 b1 m2 : List UInt64) : Option (List UInt64 × Unit) :=
 must (ltI (0 : Int) (↑m2.length : Int)) (zdW N N a0 b1 m2 ((↑m2.length : Int)) (List.getD m2 (0 : Nat) (0 : UInt64)) (0 : Int))
theorem zBN : p184 = q184 := by
 (repeat (apply funext; intro _))
 simp only [p184, q184, zu6]
def q175 (N : Nat) (a0 : List UInt64) : Option (Fr × Unit) :=
 must (Nat.beq (List.length (zav [(0 : UInt64), (0 : UInt64), (0 : UInt64), (0 : UInt64)] (Int.toNat (0 : Int)) (List.take (Int.toNat ((↑(4 : Nat) : Int) - (0 : Int))) a0))) (4 : Nat)) (Option.bind (Fr.of? (zav [(0 : UInt64), (0 : UInt64), (0 : UInt64), (0 : UInt64)] (Int.toNat (0 : Int)) (List.take (Int.toNat ((↑(4 : Nat) : Int) - (0 : Int))) a0))) fun r0 => some ((r0, ())))
theorem zsg : p175 = q175 := by
 (repeat (apply funext; intro _))
 simp only [p175, q175, ]
def q94 (N : Nat) (a0 b1 : Fr) : Option (Fr × Unit) :=
 Option.bind (q88 N) fun r0 => Option.bind (q184 N (List.take (Int.toNat ((↑(4 : Nat) : Int) - (0 : Int))) [Fr.a0 a0, Fr.a1 a0, Fr.a2 a0, Fr.a3 a0]) (List.take (Int.toNat ((↑(4 : Nat) : Int) - (0 : Int))) [Fr.a0 b1, Fr.a1 b1, Fr.a2 b1, Fr.a3 b1]) r0.1) fun r1 => Option.bind (q184 N (List.take r1.1.length (List.drop (0 : Nat) r1.1)) ([(14526898881837571181 : UInt64), (3129137299524312099 : UInt64), (419701826671360399 : UInt64), (524908885293268753 : UInt64)]) r0.1) fun r2 => Option.bind (q175 N (List.take r2.1.length (List.drop (0 : Nat) r2.1))) fun r3 => some (({ a0 := Fr.a0 r3.1, a1 := Fr.a1 r3.1, a2 := Fr.a2 r3.1, a3 := Fr.a3 r3.1 }, ()))
theorem zyD : p94 = q94 := by
 (repeat (apply funext; intro _))
 simp only [p94, q94, zsg, zBN, zu0]
def zoF (N : Nat) (A_3 : (List UInt64) -> Int -> (List UInt64) -> (List UInt64) -> (List UInt64) -> Option (Fr × Unit)) (e1 : List UInt64) (i6 : Int) (ob0 ob1 ob2 : List UInt64) : Option (Fr × Unit) :=
 cond ((leI (0 : Int) i6)) (Option.bind (Option.bind (Option.bind (Fr.of? ob2) fun r1 => Option.bind (Option.bind (Fr.of? ob2) fun r2 => some ((r2, ()))) fun r3 => some ((r1, r3))) fun r4 => q94 N r4.1 (r4.2.1)) fun r5 => Option.bind (q162 N e1 i6) fun r6 => cond ((Prod.fst r6 == (1 : UInt64))) (Option.bind (Option.bind (Option.bind (Option.bind (Fr.of? ob0) fun r7 => some ((r7, ()))) fun r8 => some (({ a0 := Fr.a0 r5.1, a1 := Fr.a1 r5.1, a2 := Fr.a2 r5.1, a3 := Fr.a3 r5.1 }, r8))) fun r9 => q94 N r9.1 (r9.2.1)) fun r10 => A_3 e1 ((wr (i6 - (1 : Int)))) ob0 ob1 ([Fr.a0 r10.1, Fr.a1 r10.1, Fr.a2 r10.1, Fr.a3 r10.1])) (A_3 e1 ((wr (i6 - (1 : Int)))) ob0 ob1 ([Fr.a0 r5.1, Fr.a1 r5.1, Fr.a2 r5.1, Fr.a3 r5.1]))) (must (Nat.beq ob2.length (4 : Nat)) (Option.bind (Fr.of? ob2) fun r0 => some ((r0, ()))))
theorem zyE : zxY = zoF := by
 (repeat (apply funext; intro _))
 simp only [zxY, zoF, hide_eq, zBI, zyD]
def zoG (N n : Nat) (e1 : List UInt64) (i6 : Int) (ob0 ob1 ob2 : List UInt64) : Option (Fr × Unit) :=
 zan (fun A x => zoF N (fun e1 i6 ob0 ob1 ob2 => A ((e1, ((), ((), ((), (i6, ()))))), (ob0, (ob1, (ob2, ()))))) x.1.1 x.1.2.2.2.2.1 x.2.1 x.2.2.1 x.2.2.2.1) n ((e1, ((), ((), ((), (i6, ()))))), (ob0, (ob1, (ob2, ()))))
theorem zyF : zxZ = zoG := by
 (repeat (apply funext; intro _))
 simp only [zxZ, zoG, zyE]
theorem ziu (N n : Nat) (e1 : List UInt64) (i6 : Int) (ob0 ob1 ob2 : List UInt64) : zoG N (n + 1) e1 i6 ob0 ob1 ob2 = zoF N (zoG N n) e1 i6 ob0 ob1 ob2 := rfl
def q73 (N : Nat) (a0 : Fr) (e1 : List UInt64) : Option (Fr × Unit) :=
 Option.bind (q173 N (1 : UInt64)) fun r0 => zoG N N e1 ((wr ((wr ((64 : Int) * (↑e1.length : Int))) - (1 : Int)))) ([Fr.a0 a0, Fr.a1 a0, Fr.a2 a0, Fr.a3 a0]) ([(0 : UInt64), (0 : UInt64), (0 : UInt64), (0 : UInt64)]) ([Fr.a0 r0.1, Fr.a1 r0.1, Fr.a2 r0.1, Fr.a3 r0.1])
theorem zEo : p73 = q73 := by
 (repeat (apply funext; intro _))
 simp only [p73, q73, hide_eq, zyF, zkF]
def zoH (N : Nat) (A_4 : UInt64 -> Int -> (List UInt64) -> (List UInt64) -> (List UInt64) -> (List UInt64) -> Option (Fr × Unit)) (carry6 : UInt64) (t8 : Int) (ob0 ob1 ob2 ob3 : List UInt64) : Option (Fr × Unit) :=
 cond ((ltI t8 (4 : Int))) (must (leI (0 : Int) t8 && ltI t8 (↑(4 : Nat) : Int)) (must (leI (0 : Int) t8 && ltI t8 (↑(4 : Nat) : Int)) (Option.bind (kAdd (List.getD ob0 t8.toNat (0 : UInt64)) (List.getD ob1 t8.toNat (0 : UInt64)) carry6) fun r3 => must (leI (0 : Int) t8 && ltI t8 (↑(4 : Nat) : Int)) (A_4 r3.2 ((wr (t8 + (1 : Int)))) ob0 ob1 ob2 (setL ob3 t8.toNat r3.1))))) (Option.bind (Option.bind (Option.bind (Fr.of? ob3) fun r0 => some ((r0, carry6, ()))) fun r1 => q174 N r1.1 (r1.2.1)) fun r2 => some (({ a0 := Fr.a0 r2.1, a1 := Fr.a1 r2.1, a2 := Fr.a2 r2.1, a3 := Fr.a3 r2.1 }, ())))
theorem zyG : zx0 = zoH := by
 (repeat (apply funext; intro _))
 simp only [zx0, zoH, hide_eq, zwz]
def zkG (N n : Nat) (carry6 : UInt64) (t8 : Int) (ob0 ob1 ob2 ob3 : List UInt64) : Option (Fr × Unit) :=
 zan (fun A x => zoH N (fun carry6 t8 ob0 ob1 ob2 ob3 => A (((), ((), ((), ((), (carry6, (t8, ())))))), (ob0, (ob1, (ob2, (ob3, ())))))) x.1.2.2.2.2.1 x.1.2.2.2.2.2.1 x.2.1 x.2.2.1 x.2.2.2.1 x.2.2.2.2.1) n (((), ((), ((), ((), (carry6, (t8, ())))))), (ob0, (ob1, (ob2, (ob3, ())))))
theorem zyH : zx1 = zkG := by
 (repeat (apply funext; intro _))
 simp only [zx1, zkG, zyG]
theorem ziv (N n : Nat) (carry6 : UInt64) (t8 : Int) (ob0 ob1 ob2 ob3 : List UInt64) : zkG N (n + 1) carry6 t8 ob0 ob1 ob2 ob3 = zoH N (zkG N n) carry6 t8 ob0 ob1 ob2 ob3 := rfl
def q80 (N : Nat) (a0 b1 : Fr) : Option (Fr × Unit) :=
 zkG N N (0 : UInt64) (0 : Int) ([Fr.a0 a0, Fr.a1 a0, Fr.a2 a0, Fr.a3 a0]) ([Fr.a0 b1, Fr.a1 b1, Fr.a2 b1, Fr.a3 b1]) ([(0 : UInt64), (0 : UInt64), (0 : UInt64), (0 : UInt64)]) ([(0 : UInt64), (0 : UInt64), (0 : UInt64), (0 : UInt64)])
theorem zyI : p80 = q80 := by
 (repeat (apply funext; intro _))
 simp only [p80, q80, zyH]
def ziw (N : Nat) (A_4 : (List UInt64) -> (List UInt64) -> (List UInt64) -> UInt64 -> Int -> (List UInt64) -> Option (List UInt64 × Unit)) (a0 b1 m2 : List UInt64) (c8 : UInt64) (i9 : Int) (t7o : List UInt64) : Option (List UInt64 × Unit) :=
 cond ((ltI i9 (↑m2.length : Int))) (must (leI (0 : Int) i9 && ltI i9 (↑a0.length : Int)) (must (leI (0 : Int) i9 && ltI i9 (↑b1.length : Int)) (Option.bind (kAdd (List.getD a0 i9.toNat (0 : UInt64)) (List.getD b1 i9.toNat (0 : UInt64)) c8) fun r3 => must (leI (0 : Int) i9 && ltI i9 (↑t7o.length : Int)) (A_4 a0 b1 m2 r3.2 ((wr (i9 + (1 : Int)))) (setL t7o i9.toNat r3.1))))) (cond ((c8 == (1 : UInt64))) (must (ltN (0 : Nat) t7o.length) (Option.bind (q214 N t7o m2) fun r2 => must (Nat.beq r2.1.length t7o.length) (some ((Prod.fst r2, ()))))) (Option.bind (q168 N t7o m2) fun r0 => cond (!r0.1) (must (ltN (0 : Nat) t7o.length) (Option.bind (q214 N t7o m2) fun r1 => must (Nat.beq r1.1.length t7o.length) (some ((Prod.fst r1, ()))))) (some ((t7o, ())))))
theorem zu7 : zqO = ziw := by
 (repeat (apply funext; intro _))
 simp only [zqO, ziw, hide_eq, zr9, zwB]
def zfL (N n : Nat) (a0 b1 m2 : List UInt64) (c8 : UInt64) (i9 : Int) (t7o : List UInt64) : Option (List UInt64 × Unit) :=
 zan (fun A x => ziw N (fun a0 b1 m2 c8 i9 t7o => A ((a0, (b1, (m2, ((), (c8, (i9, ())))))), (t7o, ()))) x.1.1 x.1.2.1 x.1.2.2.1 x.1.2.2.2.2.1 x.1.2.2.2.2.2.1 x.2.1) n ((a0, (b1, (m2, ((), (c8, (i9, ())))))), (t7o, ()))
theorem zu8 : zqP = zfL := by
 (repeat (apply funext; intro _))
 simp only [zqP, zfL, zu7]
theorem zhd (N n : Nat) (a0 b1 m2 : List UInt64) (c8 : UInt64) (i9 : Int) (t7o : List UInt64) : zfL N (n + 1) a0 b1 m2 c8 i9 t7o = ziw N (zfL N n) a0 b1 m2 c8 i9 t7o := rfl
def q176 (N : Nat) (a0 b1 m2 : List UInt64) : Option (List UInt64 × Unit) :=
 must (eqI (↑m2.length : Int) (↑m2.length : Int) && leN (Int.toNat (↑m2.length : Int) * (8 : Nat)) (140737488355328 : Nat)) (zfL N N a0 b1 m2 (0 : UInt64) (0 : Int) (List.replicate (Int.toNat (↑m2.length : Int)) (0 : UInt64)))
theorem zBO : p176 = q176 := by
 (repeat (apply funext; intro _))
 simp only [p176, q176, zu8]
def q81 (N : Nat) (a0 b1 : Fr) : Option (Fr × Unit) :=
 Option.bind (q88 N) fun r0 => Option.bind (q176 N (List.take (Int.toNat ((↑(4 : Nat) : Int) - (0 : Int))) [Fr.a0 a0, Fr.a1 a0, Fr.a2 a0, Fr.a3 a0]) (List.take (Int.toNat ((↑(4 : Nat) : Int) - (0 : Int))) [Fr.a0 b1, Fr.a1 b1, Fr.a2 b1, Fr.a3 b1]) r0.1) fun r1 => Option.bind (q175 N r1.1) fun r2 => some (({ a0 := Fr.a0 r2.1, a1 := Fr.a1 r2.1, a2 := Fr.a2 r2.1, a3 := Fr.a3 r2.1 }, ()))
theorem zyJ : p81 = q81 := by
 (repeat (apply funext; intro _))
 simp only [p81, q81, zsg, zBO, zu0]
def zfh (N : Nat) (A_10 : (List UInt64) -> UInt64 -> Int -> (List UInt64) -> Option (List UInt64 × Unit)) (m2 : List UInt64) (c8 : UInt64) (i10 : Int) (t7o : List UInt64) : Option (List UInt64 × Unit) :=
 cond ((ltI i10 (↑m2.length : Int))) (must (leI (0 : Int) i10 && ltI i10 (↑t7o.length : Int)) (must (leI (0 : Int) i10 && ltI i10 (↑m2.length : Int)) (Option.bind (kAdd (List.getD t7o i10.toNat (0 : UInt64)) (List.getD m2 i10.toNat (0 : UInt64)) c8) fun r0 => must (leI (0 : Int) i10 && ltI i10 (↑t7o.length : Int)) (A_10 m2 r0.2 ((wr (i10 + (1 : Int)))) (setL t7o i10.toNat r0.1))))) (some ((t7o, ())))
theorem zsh : zl2 = zfh := by
 (repeat (apply funext; intro _))
 simp only [zl2, zfh, hide_eq]
def zfi (N n : Nat) (m2 : List UInt64) (c8 : UInt64) (i10 : Int) (t7o : List UInt64) : Option (List UInt64 × Unit) :=
 zan (fun A x => zfh N (fun m2 c8 i10 t7o => A ((m2, ((), (c8, (i10, ())))), (t7o, ()))) x.1.1 x.1.2.2.1 x.1.2.2.2.1 x.2.1) n ((m2, ((), (c8, (i10, ())))), (t7o, ()))
theorem zsi : zl3 = zfi := by
 (repeat (apply funext; intro _))
 simp only [zl3, zfi, zsh]
theorem zfM (N n : Nat) (m2 : List UInt64) (c8 : UInt64) (i10 : Int) (t7o : List UInt64) : zfi N (n + 1) m2 c8 i10 t7o = zfh N (zfi N n) m2 c8 i10 t7o := rfl
def zix (N : Nat) (A_4 : (List UInt64) -> (List UInt64) -> (List UInt64) -> UInt64 -> Int -> (List UInt64) -> Option (List UInt64 × Unit)) (a0 b1 m2 : List UInt64) (c8 : UInt64) (i9 : Int) (t7o : List UInt64) : Option (List UInt64 × Unit) :=
 cond ((ltI i9 (↑m2.length : Int))) (must (leI (0 : Int) i9 && ltI i9 (↑a0.length : Int)) (must (leI (0 : Int) i9 && ltI i9 (↑b1.length : Int)) (Option.bind (kSub (List.getD a0 i9.toNat (0 : UInt64)) (List.getD b1 i9.toNat (0 : UInt64)) c8) fun r0 => must (leI (0 : Int) i9 && ltI i9 (↑t7o.length : Int)) (A_4 a0 b1 m2 r0.2 ((wr (i9 + (1 : Int)))) (setL t7o i9.toNat r0.1))))) (cond ((c8 == (1 : UInt64))) (zfi N N m2 (0 : UInt64) (0 : Int) t7o) (some ((t7o, ()))))
theorem zu9 : zqS = zix := by
 (repeat (apply funext; intro _))
 simp only [zqS, zix, hide_eq, zsi]
def zfN (N n : Nat) (a0 b1 m2 : List UInt64) (c8 : UInt64) (i9 : Int) (t7o : List UInt64) : Option (List UInt64 × Unit) :=
 zan (fun A x => zix N (fun a0 b1 m2 c8 i9 t7o => A ((a0, (b1, (m2, ((), (c8, (i9, ())))))), (t7o, ()))) x.1.1 x.1.2.1 x.1.2.2.1 x.1.2.2.2.2.1 x.1.2.2.2.2.2.1 x.2.1) n ((a0, (b1, (m2, ((), (c8, (i9, ())))))), (t7o, ()))
theorem zva : zqT = zfN := by
 (repeat (apply funext; intro _))
 simp only [zqT, zfN, zu9]
theorem zhe (N n : Nat) (a0 b1 m2 : List UInt64) (c8 : UInt64) (i9 : Int) (t7o : List UInt64) : zfN N (n + 1) a0 b1 m2 c8 i9 t7o = zix N (zfN N n) a0 b1 m2 c8 i9 t7o := rfl
def q177 (N : Nat) (a0 b1 m2 : List UInt64) : Option (List UInt64 × Unit) :=
 must (eqI (↑m2.length : Int) (↑m2.length : Int) && leN (Int.toNat (↑m2.length : Int) * (8 : Nat)) (140737488355328 : Nat)) (zfN N N a0 b1 m2 (0 : UInt64) (0 : Int) (List.replicate (Int.toNat (↑m2.length : Int)) (0 : UInt64)))
theorem zBP : p177 = q177 := by
 (repeat (apply funext; intro _))
 simp only [p177, q177, zva]
def q83 (N : Nat) (a0 b1 : Fr) : Option (Fr × Unit) :=
 Option.bind (q88 N) fun r0 => Option.bind (q177 N (List.take (Int.toNat ((↑(4 : Nat) : Int) - (0 : Int))) [Fr.a0 a0, Fr.a1 a0, Fr.a2 a0, Fr.a3 a0]) (List.take (Int.toNat ((↑(4 : Nat) : Int) - (0 : Int))) [Fr.a0 b1, Fr.a1 b1, Fr.a2 b1, Fr.a3 b1]) r0.1) fun r1 => Option.bind (q175 N r1.1) fun r2 => some (({ a0 := Fr.a0 r2.1, a1 := Fr.a1 r2.1, a2 := Fr.a2 r2.1, a3 := Fr.a3 r2.1 }, ()))
theorem zBQ : p83 = q83 := by
 (repeat (apply funext; intro _))
 simp only [p83, q83, zsg, zBP, zu0]
def q85 (N : Nat) (a0 : Fr) : Option (Fr × Unit) :=
 Option.bind (q83 N ({ a0 := (0 : UInt64), a1 := (0 : UInt64), a2 := (0 : UInt64), a3 := (0 : UInt64) }) ({ a0 := Fr.a0 a0, a1 := Fr.a1 a0, a2 := Fr.a2 a0, a3 := Fr.a3 a0 })) fun r0 => some (({ a0 := Fr.a0 r0.1, a1 := Fr.a1 r0.1, a2 := Fr.a2 r0.1, a3 := Fr.a3 r0.1 }, ()))
theorem zBR : p85 = q85 := by
 (repeat (apply funext; intro _))
 simp only [p85, q85, zBQ]
end
section
def lv : List UInt64 -> Nat
 | [] => 0
 | x :: l => x.toNat + 18446744073709551616 * lv l
theorem zam (l : List UInt64) (i : Nat) : lv (l.take (i + 1)) = lv (l.take i) + 18446744073709551616 ^ i * (l.getD i 0).toNat := by
 induction l generalizing i with
 | nil => simp [lv]
 | cons x l ih =>
  cases i with
  | zero => simp [lv]
  | succ i =>
   simp only [List.take_succ_cons, lv, ih i, List.getD_cons_succ, Nat.pow_succ]
   generalize 18446744073709551616 ^ i = p
   rw [Nat.mul_add, Nat.add_assoc]
   congr 2
   rw [Nat.mul_comm p 18446744073709551616, Nat.mul_assoc]
theorem zhf {l : List UInt64} {n : Nat} (h : l.length <= n) : lv (l.take n) = lv l := by
 rw [List.take_of_length_le h]
theorem zhM (l : List UInt64) : lv l < 18446744073709551616 ^ l.length := by
 induction l with
 | nil => simp [lv]
 | cons x l ih =>
  have hx := x.toNat_lt
  simp only [lv, List.length_cons, Nat.pow_succ]
  have h2 : 18446744073709551616 * (lv l + 1) <= 18446744073709551616 * 18446744073709551616 ^ l.length := Nat.mul_le_mul_left _ ih
  rw [Nat.mul_comm (18446744073709551616 ^ l.length)]
  omega
theorem zb7 (l : List UInt64) (i : Nat) : lv (l.take i) < 18446744073709551616 ^ i := by
 refine Nat.lt_of_lt_of_le (zhM _) (Nat.pow_le_pow_right (by decide) ?_)
 rw [List.length_take]; omega
theorem zau {α : Type} (l : List α) (i : Nat) (x : α) : (setL l i x).length = l.length := by
 induction l generalizing i with
 | nil => rfl
 | cons y l ih => cases i <;> simp [setL, ih]
theorem zdv {α : Type} (l : List α) {i j : Nat} (x : α) (h : j <= i) : (setL l i x).take j = l.take j := by
 induction l generalizing i j with
 | nil => rfl
 | cons y l ih =>
  cases j with
  | zero => rfl
  | succ j => cases i with
   | zero => omega
   | succ i => simp [setL, ih (Nat.le_of_succ_le_succ h)]
theorem zaG {α : Type} (l : List α) (i j : Nat) (x d : α) : (setL l i x).getD j d = if j = i /\ i < l.length then x else l.getD j d := by
 induction l generalizing i j with
 | nil => simp [setL]
 | cons y l ih =>
  cases i with
  | zero => cases j <;> simp [setL]
  | succ i => cases j with
   | zero => simp [setL]
   | succ j => simp only [setL, List.getD_cons_succ, ih, Nat.add_right_cancel_iff, List.length_cons, Nat.add_lt_add_iff_right]
theorem zaL (l : List UInt64) {i : Nat} (x : UInt64) (h : i < l.length) : lv ((setL l i x).take (i + 1)) = lv (l.take i) + 18446744073709551616 ^ i * x.toNat := by
 rw [zam, zdv l x (Nat.le_refl i), zaG, if_pos ⟨rfl, h⟩]
theorem zeO {l : List UInt64} {i : Nat} (h : l.length <= i) : l.getD i 0 = 0 := by
 rw [List.getD_eq_getElem?_getD, List.getElem?_eq_none h]; rfl
theorem zmv {k : Nat} (h : k < 9223372036854775807) : wr (((k + 1 : Nat) : Int) - 1) = (k : Int) := by
 rw [zec (by omega) (by omega)]; omega
theorem zyK (a b : Nat) : mxI (a : Int) (b : Int) = ((max a b : Nat) : Int) := by
 unfold mxI
 rw [zbb]
 by_cases h : a < b
 ·rw [zaB h, cond_true]; congr 1; omega
 ·rw [zcC h, cond_false]; congr 1; omega
end
section
theorem zsj (N : Nat) (a : List UInt64) (i : Nat) : q160 N a (i : Int) = some (a.getD i 0, ()) := by
 unfold q160
 rw [zbb]
 by_cases h : i < a.length
 ·rw [zaB h, cond_true, zas, Bool.true_and, zqg rfl]
  rfl
 ·rw [zcC h, cond_false, zeO (by omega)]
def cmpN (a b : Nat) : Int := if a < b then -1 else if b < a then 1 else 0
theorem zBS (N : Nat) (a b : List UInt64) : ∀ n k : Nat, k < n -> k < 9223372036854775807 -> (∀ j, k <= j -> a.getD j 0 = b.getD j 0) -> zdK N n a b (k : Int) = some (cmpN (lv (a.take k)) (lv (b.take k)), ()) := by
 intro n
 induction n with
 | zero => intro k h; omega
 | succ n ih =>
  intro k hn hb h0
  rw [zjF]
  unfold zeN
  cases k with
  | zero =>
   rw [show wr (((0 : Nat) : Int) - 1) = -1 from zec (by omega) (by omega), show ltI (-1) 0 = true from rfl, cond_true]
   simp [cmpN, lv]
  | succ k =>
   rw [zmv (by omega), zuu, cond_false, zsj, zsj, zam, zam]
   simp only [Option.bind_some]
   have h1 := zb7 a k
   have h2 := zb7 b k
   generalize 18446744073709551616 ^ k = p at h1 h2 ⊢
   by_cases e1 : (a.getD k 0).toNat < (b.getD k 0).toNat
   ·rw [zaB e1, cond_true]
    have : p * ((a.getD k 0).toNat + 1) <= p * (b.getD k 0).toNat := Nat.mul_le_mul_left _ e1
    rw [Nat.mul_add] at this
    simp only [cmpN]
    rw [if_pos (by omega)]
   ·rw [zcC e1, cond_false]
    by_cases e2 : (b.getD k 0).toNat < (a.getD k 0).toNat
    ·rw [zaB e2, cond_true]
     have : p * ((b.getD k 0).toNat + 1) <= p * (a.getD k 0).toNat := Nat.mul_le_mul_left _ e2
     rw [Nat.mul_add] at this
     simp only [cmpN]
     rw [if_neg (by omega), if_pos (by omega)]
    ·rw [zcC e2, cond_false]
     have e3 : (a.getD k 0).toNat = (b.getD k 0).toNat := by omega
     rw [ih k (by omega) (by omega) fun j hj => ?_]
     ·simp only [cmpN, e3, Nat.add_lt_add_iff_right]
     ·by_cases e : j = k
      ·rw [e]; exact UInt64.toNat_inj.1 e3
      ·exact h0 j (by omega)
theorem zBT {N : Nat} {a b : List UInt64} (ha : a.length < 1000000) (hb : b.length < 1000000) (hN : max a.length b.length < N) : q61 N a b = some (cmpN (lv a) (lv b), ()) := by
 unfold q61
 rw [zyK, zBS N a b N _ hN (by omega) fun j hj => by rw [zeO (by omega), zeO (by omega)], zhf (by omega), zhf (by omega)]
theorem zc7 {x y c : UInt64} (h : c.toNat <= 1) : ∃ s d : UInt64, kAdd x y c = some (s, d) /\ d.toNat <= 1 /\ s.toNat + 18446744073709551616 * d.toNat = x.toNat + y.toNat + c.toNat := by
 have hx := x.toNat_lt
 have hy := y.toNat_lt
 refine ⟨addS x y c, addC x y c, ?_, ?_, ?_⟩
 ·unfold kAdd; rw [zaE h, cond_true]
 ·rw [addC, ofN _ (by omega)]; omega
 ·rw [addC, addS, ofN _ (by omega), ofN _ (by omega)]; omega
theorem zjG {x y c : UInt64} (h : c.toNat <= 1) : ∃ s d : UInt64, kSub x y c = some (s, d) /\ d.toNat <= 1 /\ s.toNat + y.toNat + c.toNat = x.toNat + 18446744073709551616 * d.toNat := by
 have hx := x.toNat_lt
 have hy := y.toNat_lt
 refine ⟨subS x y c, subC x y c, ?_, ?_, ?_⟩
 ·unfold kSub; rw [zaE h, cond_true]
 ·unfold subC
  cases ltN x.toNat (y.toNat + c.toNat) <;> simp
 ·rw [subS, ofN _ (Nat.mod_lt _ (by decide))]
  unfold subC
  by_cases h1 : x.toNat < y.toNat + c.toNat
  ·rw [zaB h1]; simp; omega
  ·rw [zcC h1]; simp; omega
end
section
theorem zkH (x : UInt64) (n : Nat) : (za8 x n).toNat = x.toNat / 2 ^ n := by
 unfold za8
 rw [UInt64.toNat_ofNat']
 exact Nat.mod_eq_of_lt (Nat.lt_of_le_of_lt (Nat.div_le_self _ _) x.toNat_lt)
theorem zBU (x : UInt64) : (x &&& 4294967295).toNat = x.toNat % 4294967296 := by
 rw [UInt64.toNat_and]
 exact Nat.and_two_pow_sub_one_eq_mod x.toNat 32
theorem zeP {a b c d m n : Nat} (ha : a < m) (hb : b < n) : a * b <= (m - 1) * (n - 1) := Nat.mul_le_mul (by omega) (by omega)
theorem zjH (N : Nat) (x y : UInt64) : ∃ h l : UInt64, q163 N x y = some (h, l, ()) /\ h.toNat * 18446744073709551616 + l.toNat = x.toNat * y.toNat := by
 refine ⟨_, _, rfl, ?_⟩
 have hx := x.toNat_lt
 have hy := y.toNat_lt
 simp only [UInt64.toNat_add, UInt64.toNat_mul, zkH, zBU, show (32 : UInt64).toNat = 32 from rfl]
 generalize hX : x.toNat = X at *
 generalize hY : y.toNat = Y at *
 have e1 : (2 : Nat) ^ 64 = 18446744073709551616 := by decide
 have e2 : (2 : Nat) ^ 32 = 4294967296 := by decide
 simp only [e1, e2] at *
 have hX1 : X = 4294967296 * (X / 4294967296) + X % 4294967296 := (Nat.div_add_mod X 4294967296).symm
 have hY1 : Y = 4294967296 * (Y / 4294967296) + Y % 4294967296 := (Nat.div_add_mod Y 4294967296).symm
 have b1 : X / 4294967296 < 4294967296 := by omega
 have b2 : Y / 4294967296 < 4294967296 := by omega
 have b3 : X % 4294967296 < 4294967296 := Nat.mod_lt _ (by decide)
 have b4 : Y % 4294967296 < 4294967296 := Nat.mod_lt _ (by decide)
 generalize X / 4294967296 = x1 at *
 generalize X % 4294967296 = x0 at *
 generalize Y / 4294967296 = y1 at *
 generalize Y % 4294967296 = y0 at *
 have hp : X * Y = 18446744073709551616 * (x1 * y1) + 4294967296 * (x1 * y0) + 4294967296 * (x0 * y1) + x0 * y0 := by
  rw [hX1, hY1]
  simp only [Nat.add_mul, Nat.mul_add]
  have q1 : 4294967296 * x1 * (4294967296 * y1) = 18446744073709551616 * (x1 * y1) := by
   rw [show (18446744073709551616 : Nat) = 4294967296 * 4294967296 by decide]
   simp only [Nat.mul_assoc, Nat.mul_left_comm x1]
  have q2 : 4294967296 * x1 * y0 = 4294967296 * (x1 * y0) := Nat.mul_assoc _ _ _
  have q3 : x0 * (4294967296 * y1) = 4294967296 * (x0 * y1) := Nat.mul_left_comm _ _ _
  rw [q1, q2, q3]
  omega
 have p1 := zeP (c := 0) (d := 0) b1 b2
 have p2 := zeP (c := 0) (d := 0) b1 b4
 have p3 := zeP (c := 0) (d := 0) b3 b2
 have p4 := zeP (c := 0) (d := 0) b3 b4
 rw [hp]
 generalize x1 * y1 = a at *
 generalize x1 * y0 = b at *
 generalize x0 * y1 = c at *
 generalize x0 * y0 = d at *
 omega
end
section
theorem zwC (a : List UInt64) (k : Nat) : (lv a).testBit k = ((a.getD (k / 64) 0).toNat).testBit (k % 64) := by
 induction a generalizing k with
 | nil => simp [lv]
 | cons x a ih =>
  have hx := x.toNat_lt
  have e : lv (x :: a) = 2 ^ 64 * lv a + x.toNat := by simp only [lv]; rw [Nat.add_comm]
  rw [e, Nat.testBit_two_pow_mul_add _ hx]
  split
  ·rename_i h
   rw [Nat.div_eq_of_lt h, Nat.mod_eq_of_lt h]; rfl
  ·rename_i h
   rw [ih]
   have e1 : k / 64 = (k - 64) / 64 + 1 := by omega
   have e2 : k % 64 = (k - 64) % 64 := by omega
   rw [e1, e2, List.getD_cons_succ]
theorem zmw (n k : Nat) : n / 2 ^ k % 2 = (n.testBit k).toNat := by
 rw [Nat.testBit_eq_decide_div_mod_eq]
 have := Nat.mod_two_eq_zero_or_one (n / 2 ^ k)
 rcases this with h | h <;> simp [h]
theorem zyL (x : UInt64) : (x &&& 1).toNat = x.toNat % 2 := by
 rw [UInt64.toNat_and]
 exact Nat.and_two_pow_sub_one_eq_mod x.toNat 1
theorem znK (n k : Nat) : Int.tdiv (n : Int) (k : Int) = ((n / k : Nat) : Int) := rfl
theorem zgc (n k : Nat) : Int.tmod (n : Int) (k : Int) = ((n % k : Nat) : Int) := rfl
theorem zvb {n : Nat} (h : n < 18446744073709551616) : (u64I (n : Int)).toNat = n := by
 unfold u64I
 rw [UInt64.toNat_ofNat']
 omega
end
section
theorem zyM {N : Nat} {a : List UInt64} {i : Nat} (hi : i < 1000000) : ∃ x : UInt64, q162 N a (i : Int) = some (x, ()) /\ x.toNat = lv a / 2 ^ i % 2 := by
 unfold q162
 have e1 : wr (Int.tdiv (i : Int) 64) = ((i / 64 : Nat) : Int) := by
  rw [show (64 : Int) = ((64 : Nat) : Int) from rfl, znK, zec (by omega) (by omega)]
 have e2 : Int.tmod (i : Int) 64 = ((i % 64 : Nat) : Int) := rfl
 rw [e1, e2, zqe]
 by_cases h : a.length <= i / 64
 ·rw [zaE h, cond_true]
  refine ⟨0, rfl, ?_⟩
  rw [zmw, zwC, zeO h]
  simp
 ·rw [zqf h, cond_false, zas, zbb, zaB (by omega), zdt, zqg (zas _), zqg (zab (by omega))]
  simp only [Int.toNat_natCast]
  refine ⟨_, rfl, ?_⟩
  rw [zyL, zkH, UInt64.toNat_ofNat', Nat.mod_eq_of_lt (show i % 64 < 2 ^ 64 by omega), zmw, zmw, zwC]
end
end Go.Proofs.Ytgimohchocjgcaa.V
