import Derived.Test.YtgimohchocjgcaaVWA1
import Derived.Test.YtgimohchocjgcaaVUM
import Derived.KernelRfl
import Derived.Test.YtgimohchocjgcaaVME
set_option linter.unusedVariables false
set_option linter.unusedSimpArgs false
namespace Go.Proofs.Ytgimohchocjgcaa.V
section
def q75 (N : Nat) (n0 : UInt64) : Option (Fr × Unit) :=
  some (({ a0 := n0, a1 := (0 : UInt64), a2 := (0 : UInt64), a3 := (0 : UInt64) }, ()))
theorem zCT : p75 = q75 := by
  (repeat (apply funext; intro _))
  simp only [p75, q75, ]
def q169 (N : Nat) : Option (Fr × Unit) :=
  some (({ a0 := (18446744069414584321 : UInt64), a1 := (6034159408538082302 : UInt64), a2 := (3691218898639771653 : UInt64), a3 := (8353516859464449352 : UInt64) }, ()))
theorem zAw : p169 = q169 := by
  (repeat (apply funext; intro _))
  simp only [p169, q169, ]
def zAx (N : Nat) (A_5 : UInt64 -> UInt64 -> Int -> (List UInt64) -> (List UInt64) -> (List UInt64) -> (List UInt64) -> Option (Fr × Unit)) (over1 borrow7 : UInt64) (t10 : Int) (ob0 ob1 ob2 ob3 : List UInt64) : Option (Fr × Unit) :=
  cond ((ltI t10 (4 : Int))) (must (leI (0 : Int) t10 && ltI t10 (↑(4 : Nat) : Int)) (must (leI (0 : Int) t10 && ltI t10 (↑(4 : Nat) : Int)) (Option.bind (kSub (List.getD ob0 t10.toNat (0 : UInt64)) (List.getD ob2 t10.toNat (0 : UInt64)) borrow7) fun r2 => must (leI (0 : Int) t10 && ltI t10 (↑(4 : Nat) : Int)) (A_5 over1 r2.2 ((wr (t10 + (1 : Int)))) ob0 ob1 ob2 (setL ob3 t10.toNat r2.1))))) (cond ((ltN over1.toNat borrow7.toNat)) (must (Nat.beq ob0.length (4 : Nat)) (Option.bind (Fr.of? ob0) fun r1 => some ((r1, ())))) (must (Nat.beq ob3.length (4 : Nat)) (Option.bind (Fr.of? ob3) fun r0 => some ((r0, ())))))
def zAy (N n : Nat) (over1 borrow7 : UInt64) (t10 : Int) (ob0 ob1 ob2 ob3 : List UInt64) : Option (Fr × Unit) :=
  zar (fun A x => zAx N (fun over1 borrow7 t10 ob0 ob1 ob2 ob3 => A ((over1, ((), ((), ((), ((), (borrow7, (t10, ()))))))), (ob0, (ob1, (ob2, (ob3, ())))))) x.1.1 x.1.2.2.2.2.2.1 x.1.2.2.2.2.2.2.1 x.2.1 x.2.2.1 x.2.2.2.1 x.2.2.2.2.1) n ((over1, ((), ((), ((), ((), (borrow7, (t10, ()))))))), (ob0, (ob1, (ob2, (ob3, ())))))
def q174 (N : Nat) (a0 : Fr) (over1 : UInt64) : Option (Fr × Unit) :=
  Option.bind (q169 N) fun r0 => zAy N N over1 (0 : UInt64) (0 : Int) ([Fr.a0 a0, Fr.a1 a0, Fr.a2 a0, Fr.a3 a0]) ([(0 : UInt64), (0 : UInt64), (0 : UInt64), (0 : UInt64)]) ([Fr.a0 r0.1, Fr.a1 r0.1, Fr.a2 r0.1, Fr.a3 r0.1]) ([(0 : UInt64), (0 : UInt64), (0 : UInt64), (0 : UInt64)])
def q79 (N : Nat) (a0 : Fr) : Option (Bool × Unit) :=
  Option.bind (q169 N) fun r0 => Option.bind (q61 N (List.take (Int.toNat ((↑(4 : Nat) : Int) - (0 : Int))) [Fr.a0 a0, Fr.a1 a0, Fr.a2 a0, Fr.a3 a0]) (List.take (Int.toNat ((↑(4 : Nat) : Int) - (0 : Int))) [Fr.a0 r0.1, Fr.a1 r0.1, Fr.a2 r0.1, Fr.a3 r0.1])) fun r1 => some (((ltI r1.1 (0 : Int)), ()))
theorem zAz : p79 = q79 := by
  (repeat (apply funext; intro _))
  simp only [p79, q79, hide_eq, zAw, zCA]
def q88 (N : Nat) : Option (List UInt64 × Unit) :=
  some (([(18446744069414584321 : UInt64), (6034159408538082302 : UInt64), (3691218898639771653 : UInt64), (8353516859464449352 : UInt64)], ()))
theorem zui : p88 = q88 := by
  (repeat (apply funext; intro _))
  simp only [p88, q88, ]
def zio (N : Nat) (A_2 : (List UInt64) -> (List UInt64) -> Int -> Option (Bool × Unit)) (a0 m1 : List UInt64) (i5 : Int) : Option (Bool × Unit) :=
  cond ((leI (0 : Int) i5)) (must (leI (0 : Int) i5 && ltI i5 (↑a0.length : Int)) (must (leI (0 : Int) i5 && ltI i5 (↑m1.length : Int)) (cond (!List.getD a0 i5.toNat (0 : UInt64) == List.getD m1 i5.toNat (0 : UInt64)) (must (leI (0 : Int) i5 && ltI i5 (↑a0.length : Int)) (must (leI (0 : Int) i5 && ltI i5 (↑m1.length : Int)) (some (((ltN (UInt64.toNat (List.getD a0 i5.toNat (0 : UInt64))) (UInt64.toNat (List.getD m1 i5.toNat (0 : UInt64)))), ()))))) (A_2 a0 m1 ((wr (i5 - (1 : Int)))))))) (some ((false, ())))
theorem zuj : zqF = zio := by
  (repeat (apply funext; intro _))
  simp only [zqF, zio, hide_eq]
def zip (N n : Nat) (a0 m1 : List UInt64) (i5 : Int) : Option (Bool × Unit) :=
  zar (fun A x => zio N (fun a0 m1 i5 => A ((a0, (m1, (i5, ()))), ())) x.1.1 x.1.2.1 x.1.2.2.1) n ((a0, (m1, (i5, ()))), ())
theorem zuk : zqG = zip := by
  (repeat (apply funext; intro _))
  simp only [zqG, zip, zuj]
theorem zhd (N n : Nat) (a0 m1 : List UInt64) (i5 : Int) : zip N (n + 1) a0 m1 i5 = zio N (zip N n) a0 m1 i5 := rfl
def q168 (N : Nat) (a0 m1 : List UInt64) : Option (Bool × Unit) :=
  zip N N a0 m1 ((wr ((↑m1.length : Int) - (1 : Int))))
theorem zrP : p168 = q168 := by
  (repeat (apply funext; intro _))
  simp only [p168, q168, hide_eq, zuk]
def q69 (N : Nat) (a0 : Fr) : Option (Bool × Unit) :=
  Option.bind (q88 N) fun r0 => Option.bind (q168 N (List.take (Int.toNat ((↑(4 : Nat) : Int) - (0 : Int))) [Fr.a0 a0, Fr.a1 a0, Fr.a2 a0, Fr.a3 a0]) r0.1) fun r1 => some ((Prod.fst r1, ()))
theorem zCU : p69 = q69 := by
  (repeat (apply funext; intro _))
  simp only [p69, q69, zrP, zui]
def q173 (N : Nat) (n0 : UInt64) : Option (Fr × Unit) :=
  some (({ a0 := n0, a1 := (0 : UInt64), a2 := (0 : UInt64), a3 := (0 : UInt64) }, ()))
theorem znR : p173 = q173 := by
  (repeat (apply funext; intro _))
  simp only [p173, q173, ]
def ziq (N : Nat) (A_2 : Nat -> Nat -> (List UInt64) -> UInt64 -> Int -> (List UInt64) -> Option (List UInt64 × Unit)) (t0f t0n : Nat) (m1 : List UInt64) (c4 : UInt64) (i5 : Int) (t0o : List UInt64) : Option (List UInt64 × Unit) :=
  cond ((ltI i5 (↑m1.length : Int))) (must (leI (0 : Int) i5 && ltI i5 (↑t0n : Int)) (must (leI (0 : Int) i5 && ltI i5 (↑m1.length : Int)) (Option.bind (kSub (List.getD t0o (t0f + Int.toNat i5) (0 : UInt64)) (List.getD m1 i5.toNat (0 : UInt64)) c4) fun r0 => must (leI (0 : Int) i5 && ltI i5 (↑t0n : Int)) (A_2 t0f t0n m1 r0.2 ((wr (i5 + (1 : Int)))) (setL t0o (t0f + Int.toNat i5) r0.1))))) (some ((t0o, ())))
theorem zul : zqJ = ziq := by
  (repeat (apply funext; intro _))
  simp only [zqJ, ziq, hide_eq]
def zir (N n t0f t0n : Nat) (m1 : List UInt64) (c4 : UInt64) (i5 : Int) (t0o : List UInt64) : Option (List UInt64 × Unit) :=
  zar (fun A x => ziq N (fun t0f t0n m1 c4 i5 t0o => A (((t0f, t0n), (m1, (c4, (i5, ())))), (t0o, ()))) x.1.1.1 x.1.1.2 x.1.2.1 x.1.2.2.1 x.1.2.2.2.1 x.2.1) n (((t0f, t0n), (m1, (c4, (i5, ())))), (t0o, ()))
theorem zum : zqK = zir := by
  (repeat (apply funext; intro _))
  simp only [zqK, zir, zul]
theorem zhe (N n t0f t0n : Nat) (m1 : List UInt64) (c4 : UInt64) (i5 : Int) (t0o : List UInt64) : zir N (n + 1) t0f t0n m1 c4 i5 t0o = ziq N (zir N n) t0f t0n m1 c4 i5 t0o := rfl
def q214 (N : Nat) (t0 m1 : List UInt64) : Option (List UInt64 × Unit) :=
  zir N N (0 : Nat) t0.length m1 (0 : UInt64) (0 : Int) t0
theorem zvF : p214 = q214 := by
  (repeat (apply funext; intro _))
  simp only [p214, q214, zum]
def zei (N : Nat) (A_10 : (List UInt64) -> (List UInt64) -> (List UInt64) -> Int -> UInt64 -> Int -> (List UInt64) -> Option (List UInt64 × Unit)) (A_27 : (List UInt64) -> (List UInt64) -> (List UInt64) -> Int -> UInt64 -> Int -> UInt64 -> UInt64 -> Int -> (List UInt64) -> Option (List UInt64 × Unit)) (a0 b1 m2 : List UInt64) (n7 : Int) (inv8 : UInt64) (i11 : Int) (c12 q21 : UInt64) (k24 : Int) (t10o : List UInt64) : Option (List UInt64 × Unit) :=
  cond ((ltI k24 n7)) (must (leI (0 : Int) k24 && ltI k24 (↑m2.length : Int)) (Option.bind (q163 N q21 (List.getD m2 k24.toNat (0 : UInt64))) fun r1 => must (leI (0 : Int) k24 && ltI k24 (↑t10o.length : Int)) (Option.bind (kAdd (List.getD t10o k24.toNat (0 : UInt64)) (r1.2.1) (0 : UInt64)) fun r2 => Option.bind (kAdd r2.1 c12 (0 : UInt64)) fun r3 => must (leI (0 : Int) ((wr (k24 - (1 : Int)))) && ltI ((wr (k24 - (1 : Int)))) (↑t10o.length : Int)) (A_27 a0 b1 m2 n7 inv8 i11 (((Prod.fst r1 + Prod.snd r2) + Prod.snd r3)) q21 ((wr (k24 + (1 : Int)))) (setL t10o (Int.toNat ((wr (k24 - (1 : Int))))) r3.1))))) (must (leI (0 : Int) n7 && ltI n7 (↑t10o.length : Int)) (Option.bind (kAdd (List.getD t10o n7.toNat (0 : UInt64)) c12 (0 : UInt64)) fun r0 => must (leI (0 : Int) ((wr (n7 + (1 : Int)))) && ltI ((wr (n7 + (1 : Int)))) (↑t10o.length : Int)) (must (leI (0 : Int) ((wr (n7 - (1 : Int)))) && ltI ((wr (n7 - (1 : Int)))) (↑t10o.length : Int)) (must (leI (0 : Int) n7 && ltI n7 (↑(List.length (setL t10o (Int.toNat ((wr (n7 - (1 : Int))))) r0.1)) : Int)) (A_10 a0 b1 m2 n7 inv8 ((wr (i11 + (1 : Int)))) (setL (setL t10o (Int.toNat ((wr (n7 - (1 : Int))))) r0.1) n7.toNat ((List.getD t10o (Int.toNat ((wr (n7 + (1 : Int))))) (0 : UInt64) + Prod.snd r0))))))))
theorem zrQ : zmi = zei := by
  (repeat (apply funext; intro _))
  simp only [zmi, zei, hide_eq, zvE]
def zdG (N : Nat) (A_10 : (List UInt64) -> (List UInt64) -> (List UInt64) -> Int -> UInt64 -> Int -> (List UInt64) -> Option (List UInt64 × Unit)) (n : Nat) (a0 b1 m2 : List UInt64) (n7 : Int) (inv8 : UInt64) (i11 : Int) (c12 q21 : UInt64) (k24 : Int) (t10o : List UInt64) : Option (List UInt64 × Unit) :=
  zar (fun A x => zei N A_10 (fun a0 b1 m2 n7 inv8 i11 c12 q21 k24 t10o => A ((a0, (b1, (m2, (n7, (inv8, ((), (i11, (c12, (q21, (k24, ())))))))))), (t10o, ()))) x.1.1 x.1.2.1 x.1.2.2.1 x.1.2.2.2.1 x.1.2.2.2.2.1 x.1.2.2.2.2.2.2.1 x.1.2.2.2.2.2.2.2.1 x.1.2.2.2.2.2.2.2.2.1 x.1.2.2.2.2.2.2.2.2.2.1 x.2.1) n ((a0, (b1, (m2, (n7, (inv8, ((), (i11, (c12, (q21, (k24, ())))))))))), (t10o, ()))
theorem zrR : zmj = zdG := by
  (repeat (apply funext; intro _))
  simp only [zmj, zdG, zrQ]
theorem zfW (N : Nat) (A_10 : (List UInt64) -> (List UInt64) -> (List UInt64) -> Int -> UInt64 -> Int -> (List UInt64) -> Option (List UInt64 × Unit)) (n : Nat) (a0 b1 m2 : List UInt64) (n7 : Int) (inv8 : UInt64) (i11 : Int) (c12 q21 : UInt64) (k24 : Int) (t10o : List UInt64) : zdG N A_10 (n + 1) a0 b1 m2 n7 inv8 i11 c12 q21 k24 t10o = zei N A_10 (zdG N A_10 n) a0 b1 m2 n7 inv8 i11 c12 q21 k24 t10o := rfl
def zej (N : Nat) (A_10 : (List UInt64) -> (List UInt64) -> (List UInt64) -> Int -> UInt64 -> Int -> (List UInt64) -> Option (List UInt64 × Unit)) (A_14 : (List UInt64) -> (List UInt64) -> (List UInt64) -> Int -> UInt64 -> Int -> UInt64 -> Int -> (List UInt64) -> Option (List UInt64 × Unit)) (a0 b1 m2 : List UInt64) (n7 : Int) (inv8 : UInt64) (i11 : Int) (c12 : UInt64) (k13 : Int) (t10o : List UInt64) : Option (List UInt64 × Unit) :=
  cond ((ltI k13 n7)) (must (leI (0 : Int) i11 && ltI i11 (↑a0.length : Int)) (must (leI (0 : Int) k13 && ltI k13 (↑b1.length : Int)) (Option.bind (q163 N (List.getD a0 i11.toNat (0 : UInt64)) (List.getD b1 k13.toNat (0 : UInt64))) fun r3 => must (leI (0 : Int) k13 && ltI k13 (↑t10o.length : Int)) (Option.bind (kAdd (List.getD t10o k13.toNat (0 : UInt64)) (r3.2.1) (0 : UInt64)) fun r4 => Option.bind (kAdd r4.1 c12 (0 : UInt64)) fun r5 => must (leI (0 : Int) k13 && ltI k13 (↑t10o.length : Int)) (A_14 a0 b1 m2 n7 inv8 i11 (((Prod.fst r3 + Prod.snd r4) + Prod.snd r5)) ((wr (k13 + (1 : Int)))) (setL t10o k13.toNat r5.1)))))) (must (leI (0 : Int) n7 && ltI n7 (↑t10o.length : Int)) (Option.bind (kAdd (List.getD t10o n7.toNat (0 : UInt64)) c12 (0 : UInt64)) fun r0 => must (leI (0 : Int) n7 && ltI n7 (↑t10o.length : Int)) (must (leI (0 : Int) ((wr (n7 + (1 : Int)))) && ltI ((wr (n7 + (1 : Int)))) (↑(List.length (setL t10o n7.toNat r0.1)) : Int)) (must (ltI (0 : Int) (↑(List.length (setL (setL t10o n7.toNat r0.1) (Int.toNat ((wr (n7 + (1 : Int))))) r0.2)) : Int)) (must (ltI (0 : Int) (↑m2.length : Int)) (Option.bind (q163 N ((List.getD (setL (setL t10o n7.toNat r0.1) (Int.toNat ((wr (n7 + (1 : Int))))) r0.2) (0 : Nat) (0 : UInt64) * inv8)) (List.getD m2 (0 : Nat) (0 : UInt64))) fun r1 => must (ltI (0 : Int) (↑(List.length (setL (setL t10o n7.toNat r0.1) (Int.toNat ((wr (n7 + (1 : Int))))) r0.2)) : Int)) (Option.bind (kAdd (List.getD (setL (setL t10o n7.toNat r0.1) (Int.toNat ((wr (n7 + (1 : Int))))) r0.2) (0 : Nat) (0 : UInt64)) (r1.2.1) (0 : UInt64)) fun r2 => zdG N A_10 N a0 b1 m2 n7 inv8 i11 ((Prod.fst r1 + Prod.snd r2)) ((List.getD (setL (setL t10o n7.toNat r0.1) (Int.toNat ((wr (n7 + (1 : Int))))) r0.2) (0 : Nat) (0 : UInt64) * inv8)) (1 : Int) (setL (setL t10o n7.toNat r0.1) (Int.toNat ((wr (n7 + (1 : Int))))) r0.2))))))))
theorem zrS : zmk = zej := by
  (repeat (apply funext; intro _))
  simp only [zmk, zej, hide_eq, zrR, zvE]
def zek (N : Nat) (A_10 : (List UInt64) -> (List UInt64) -> (List UInt64) -> Int -> UInt64 -> Int -> (List UInt64) -> Option (List UInt64 × Unit)) (n : Nat) (a0 b1 m2 : List UInt64) (n7 : Int) (inv8 : UInt64) (i11 : Int) (c12 : UInt64) (k13 : Int) (t10o : List UInt64) : Option (List UInt64 × Unit) :=
  zar (fun A x => zej N A_10 (fun a0 b1 m2 n7 inv8 i11 c12 k13 t10o => A ((a0, (b1, (m2, (n7, (inv8, ((), (i11, (c12, (k13, ()))))))))), (t10o, ()))) x.1.1 x.1.2.1 x.1.2.2.1 x.1.2.2.2.1 x.1.2.2.2.2.1 x.1.2.2.2.2.2.2.1 x.1.2.2.2.2.2.2.2.1 x.1.2.2.2.2.2.2.2.2.1 x.2.1) n ((a0, (b1, (m2, (n7, (inv8, ((), (i11, (c12, (k13, ()))))))))), (t10o, ()))
theorem zrT : zml = zek := by
  (repeat (apply funext; intro _))
  simp only [zml, zek, zrS]
theorem zfX (N : Nat) (A_10 : (List UInt64) -> (List UInt64) -> (List UInt64) -> Int -> UInt64 -> Int -> (List UInt64) -> Option (List UInt64 × Unit)) (n : Nat) (a0 b1 m2 : List UInt64) (n7 : Int) (inv8 : UInt64) (i11 : Int) (c12 : UInt64) (k13 : Int) (t10o : List UInt64) : zek N A_10 (n + 1) a0 b1 m2 n7 inv8 i11 c12 k13 t10o = zej N A_10 (zek N A_10 n) a0 b1 m2 n7 inv8 i11 c12 k13 t10o := rfl
def zfx (N : Nat) (A_10 : (List UInt64) -> (List UInt64) -> (List UInt64) -> Int -> UInt64 -> Int -> (List UInt64) -> Option (List UInt64 × Unit)) (a0 b1 m2 : List UInt64) (n7 : Int) (inv8 : UInt64) (i11 : Int) (t10o : List UInt64) : Option (List UInt64 × Unit) :=
  cond ((ltI i11 n7)) (zek N A_10 N a0 b1 m2 n7 inv8 i11 (0 : UInt64) (0 : Int) t10o) (must (leI (0 : Int) n7 && ltI n7 (↑t10o.length : Int)) (cond (!List.getD t10o n7.toNat (0 : UInt64) == (0 : UInt64)) (must (ltN (0 : Nat) t10o.length) (Option.bind (q214 N t10o m2) fun r2 => must (Nat.beq r2.1.length t10o.length) (must (leI (0 : Int) n7 && leI n7 (↑r2.1.length : Int)) (must (ltN (0 : Nat) (Int.toNat (n7 - (0 : Int)))) (some ((List.take (Int.toNat (n7 - (0 : Int))) r2.1, ()))))))) (must (leI (0 : Int) n7 && leI n7 (↑t10o.length : Int)) (Option.bind (q168 N (List.take (Int.toNat (n7 - (0 : Int))) t10o) m2) fun r0 => cond (!r0.1) (must (ltN (0 : Nat) t10o.length) (Option.bind (q214 N t10o m2) fun r1 => must (Nat.beq r1.1.length t10o.length) (must (leI (0 : Int) n7 && leI n7 (↑r1.1.length : Int)) (must (ltN (0 : Nat) (Int.toNat (n7 - (0 : Int)))) (some ((List.take (Int.toNat (n7 - (0 : Int))) r1.1, ()))))))) (must (leI (0 : Int) n7 && leI n7 (↑t10o.length : Int)) (must (ltN (0 : Nat) (Int.toNat (n7 - (0 : Int)))) (some ((List.take (Int.toNat (n7 - (0 : Int))) t10o, ())))))))))
theorem zrU : zmm = zfx := by
  (repeat (apply funext; intro _))
  simp only [zmm, zfx, hide_eq, zrT, zrP, zvF]
def zbF (N n : Nat) (a0 b1 m2 : List UInt64) (n7 : Int) (inv8 : UInt64) (i11 : Int) (t10o : List UInt64) : Option (List UInt64 × Unit) :=
  zar (fun A x => zfx N (fun a0 b1 m2 n7 inv8 i11 t10o => A ((a0, (b1, (m2, (n7, (inv8, ((), (i11, ()))))))), (t10o, ()))) x.1.1 x.1.2.1 x.1.2.2.1 x.1.2.2.2.1 x.1.2.2.2.2.1 x.1.2.2.2.2.2.2.1 x.2.1) n ((a0, (b1, (m2, (n7, (inv8, ((), (i11, ()))))))), (t10o, ()))
theorem zrV : zmn = zbF := by
  (repeat (apply funext; intro _))
  simp only [zmn, zbF, zrU]
theorem zfY (N n : Nat) (a0 b1 m2 : List UInt64) (n7 : Int) (inv8 : UInt64) (i11 : Int) (t10o : List UInt64) : zbF N (n + 1) a0 b1 m2 n7 inv8 i11 t10o = zfx N (zbF N n) a0 b1 m2 n7 inv8 i11 t10o := rfl
def zis (N : Nat) (A_4 : (List UInt64) -> (List UInt64) -> (List UInt64) -> Int -> UInt64 -> Int -> Option (List UInt64 × Unit)) (a0 b1 m2 : List UInt64) (n7 : Int) (inv8 : UInt64) (i9 : Int) : Option (List UInt64 × Unit) :=
  cond ((ltI i9 (6 : Int))) (must (ltI (0 : Int) (↑m2.length : Int)) (A_4 a0 b1 m2 n7 ((inv8 * ((2 : UInt64) - (List.getD m2 (0 : Nat) (0 : UInt64) * inv8)))) ((wr (i9 + (1 : Int)))))) (must (leI (0 : Int) ((wr (n7 + (2 : Int)))) && (eqI ((wr (n7 + (2 : Int)))) ((wr (n7 + (2 : Int)))) && leN (Int.toNat ((wr (n7 + (2 : Int)))) * (8 : Nat)) (140737488355328 : Nat))) (zbF N N a0 b1 m2 n7 (((0 : UInt64) - inv8)) (0 : Int) (List.replicate (Int.toNat ((wr (n7 + (2 : Int))))) (0 : UInt64))))
theorem zun : zqN = zis := by
  (repeat (apply funext; intro _))
  simp only [zqN, zis, hide_eq, zrV]
def zd5 (N n : Nat) (a0 b1 m2 : List UInt64) (n7 : Int) (inv8 : UInt64) (i9 : Int) : Option (List UInt64 × Unit) :=
  zar (fun A x => zis N (fun a0 b1 m2 n7 inv8 i9 => A ((a0, (b1, (m2, (n7, (inv8, (i9, ())))))), ())) x.1.1 x.1.2.1 x.1.2.2.1 x.1.2.2.2.1 x.1.2.2.2.2.1 x.1.2.2.2.2.2.1) n ((a0, (b1, (m2, (n7, (inv8, (i9, ())))))), ())
theorem zuo : zqO = zd5 := by
  (repeat (apply funext; intro _))
  simp only [zqO, zd5, zun]
theorem zhf (N n : Nat) (a0 b1 m2 : List UInt64) (n7 : Int) (inv8 : UInt64) (i9 : Int) : zd5 N (n + 1) a0 b1 m2 n7 inv8 i9 = zis N (zd5 N n) a0 b1 m2 n7 inv8 i9 := rfl
def q184 (N : Nat) (a0 b1 m2 : List UInt64) : Option (List UInt64 × Unit) :=
  must (ltI (0 : Int) (↑m2.length : Int)) (zd5 N N a0 b1 m2 ((↑m2.length : Int)) (List.getD m2 (0 : Nat) (0 : UInt64)) (0 : Int))
theorem zAA : p184 = q184 := by
  (repeat (apply funext; intro _))
  simp only [p184, q184, zuo]
def q175 (N : Nat) (a0 : List UInt64) : Option (Fr × Unit) :=
  must (Nat.beq (List.length (zan [(0 : UInt64), (0 : UInt64), (0 : UInt64), (0 : UInt64)] (Int.toNat (0 : Int)) (List.take (Int.toNat ((↑(4 : Nat) : Int) - (0 : Int))) a0))) (4 : Nat)) (Option.bind (Fr.of? (zan [(0 : UInt64), (0 : UInt64), (0 : UInt64), (0 : UInt64)] (Int.toNat (0 : Int)) (List.take (Int.toNat ((↑(4 : Nat) : Int) - (0 : Int))) a0))) fun r0 => some ((r0, ())))
theorem zrW : p175 = q175 := by
  (repeat (apply funext; intro _))
  simp only [p175, q175, ]
def q94 (N : Nat) (a0 b1 : Fr) : Option (Fr × Unit) :=
  Option.bind (q88 N) fun r0 => Option.bind (q184 N (List.take (Int.toNat ((↑(4 : Nat) : Int) - (0 : Int))) [Fr.a0 a0, Fr.a1 a0, Fr.a2 a0, Fr.a3 a0]) (List.take (Int.toNat ((↑(4 : Nat) : Int) - (0 : Int))) [Fr.a0 b1, Fr.a1 b1, Fr.a2 b1, Fr.a3 b1]) r0.1) fun r1 => Option.bind (q184 N (List.take r1.1.length (List.drop (0 : Nat) r1.1)) ([(14526898881837571181 : UInt64), (3129137299524312099 : UInt64), (419701826671360399 : UInt64), (524908885293268753 : UInt64)]) r0.1) fun r2 => Option.bind (q175 N (List.take r2.1.length (List.drop (0 : Nat) r2.1))) fun r3 => some (({ a0 := Fr.a0 r3.1, a1 := Fr.a1 r3.1, a2 := Fr.a2 r3.1, a3 := Fr.a3 r3.1 }, ()))
theorem zAB : p94 = q94 := by
  (repeat (apply funext; intro _))
  simp only [p94, q94, zrW, zAA, zui]
def zo2 (N : Nat) (A_3 : (List UInt64) -> Int -> (List UInt64) -> (List UInt64) -> (List UInt64) -> Option (Fr × Unit)) (e1 : List UInt64) (i6 : Int) (ob0 ob1 ob2 : List UInt64) : Option (Fr × Unit) :=
  cond ((leI (0 : Int) i6)) (Option.bind (Option.bind (Option.bind (Fr.of? ob2) fun r1 => Option.bind (Option.bind (Fr.of? ob2) fun r2 => some ((r2, ()))) fun r3 => some ((r1, r3))) fun r4 => q94 N r4.1 (r4.2.1)) fun r5 => Option.bind (q162 N e1 i6) fun r6 => cond ((Prod.fst r6 == (1 : UInt64))) (Option.bind (Option.bind (Option.bind (Option.bind (Fr.of? ob0) fun r7 => some ((r7, ()))) fun r8 => some (({ a0 := Fr.a0 r5.1, a1 := Fr.a1 r5.1, a2 := Fr.a2 r5.1, a3 := Fr.a3 r5.1 }, r8))) fun r9 => q94 N r9.1 (r9.2.1)) fun r10 => A_3 e1 ((wr (i6 - (1 : Int)))) ob0 ob1 ([Fr.a0 r10.1, Fr.a1 r10.1, Fr.a2 r10.1, Fr.a3 r10.1])) (A_3 e1 ((wr (i6 - (1 : Int)))) ob0 ob1 ([Fr.a0 r5.1, Fr.a1 r5.1, Fr.a2 r5.1, Fr.a3 r5.1]))) (must (Nat.beq ob2.length (4 : Nat)) (Option.bind (Fr.of? ob2) fun r0 => some ((r0, ()))))
theorem zxy : zw1 = zo2 := by
  (repeat (apply funext; intro _))
  simp only [zw1, zo2, hide_eq, zAv, zAB]
def zo3 (N n : Nat) (e1 : List UInt64) (i6 : Int) (ob0 ob1 ob2 : List UInt64) : Option (Fr × Unit) :=
  zar (fun A x => zo2 N (fun e1 i6 ob0 ob1 ob2 => A ((e1, ((), ((), ((), (i6, ()))))), (ob0, (ob1, (ob2, ()))))) x.1.1 x.1.2.2.2.2.1 x.2.1 x.2.2.1 x.2.2.2.1) n ((e1, ((), ((), ((), (i6, ()))))), (ob0, (ob1, (ob2, ()))))
theorem zxz : zw2 = zo3 := by
  (repeat (apply funext; intro _))
  simp only [zw2, zo3, zxy]
theorem zit (N n : Nat) (e1 : List UInt64) (i6 : Int) (ob0 ob1 ob2 : List UInt64) : zo3 N (n + 1) e1 i6 ob0 ob1 ob2 = zo2 N (zo3 N n) e1 i6 ob0 ob1 ob2 := rfl
def q73 (N : Nat) (a0 : Fr) (e1 : List UInt64) : Option (Fr × Unit) :=
  Option.bind (q173 N (1 : UInt64)) fun r0 => zo3 N N e1 ((wr ((wr ((64 : Int) * (↑e1.length : Int))) - (1 : Int)))) ([Fr.a0 a0, Fr.a1 a0, Fr.a2 a0, Fr.a3 a0]) ([(0 : UInt64), (0 : UInt64), (0 : UInt64), (0 : UInt64)]) ([Fr.a0 r0.1, Fr.a1 r0.1, Fr.a2 r0.1, Fr.a3 r0.1])
theorem zCV : p73 = q73 := by
  (repeat (apply funext; intro _))
  simp only [p73, q73, hide_eq, zxz, znR]
def zxA (N : Nat) (A_4 : UInt64 -> Int -> (List UInt64) -> (List UInt64) -> (List UInt64) -> (List UInt64) -> Option (Fr × Unit)) (carry6 : UInt64) (t8 : Int) (ob0 ob1 ob2 ob3 : List UInt64) : Option (Fr × Unit) :=
  cond ((ltI t8 (4 : Int))) (must (leI (0 : Int) t8 && ltI t8 (↑(4 : Nat) : Int)) (must (leI (0 : Int) t8 && ltI t8 (↑(4 : Nat) : Int)) (Option.bind (kAdd (List.getD ob0 t8.toNat (0 : UInt64)) (List.getD ob1 t8.toNat (0 : UInt64)) carry6) fun r3 => must (leI (0 : Int) t8 && ltI t8 (↑(4 : Nat) : Int)) (A_4 r3.2 ((wr (t8 + (1 : Int)))) ob0 ob1 ob2 (setL ob3 t8.toNat r3.1))))) (Option.bind (Option.bind (Option.bind (Fr.of? ob3) fun r0 => some ((r0, carry6, ()))) fun r1 => q174 N r1.1 (r1.2.1)) fun r2 => some (({ a0 := Fr.a0 r2.1, a1 := Fr.a1 r2.1, a2 := Fr.a2 r2.1, a3 := Fr.a3 r2.1 }, ())))
def zup (N n : Nat) (carry6 : UInt64) (t8 : Int) (ob0 ob1 ob2 ob3 : List UInt64) : Option (Fr × Unit) :=
  zar (fun A x => zxA N (fun carry6 t8 ob0 ob1 ob2 ob3 => A (((), ((), ((), ((), (carry6, (t8, ())))))), (ob0, (ob1, (ob2, (ob3, ())))))) x.1.2.2.2.2.1 x.1.2.2.2.2.2.1 x.2.1 x.2.2.1 x.2.2.2.1 x.2.2.2.2.1) n (((), ((), ((), ((), (carry6, (t8, ())))))), (ob0, (ob1, (ob2, (ob3, ())))))
theorem zo4 (N n : Nat) (carry6 : UInt64) (t8 : Int) (ob0 ob1 ob2 ob3 : List UInt64) : zup N (n + 1) carry6 t8 ob0 ob1 ob2 ob3 = zxA N (zup N n) carry6 t8 ob0 ob1 ob2 ob3 := rfl
def ziu (N : Nat) (A_4 : (List UInt64) -> (List UInt64) -> (List UInt64) -> UInt64 -> Int -> (List UInt64) -> Option (List UInt64 × Unit)) (a0 b1 m2 : List UInt64) (c8 : UInt64) (i9 : Int) (t7o : List UInt64) : Option (List UInt64 × Unit) :=
  cond ((ltI i9 (↑m2.length : Int))) (must (leI (0 : Int) i9 && ltI i9 (↑a0.length : Int)) (must (leI (0 : Int) i9 && ltI i9 (↑b1.length : Int)) (Option.bind (kAdd (List.getD a0 i9.toNat (0 : UInt64)) (List.getD b1 i9.toNat (0 : UInt64)) c8) fun r3 => must (leI (0 : Int) i9 && ltI i9 (↑t7o.length : Int)) (A_4 a0 b1 m2 r3.2 ((wr (i9 + (1 : Int)))) (setL t7o i9.toNat r3.1))))) (cond ((c8 == (1 : UInt64))) (must (ltN (0 : Nat) t7o.length) (Option.bind (q214 N t7o m2) fun r2 => must (Nat.beq r2.1.length t7o.length) (some ((Prod.fst r2, ()))))) (Option.bind (q168 N t7o m2) fun r0 => cond (!r0.1) (must (ltN (0 : Nat) t7o.length) (Option.bind (q214 N t7o m2) fun r1 => must (Nat.beq r1.1.length t7o.length) (some ((Prod.fst r1, ()))))) (some ((t7o, ())))))
theorem zuq : zqR = ziu := by
  (repeat (apply funext; intro _))
  simp only [zqR, ziu, hide_eq, zrP, zvF]
def zfZ (N n : Nat) (a0 b1 m2 : List UInt64) (c8 : UInt64) (i9 : Int) (t7o : List UInt64) : Option (List UInt64 × Unit) :=
  zar (fun A x => ziu N (fun a0 b1 m2 c8 i9 t7o => A ((a0, (b1, (m2, ((), (c8, (i9, ())))))), (t7o, ()))) x.1.1 x.1.2.1 x.1.2.2.1 x.1.2.2.2.2.1 x.1.2.2.2.2.2.1 x.2.1) n ((a0, (b1, (m2, ((), (c8, (i9, ())))))), (t7o, ()))
theorem zur : zqS = zfZ := by
  (repeat (apply funext; intro _))
  simp only [zqS, zfZ, zuq]
theorem zhg (N n : Nat) (a0 b1 m2 : List UInt64) (c8 : UInt64) (i9 : Int) (t7o : List UInt64) : zfZ N (n + 1) a0 b1 m2 c8 i9 t7o = ziu N (zfZ N n) a0 b1 m2 c8 i9 t7o := rfl
def q176 (N : Nat) (a0 b1 m2 : List UInt64) : Option (List UInt64 × Unit) :=
  must (eqI (↑m2.length : Int) (↑m2.length : Int) && leN (Int.toNat (↑m2.length : Int) * (8 : Nat)) (140737488355328 : Nat)) (zfZ N N a0 b1 m2 (0 : UInt64) (0 : Int) (List.replicate (Int.toNat (↑m2.length : Int)) (0 : UInt64)))
theorem zAC : p176 = q176 := by
  (repeat (apply funext; intro _))
  simp only [p176, q176, zur]
def q81 (N : Nat) (a0 b1 : Fr) : Option (Fr × Unit) :=
  Option.bind (q88 N) fun r0 => Option.bind (q176 N (List.take (Int.toNat ((↑(4 : Nat) : Int) - (0 : Int))) [Fr.a0 a0, Fr.a1 a0, Fr.a2 a0, Fr.a3 a0]) (List.take (Int.toNat ((↑(4 : Nat) : Int) - (0 : Int))) [Fr.a0 b1, Fr.a1 b1, Fr.a2 b1, Fr.a3 b1]) r0.1) fun r1 => Option.bind (q175 N r1.1) fun r2 => some (({ a0 := Fr.a0 r2.1, a1 := Fr.a1 r2.1, a2 := Fr.a2 r2.1, a3 := Fr.a3 r2.1 }, ()))
theorem zCW : p81 = q81 := by
  (repeat (apply funext; intro _))
  simp only [p81, q81, zrW, zAC, zui]
def zfy (N : Nat) (A_10 : (List UInt64) -> UInt64 -> Int -> (List UInt64) -> Option (List UInt64 × Unit)) (m2 : List UInt64) (c8 : UInt64) (i10 : Int) (t7o : List UInt64) : Option (List UInt64 × Unit) :=
  cond ((ltI i10 (↑m2.length : Int))) (must (leI (0 : Int) i10 && ltI i10 (↑t7o.length : Int)) (must (leI (0 : Int) i10 && ltI i10 (↑m2.length : Int)) (Option.bind (kAdd (List.getD t7o i10.toNat (0 : UInt64)) (List.getD m2 i10.toNat (0 : UInt64)) c8) fun r0 => must (leI (0 : Int) i10 && ltI i10 (↑t7o.length : Int)) (A_10 m2 r0.2 ((wr (i10 + (1 : Int)))) (setL t7o i10.toNat r0.1))))) (some ((t7o, ())))
theorem zrX : zmp = zfy := by
  (repeat (apply funext; intro _))
  simp only [zmp, zfy, hide_eq]
def zfz (N n : Nat) (m2 : List UInt64) (c8 : UInt64) (i10 : Int) (t7o : List UInt64) : Option (List UInt64 × Unit) :=
  zar (fun A x => zfy N (fun m2 c8 i10 t7o => A ((m2, ((), (c8, (i10, ())))), (t7o, ()))) x.1.1 x.1.2.2.1 x.1.2.2.2.1 x.2.1) n ((m2, ((), (c8, (i10, ())))), (t7o, ()))
theorem zrY : zmq = zfz := by
  (repeat (apply funext; intro _))
  simp only [zmq, zfz, zrX]
theorem zf0 (N n : Nat) (m2 : List UInt64) (c8 : UInt64) (i10 : Int) (t7o : List UInt64) : zfz N (n + 1) m2 c8 i10 t7o = zfy N (zfz N n) m2 c8 i10 t7o := rfl
def ziv (N : Nat) (A_4 : (List UInt64) -> (List UInt64) -> (List UInt64) -> UInt64 -> Int -> (List UInt64) -> Option (List UInt64 × Unit)) (a0 b1 m2 : List UInt64) (c8 : UInt64) (i9 : Int) (t7o : List UInt64) : Option (List UInt64 × Unit) :=
  cond ((ltI i9 (↑m2.length : Int))) (must (leI (0 : Int) i9 && ltI i9 (↑a0.length : Int)) (must (leI (0 : Int) i9 && ltI i9 (↑b1.length : Int)) (Option.bind (kSub (List.getD a0 i9.toNat (0 : UInt64)) (List.getD b1 i9.toNat (0 : UInt64)) c8) fun r0 => must (leI (0 : Int) i9 && ltI i9 (↑t7o.length : Int)) (A_4 a0 b1 m2 r0.2 ((wr (i9 + (1 : Int)))) (setL t7o i9.toNat r0.1))))) (cond ((c8 == (1 : UInt64))) (zfz N N m2 (0 : UInt64) (0 : Int) t7o) (some ((t7o, ()))))
theorem zus : zqU = ziv := by
  (repeat (apply funext; intro _))
  simp only [zqU, ziv, hide_eq, zrY]
def zf1 (N n : Nat) (a0 b1 m2 : List UInt64) (c8 : UInt64) (i9 : Int) (t7o : List UInt64) : Option (List UInt64 × Unit) :=
  zar (fun A x => ziv N (fun a0 b1 m2 c8 i9 t7o => A ((a0, (b1, (m2, ((), (c8, (i9, ())))))), (t7o, ()))) x.1.1 x.1.2.1 x.1.2.2.1 x.1.2.2.2.2.1 x.1.2.2.2.2.2.1 x.2.1) n ((a0, (b1, (m2, ((), (c8, (i9, ())))))), (t7o, ()))
theorem zut : zqV = zf1 := by
  (repeat (apply funext; intro _))
  simp only [zqV, zf1, zus]
theorem zhh (N n : Nat) (a0 b1 m2 : List UInt64) (c8 : UInt64) (i9 : Int) (t7o : List UInt64) : zf1 N (n + 1) a0 b1 m2 c8 i9 t7o = ziv N (zf1 N n) a0 b1 m2 c8 i9 t7o := rfl
def q177 (N : Nat) (a0 b1 m2 : List UInt64) : Option (List UInt64 × Unit) :=
  must (eqI (↑m2.length : Int) (↑m2.length : Int) && leN (Int.toNat (↑m2.length : Int) * (8 : Nat)) (140737488355328 : Nat)) (zf1 N N a0 b1 m2 (0 : UInt64) (0 : Int) (List.replicate (Int.toNat (↑m2.length : Int)) (0 : UInt64)))
theorem zAD : p177 = q177 := by
  (repeat (apply funext; intro _))
  simp only [p177, q177, zut]
def q83 (N : Nat) (a0 b1 : Fr) : Option (Fr × Unit) :=
  Option.bind (q88 N) fun r0 => Option.bind (q177 N (List.take (Int.toNat ((↑(4 : Nat) : Int) - (0 : Int))) [Fr.a0 a0, Fr.a1 a0, Fr.a2 a0, Fr.a3 a0]) (List.take (Int.toNat ((↑(4 : Nat) : Int) - (0 : Int))) [Fr.a0 b1, Fr.a1 b1, Fr.a2 b1, Fr.a3 b1]) r0.1) fun r1 => Option.bind (q175 N r1.1) fun r2 => some (({ a0 := Fr.a0 r2.1, a1 := Fr.a1 r2.1, a2 := Fr.a2 r2.1, a3 := Fr.a3 r2.1 }, ()))
theorem zCX : p83 = q83 := by
  (repeat (apply funext; intro _))
  simp only [p83, q83, zrW, zAD, zui]
def q85 (N : Nat) (a0 : Fr) : Option (Fr × Unit) :=
  Option.bind (q83 N ({ a0 := (0 : UInt64), a1 := (0 : UInt64), a2 := (0 : UInt64), a3 := (0 : UInt64) }) ({ a0 := Fr.a0 a0, a1 := Fr.a1 a0, a2 := Fr.a2 a0, a3 := Fr.a3 a0 })) fun r0 => some (({ a0 := Fr.a0 r0.1, a1 := Fr.a1 r0.1, a2 := Fr.a2 r0.1, a3 := Fr.a3 r0.1 }, ()))
theorem zCY : p85 = q85 := by
  (repeat (apply funext; intro _))
  simp only [p85, q85, zCX]
def q203 (N : Nat) (l0 : List UInt64) : Option (Fr × Unit) :=
  must (Nat.beq (List.length (zan [(0 : UInt64), (0 : UInt64), (0 : UInt64), (0 : UInt64)] (Int.toNat (0 : Int)) (List.take (Int.toNat ((↑(4 : Nat) : Int) - (0 : Int))) l0))) (4 : Nat)) (Option.bind (Fr.of? (zan [(0 : UInt64), (0 : UInt64), (0 : UInt64), (0 : UInt64)] (Int.toNat (0 : Int)) (List.take (Int.toNat ((↑(4 : Nat) : Int) - (0 : Int))) l0))) fun r0 => some ((r0, ())))
theorem zAE : p203 = q203 := by
  (repeat (apply funext; intro _))
  simp only [p203, q203, ]
def q122 (N : Nat) (b0 : List UInt8) : Option (Fr × Int × Unit) :=
  cond ((ltI (↑b0.length : Int) (32 : Int))) (some (({ a0 := (0 : UInt64), a1 := (0 : UInt64), a2 := (0 : UInt64), a3 := (0 : UInt64) }, (2 : Int), ()))) (cond ((ltI (32 : Int) (↑b0.length : Int))) (some (({ a0 := (0 : UInt64), a1 := (0 : UInt64), a2 := (0 : UInt64), a3 := (0 : UInt64) }, (8 : Int), ()))) (Option.bind (q59 N b0) fun r0 => Option.bind (q203 N r0.1) fun r1 => Option.bind (q79 N ({ a0 := Fr.a0 r1.1, a1 := Fr.a1 r1.1, a2 := Fr.a2 r1.1, a3 := Fr.a3 r1.1 })) fun r2 => cond (!r2.1) (some (({ a0 := (0 : UInt64), a1 := (0 : UInt64), a2 := (0 : UInt64), a3 := (0 : UInt64) }, (4 : Int), ()))) (some (({ a0 := Fr.a0 r1.1, a1 := Fr.a1 r1.1, a2 := Fr.a2 r1.1, a3 := Fr.a3 r1.1 }, (0 : Int), ())))))
theorem zAF : p122 = q122 := by
  (repeat (apply funext; intro _))
  simp only [p122, q122, hide_eq, zAE, zCI, zAz]
def q124 (N : Nat) (a0 : Fr) : Option (List UInt8 × Unit) :=
  Option.bind (q57 N (List.take (Int.toNat ((↑(4 : Nat) : Int) - (0 : Int))) [Fr.a0 a0, Fr.a1 a0, Fr.a2 a0, Fr.a3 a0]) (32 : Int)) fun r0 => some ((Prod.fst r0, ()))
theorem zAG : p124 = q124 := by
  (repeat (apply funext; intro _))
  simp only [p124, q124, zCH]
def q125 (N : Nat) (a0 : Fr) : Option (List UInt8 × Unit) :=
  Option.bind (q58 N (List.take (Int.toNat ((↑(4 : Nat) : Int) - (0 : Int))) [Fr.a0 a0, Fr.a1 a0, Fr.a2 a0, Fr.a3 a0]) (32 : Int)) fun r0 => some ((Prod.fst r0, ()))
end
section
def lv : List UInt64 -> Nat
  | [] => 0
  | x :: l => x.toNat + 18446744073709551616 * lv l
def cutL : List UInt64 -> List UInt64
  | [] => []
  | x :: l => match cutL l with
    | [] => if x = 0 then [] else [x]
    | y :: r => x :: y :: r
theorem zmI (l : List UInt64) : lv (cutL l) = lv l := by
  induction l with
  | nil => rfl
  | cons x l ih =>
    simp only [cutL]
    split
    . rename_i h
      rw [h] at ih
      have ih : 0 = lv l := ih
      split
      . rename_i h2; subst h2; simp [lv, ← ih]
      . simp [lv, ← ih]
    . rename_i y r h
      rw [h] at ih
      simp only [lv] at ih ⊢
      omega
theorem zkW {l : List UInt64} (h : lv l = 0) : cutL l = [] := by
  induction l with
  | nil => rfl
  | cons x l ih =>
    simp only [lv] at h
    have h1 : x.toNat = 0 := by omega
    have h2 : x = 0 := UInt64.toNat_inj.1 (by simpa using h1)
    simp [cutL, ih (by omega), h2]
theorem zrZ {l m : List UInt64} (h : lv l = lv m) : cutL l = cutL m := by
  induction l generalizing m with
  | nil => rw [zkW (l := m) (by rw [← h]; rfl)]; rfl
  | cons x l ih =>
    cases m with
    | nil => rw [zkW (l := x :: l) (by rw [h]; rfl)]; rfl
    | cons y m =>
      simp only [lv] at h
      have hx := x.toNat_lt
      have hy := y.toNat_lt
      have h1 : x.toNat = y.toNat := by omega
      have h2 : x = y := UInt64.toNat_inj.1 h1
      subst h2
      simp only [cutL, ih (m := m) (by omega)]
def Nrm (l : List UInt64) : Prop := cutL l = l
theorem zuu (l : List UInt64) : Nrm (cutL l) := zrZ (zmI l)
theorem zav (l : List UInt64) (i : Nat) : lv (l.take (i + 1)) = lv (l.take i) + 18446744073709551616 ^ i * (l.getD i 0).toNat := by
  induction l generalizing i with
  | nil => simp [lv]
  | cons x l ih =>
    cases i with
    | zero => simp [lv]
    | succ i =>
      simp only [List.take_succ_cons, lv, ih i, List.getD_cons_succ, Nat.pow_succ]
      generalize 18446744073709551616 ^ i = p
      rw [Nat.mul_add, Nat.add_assoc]
      congr 2
      rw [Nat.mul_comm p 18446744073709551616, Nat.mul_assoc]
theorem zhi {l : List UInt64} {n : Nat} (h : l.length <= n) : lv (l.take n) = lv l := by
  rw [List.take_of_length_le h]
theorem zmJ (l : List UInt64) : lv l < 18446744073709551616 ^ l.length := by
  induction l with
  | nil => simp [lv]
  | cons x l ih =>
    have hx := x.toNat_lt
    simp only [lv, List.length_cons, Nat.pow_succ]
    have h2 : 18446744073709551616 * (lv l + 1) <= 18446744073709551616 * 18446744073709551616 ^ l.length := Nat.mul_le_mul_left _ ih
    rw [Nat.mul_comm (18446744073709551616 ^ l.length)]
    omega
theorem zcB (l : List UInt64) (i : Nat) : lv (l.take i) < 18446744073709551616 ^ i := by
  refine Nat.lt_of_lt_of_le (zmJ _) (Nat.pow_le_pow_right (by decide) ?_)
  rw [List.length_take]; omega
theorem zaB {α : Type} (l : List α) (i : Nat) (x : α) : (setL l i x).length = l.length := by
  induction l generalizing i with
  | nil => rfl
  | cons y l ih => cases i <;> simp [setL, ih]
theorem zeZ {α : Type} (l : List α) {i j : Nat} (x : α) (h : j <= i) : (setL l i x).take j = l.take j := by
  induction l generalizing i j with
  | nil => rfl
  | cons y l ih =>
    cases j with
    | zero => rfl
    | succ j => cases i with
      | zero => omega
      | succ i => simp [setL, ih (Nat.le_of_succ_le_succ h)]
theorem zbg {α : Type} (l : List α) (i j : Nat) (x d : α) : (setL l i x).getD j d = if j = i /\ i < l.length then x else l.getD j d := by
  induction l generalizing i j with
  | nil => simp [setL]
  | cons y l ih =>
    cases i with
    | zero => cases j <;> simp [setL]
    | succ i => cases j with
      | zero => simp [setL]
      | succ j => simp only [setL, List.getD_cons_succ, ih, Nat.add_right_cancel_iff, List.length_cons, Nat.add_lt_add_iff_right]
theorem zbd (l : List UInt64) {i : Nat} (x : UInt64) (h : i < l.length) : lv ((setL l i x).take (i + 1)) = lv (l.take i) + 18446744073709551616 ^ i * x.toNat := by
  rw [zav, zeZ l x (Nat.le_refl i), zbg, if_pos ⟨rfl, h⟩]
theorem zcn {l : List UInt64} {i : Nat} (h : l.length <= i) : l.getD i 0 = 0 := by
  rw [List.getD_eq_getElem?_getD, List.getElem?_eq_none h]; rfl
theorem zkX (a : List UInt64) (k : Nat) (hk : k <= a.length) (h0 : ∀ j, k <= j -> a.getD j 0 = 0) (h1 : k = 0 \/ a.getD (k - 1) 0 ≠ 0) : cutL a = a.take k := by
  induction a generalizing k with
  | nil => simp [cutL]
  | cons x l ih =>
    cases k with
    | zero =>
      have hx : x = 0 := by simpa using h0 0 (Nat.le_refl _)
      have hl : cutL l = [] := by
        rw [ih 0 (Nat.zero_le _) (fun j _ => by simpa using h0 (j + 1) (Nat.zero_le _)) (.inl rfl)]; rfl
      simp [cutL, hl, hx]
    | succ k =>
      have hl : cutL l = l.take k := by
        refine ih k (by simpa using hk) (fun j hj => by simpa using h0 (j + 1) (by omega)) ?_
        cases k with
        | zero => exact .inl rfl
        | succ k => right; rcases h1 with h1 | h1
                    . omega
                    . simpa using h1
      rw [List.take_succ_cons]
      cases k with
      | zero =>
        have hx : x ≠ 0 := by
          rcases h1 with h1 | h1
          . omega
          . simpa using h1
        simp only [cutL, hl, List.take_zero, if_neg hx]
      | succ k =>
        cases l with
        | nil => simp at hk
        | cons y l => simp only [cutL] at hl ⊢; rw [hl]; rfl
theorem zjK {k : Nat} (h : k < 9223372036854775807) : wr (((k + 1 : Nat) : Int) - 1) = (k : Int) := by
  rw [zbD (by omega) (by omega)]; omega
theorem zxB (a b : Nat) : mxI (a : Int) (b : Int) = ((max a b : Nat) : Int) := by
  unfold mxI
  rw [za4]
  by_cases h : a < b
  . rw [zax h, cond_true]; congr 1; omega
  . rw [zby h, cond_false]; congr 1; omega
theorem zuv (b : List UInt64) (n : Nat) : lv b = lv (b.take n) + 18446744073709551616 ^ n * lv (b.drop n) := by
  induction n generalizing b with
  | zero => simp [lv]
  | succ n ih =>
    cases b with
    | nil => simp [lv]
    | cons x b =>
      have := ih b
      simp only [lv, List.take_succ_cons, List.drop_succ_cons, Nat.pow_succ]
      generalize 18446744073709551616 ^ n = p at this ⊢
      rw [Nat.mul_comm p 18446744073709551616, Nat.mul_assoc]
      generalize p * lv (List.drop n b) = q at this ⊢
      omega
theorem ze0 (l : List UInt64) : (cutL l).length <= l.length := by
  induction l with
  | nil => exact Nat.le_refl _
  | cons x l ih =>
    simp only [cutL]
    split
    . split <;> simp
    . rename_i y r h
      rw [h] at ih
      simp only [List.length_cons] at ih ⊢
      omega
theorem zxC {s : List UInt64} (h : Nrm s) {k : Nat} (hk : lv s < 18446744073709551616 ^ k) : s.length <= k := by
  have h1 := zuv s k
  have hz : lv (s.drop k) = 0 := by
    cases hz : lv (s.drop k) with
    | zero => rfl
    | succ z =>
      rw [hz, Nat.mul_add] at h1
      generalize 18446744073709551616 ^ k = p at hk h1
      omega
  rw [hz] at h1
  have h2 : cutL (s.take k) = s := (zrZ (by omega)).trans h
  have h3 := ze0 (s.take k)
  rw [h2, List.length_take] at h3
  omega
end
section
theorem zr0 (N : Nat) (a : List UInt64) (i : Nat) : q160 N a (i : Int) = some (a.getD i 0, ()) := by
  unfold q160
  rw [za4]
  by_cases h : i < a.length
  . rw [zax h, cond_true, zaq, Bool.true_and, zdw rfl]
    rfl
  . rw [zby h, cond_false, zcn (by omega)]
theorem zxD (N : Nat) (a : List UInt64) (ha : a.length * 8 <= 140737488355328) : ∀ n k : Nat, k <= a.length -> k < n -> (∀ j, k <= j -> a.getD j 0 = 0) -> zin N n a (k : Int) = some (cutL a, ()) := by
  intro n
  induction n with
  | zero => intro k _ h; omega
  | succ n ih =>
    intro k hk hn h0
    rw [zmG]
    unfold zkS
    have fin : (k = 0 \/ a.getD (k - 1) 0 ≠ 0) -> must (leI 0 (k : Int) && leI (k : Int) (a.length : Int)) (must (leN ((0 + (List.take (Int.toNat ((k : Int) - 0)) a).length) * 8) 140737488355328) (some (List.take (Int.toNat ((k : Int) - 0)) a, ()))) = some (cutL a, ()) := fun h1 => by
      have e1 : Int.toNat ((k : Int) - 0) = k := by omega
      rw [e1, zaq, zjy, zay hk, zbE, zdw (zay (by rw [List.length_take]; omega)), zkX a k hk h0 h1]
    cases k with
    | zero =>
      rw [show ltI 0 ((0 : Nat) : Int) = false from rfl, cond_false]
      exact fin (.inl rfl)
    | succ k =>
      rw [zae (by omega), cond_true, zjK (by omega), zaq, za4, zax (by omega), zbE]
      simp only [Int.toNat_natCast]
      by_cases hz : a.getD k 0 = 0
      . rw [hz]
        simp only [beq_self_eq_true, cond_true]
        refine ih k (by omega) (by omega) fun j hj => ?_
        by_cases e : j = k
        . rw [e]; exact hz
        . exact h0 j (by omega)
      . rw [beq_eq_false_iff_ne.2 hz, cond_false]
        exact fin (.inr hz)
theorem zr1 {N : Nat} {a : List UInt64} (ha : a.length < 1000000) (hN : a.length < N) : q158 N a = some (cutL a, ()) := by
  unfold q158
  exact zxD N a (by omega) N a.length (Nat.le_refl _) hN fun j hj => zcn hj
def cmpN (a b : Nat) : Int := if a < b then -1 else if b < a then 1 else 0
theorem zAH (N : Nat) (a b : List UInt64) : ∀ n k : Nat, k < n -> k < 9223372036854775807 -> (∀ j, k <= j -> a.getD j 0 = b.getD j 0) -> zdT N n a b (k : Int) = some (cmpN (lv (a.take k)) (lv (b.take k)), ()) := by
  intro n
  induction n with
  | zero => intro k h; omega
  | succ n ih =>
    intro k hn hb h0
    rw [zjJ]
    unfold zeY
    cases k with
    | zero =>
      rw [show wr (((0 : Nat) : Int) - 1) = -1 from zbD (by omega) (by omega), show ltI (-1) 0 = true from rfl, cond_true]
      simp [cmpN, lv]
    | succ k =>
      rw [zjK (by omega), zjz, cond_false, zr0, zr0, zav, zav]
      simp only [Option.bind_some]
      have h1 := zcB a k
      have h2 := zcB b k
      generalize 18446744073709551616 ^ k = p at h1 h2 ⊢
      by_cases e1 : (a.getD k 0).toNat < (b.getD k 0).toNat
      . rw [zax e1, cond_true]
        have : p * ((a.getD k 0).toNat + 1) <= p * (b.getD k 0).toNat := Nat.mul_le_mul_left _ e1
        rw [Nat.mul_add] at this
        simp only [cmpN]
        rw [if_pos (by omega)]
      . rw [zby e1, cond_false]
        by_cases e2 : (b.getD k 0).toNat < (a.getD k 0).toNat
        . rw [zax e2, cond_true]
          have : p * ((b.getD k 0).toNat + 1) <= p * (a.getD k 0).toNat := Nat.mul_le_mul_left _ e2
          rw [Nat.mul_add] at this
          simp only [cmpN]
          rw [if_neg (by omega), if_pos (by omega)]
        . rw [zby e2, cond_false]
          have e3 : (a.getD k 0).toNat = (b.getD k 0).toNat := by omega
          rw [ih k (by omega) (by omega) fun j hj => ?_]
          . simp only [cmpN, e3, Nat.add_lt_add_iff_right]
          . by_cases e : j = k
            . rw [e]; exact UInt64.toNat_inj.1 e3
            . exact h0 j (by omega)
theorem zAI {N : Nat} {a b : List UInt64} (ha : a.length < 1000000) (hb : b.length < 1000000) (hN : max a.length b.length < N) : q61 N a b = some (cmpN (lv a) (lv b), ()) := by
  unfold q61
  rw [zxB, zAH N a b N _ hN (by omega) fun j hj => by rw [zcn (by omega), zcn (by omega)], zhi (by omega), zhi (by omega)]
theorem zfA {x y c : UInt64} (h : c.toNat <= 1) : ∃ s d : UInt64, kAdd x y c = some (s, d) /\ d.toNat <= 1 /\ s.toNat + 18446744073709551616 * d.toNat = x.toNat + y.toNat + c.toNat := by
  have hx := x.toNat_lt
  have hy := y.toNat_lt
  refine ⟨addS x y c, addC x y c, ?_, ?_, ?_⟩
  . unfold kAdd; rw [zay h, cond_true]
  . rw [addC, ofN _ (by omega)]; omega
  . rw [addC, addS, ofN _ (by omega), ofN _ (by omega)]; omega
theorem zr2 {x y c : UInt64} (h : c.toNat <= 1) : ∃ s d : UInt64, kSub x y c = some (s, d) /\ d.toNat <= 1 /\ s.toNat + y.toNat + c.toNat = x.toNat + 18446744073709551616 * d.toNat := by
  have hx := x.toNat_lt
  have hy := y.toNat_lt
  refine ⟨subS x y c, subC x y c, ?_, ?_, ?_⟩
  . unfold kSub; rw [zay h, cond_true]
  . unfold subC
    cases ltN x.toNat (y.toNat + c.toNat) <;> simp
  . rw [subS, ofN _ (Nat.mod_lt _ (by decide))]
    unfold subC
    by_cases h1 : x.toNat < y.toNat + c.toNat
    . rw [zax h1]; simp; omega
    . rw [zby h1]; simp; omega
end
section
theorem ze1 (x : UInt64) (n : Nat) : (za6 x n).toNat = x.toNat / 2 ^ n := by
  unfold za6
  rw [UInt64.toNat_ofNat']
  exact Nat.mod_eq_of_lt (Nat.lt_of_le_of_lt (Nat.div_le_self _ _) x.toNat_lt)
theorem zAJ (x : UInt64) : (x &&& 4294967295).toNat = x.toNat % 4294967296 := by
  rw [UInt64.toNat_and]
  exact Nat.and_two_pow_sub_one_eq_mod x.toNat 32
theorem ze2 {a b c d m n : Nat} (ha : a < m) (hb : b < n) : a * b <= (m - 1) * (n - 1) := Nat.mul_le_mul (by omega) (by omega)
theorem zr3 (N : Nat) (x y : UInt64) : ∃ h l : UInt64, q163 N x y = some (h, l, ()) /\ h.toNat * 18446744073709551616 + l.toNat = x.toNat * y.toNat := by
  refine ⟨_, _, rfl, ?_⟩
  have hx := x.toNat_lt
  have hy := y.toNat_lt
  simp only [UInt64.toNat_add, UInt64.toNat_mul, ze1, zAJ, show (32 : UInt64).toNat = 32 from rfl]
  generalize hX : x.toNat = X at *
  generalize hY : y.toNat = Y at *
  have e1 : (2 : Nat) ^ 64 = 18446744073709551616 := by decide
  have e2 : (2 : Nat) ^ 32 = 4294967296 := by decide
  simp only [e1, e2] at *
  have hX1 : X = 4294967296 * (X / 4294967296) + X % 4294967296 := (Nat.div_add_mod X 4294967296).symm
  have hY1 : Y = 4294967296 * (Y / 4294967296) + Y % 4294967296 := (Nat.div_add_mod Y 4294967296).symm
  have b1 : X / 4294967296 < 4294967296 := by omega
  have b2 : Y / 4294967296 < 4294967296 := by omega
  have b3 : X % 4294967296 < 4294967296 := Nat.mod_lt _ (by decide)
  have b4 : Y % 4294967296 < 4294967296 := Nat.mod_lt _ (by decide)
  generalize X / 4294967296 = x1 at *
  generalize X % 4294967296 = x0 at *
  generalize Y / 4294967296 = y1 at *
  generalize Y % 4294967296 = y0 at *
  have hp : X * Y = 18446744073709551616 * (x1 * y1) + 4294967296 * (x1 * y0) + 4294967296 * (x0 * y1) + x0 * y0 := by
    rw [hX1, hY1]
    simp only [Nat.add_mul, Nat.mul_add]
    have q1 : 4294967296 * x1 * (4294967296 * y1) = 18446744073709551616 * (x1 * y1) := by
      rw [show (18446744073709551616 : Nat) = 4294967296 * 4294967296 by decide]
      simp only [Nat.mul_assoc, Nat.mul_left_comm x1]
    have q2 : 4294967296 * x1 * y0 = 4294967296 * (x1 * y0) := Nat.mul_assoc _ _ _
    have q3 : x0 * (4294967296 * y1) = 4294967296 * (x0 * y1) := Nat.mul_left_comm _ _ _
    rw [q1, q2, q3]
    omega
  have p1 := ze2 (c := 0) (d := 0) b1 b2
  have p2 := ze2 (c := 0) (d := 0) b1 b4
  have p3 := ze2 (c := 0) (d := 0) b3 b2
  have p4 := ze2 (c := 0) (d := 0) b3 b4
  rw [hp]
  generalize x1 * y1 = a at *
  generalize x1 * y0 = b at *
  generalize x0 * y1 = c at *
  generalize x0 * y0 = d at *
  omega
theorem zuw (n : Nat) : lv (List.replicate n 0) = 0 := by
  induction n with
  | zero => rfl
  | succ n ih => rw [List.replicate_succ]; simp [lv, ih]
end
section
theorem zvG (a : List UInt64) (k : Nat) : (lv a).testBit k = ((a.getD (k / 64) 0).toNat).testBit (k % 64) := by
  induction a generalizing k with
  | nil => simp [lv]
  | cons x a ih =>
    have hx := x.toNat_lt
    have e : lv (x :: a) = 2 ^ 64 * lv a + x.toNat := by simp only [lv]; rw [Nat.add_comm]
    rw [e, Nat.testBit_two_pow_mul_add _ hx]
    split
    . rename_i h
      rw [Nat.div_eq_of_lt h, Nat.mod_eq_of_lt h]; rfl
    . rename_i h
      rw [ih]
      have e1 : k / 64 = (k - 64) / 64 + 1 := by omega
      have e2 : k % 64 = (k - 64) % 64 := by omega
      rw [e1, e2, List.getD_cons_succ]
theorem zmK (n k : Nat) : n / 2 ^ k % 2 = (n.testBit k).toNat := by
  rw [Nat.testBit_eq_decide_div_mod_eq]
  have := Nat.mod_two_eq_zero_or_one (n / 2 ^ k)
  rcases this with h | h <;> simp [h]
theorem zxE (x : UInt64) : (x &&& 1).toNat = x.toNat % 2 := by
  rw [UInt64.toNat_and]
  exact Nat.and_two_pow_sub_one_eq_mod x.toNat 1
theorem ze3 (n k : Nat) : Int.tdiv (n : Int) (k : Int) = ((n / k : Nat) : Int) := rfl
theorem zjL {n : Nat} (h : n < 18446744073709551616) : (u64I (n : Int)).toNat = n := by
  unfold u64I
  rw [UInt64.toNat_ofNat']
  omega
end
section
theorem zxF (N : Nat) (a : List UInt64) (i : Nat) : q165 N a (i : Int) = some (a.getD i 0, ()) := by
  unfold q165
  rw [za4]
  by_cases h : i < a.length
  . rw [zax h, cond_true, zaq, Bool.true_and, zdw rfl]
    rfl
  . rw [zby h, cond_false, zcn (by omega)]
theorem zxG (N : Nat) (a : List UInt64) (ha : a.length * 8 <= 140737488355328) : ∀ n k : Nat, k <= a.length -> k < n -> (∀ j, k <= j -> a.getD j 0 = 0) -> znQ N n a (k : Int) = some (cutL a, ()) := by
  intro n
  induction n with
  | zero => intro k _ h; omega
  | succ n ih =>
    intro k hk hn h0
    rw [zmH]
    unfold zrN
    have fin : (k = 0 \/ a.getD (k - 1) 0 ≠ 0) -> must (leI 0 (k : Int) && leI (k : Int) (a.length : Int)) (must (leN ((0 + (List.take (Int.toNat ((k : Int) - 0)) a).length) * 8) 140737488355328) (some (List.take (Int.toNat ((k : Int) - 0)) a, ()))) = some (cutL a, ()) := fun h1 => by
      have e1 : Int.toNat ((k : Int) - 0) = k := by omega
      rw [e1, zaq, zjy, zay hk, zbE, zdw (zay (by rw [List.length_take]; omega)), zkX a k hk h0 h1]
    cases k with
    | zero =>
      rw [show ltI 0 ((0 : Nat) : Int) = false from rfl, cond_false]
      exact fin (.inl rfl)
    | succ k =>
      rw [zae (by omega), cond_true, zjK (by omega), zaq, za4, zax (by omega), zbE]
      simp only [Int.toNat_natCast]
      by_cases hz : a.getD k 0 = 0
      . rw [hz]
        simp only [beq_self_eq_true, cond_true]
        refine ih k (by omega) (by omega) fun j hj => ?_
        by_cases e : j = k
        . rw [e]; exact hz
        . exact h0 j (by omega)
      . rw [beq_eq_false_iff_ne.2 hz, cond_false]
        exact fin (.inr hz)
theorem zxH {N : Nat} {a : List UInt64} (ha : a.length < 1000000) (hN : a.length < N) : q161 N a = some (cutL a, ()) := by
  unfold q161
  exact zxG N a (by omega) N a.length (Nat.le_refl _) hN fun j hj => zcn hj
theorem zxI {N : Nat} {a : List UInt64} {i : Nat} (hi : i < 1000000) : ∃ x : UInt64, q162 N a (i : Int) = some (x, ()) /\ x.toNat = lv a / 2 ^ i % 2 := by
  unfold q162
  have e1 : wr (Int.tdiv (i : Int) 64) = ((i / 64 : Nat) : Int) := by
    rw [show (64 : Int) = ((64 : Nat) : Int) from rfl, ze3, zbD (by omega) (by omega)]
  have e2 : Int.tmod (i : Int) 64 = ((i % 64 : Nat) : Int) := rfl
  rw [e1, e2, zjy]
  by_cases h : a.length <= i / 64
  . rw [zay h, cond_true]
    refine ⟨0, rfl, ?_⟩
    rw [zmK, zvG, zcn h]
    simp
  . rw [zqv h, cond_false, zaq, za4, zax (by omega), zbE, zdw (zaq _), zdw (zae (by omega))]
    simp only [Int.toNat_natCast]
    refine ⟨_, rfl, ?_⟩
    rw [zxE, ze1, UInt64.toNat_ofNat', Nat.mod_eq_of_lt (show i % 64 < 2 ^ 64 by omega), zmK, zmK, zvG]
end
section
theorem mst {R : Type} {x : Option R} : must true x = x := rfl
def RR : Nat := 52435875175126190479447740508185965837690552500527637822603658699938581184513
def Binv : Nat := 12549076656233958353659347336803947287922716146853412054870763148006372261952
theorem zr4 : 18446744073709551616 ^ 4 * Binv % RR = 1 := by decide +kernel
def fv (x : Fr) : Nat := lv x.l
theorem zAK (x : Fr) : fv x < 18446744073709551616 ^ 4 := zmJ x.l
theorem zAL {x y : Fr} (h : fv x = fv y) : x = y := by
  obtain ⟨a, b, c, d⟩ := x
  obtain ⟨a', b', c', d'⟩ := y
  simp only [fv, Fr.l, lv] at h
  have h1 := a.toNat_lt
  have h2 := b.toNat_lt
  have h3 := c.toNat_lt
  have h4 := d.toNat_lt
  have h5 := a'.toNat_lt
  have h6 := b'.toNat_lt
  have h7 := c'.toNat_lt
  have h8 := d'.toNat_lt
  have e1 : a.toNat = a'.toNat := by omega
  have e2 : b.toNat = b'.toNat := by omega
  have e3 : c.toNat = c'.toNat := by omega
  have e4 : d.toNat = d'.toNat := by omega
  rw [UInt64.toNat_inj.1 e1, UInt64.toNat_inj.1 e2, UInt64.toNat_inj.1 e3, UInt64.toNat_inj.1 e4]
theorem mac' (N : Nat) (x y t c : UInt64) : ∃ hi lo, q163 N x y = some (hi, lo, ()) /\ ∃ s1 k1, kAdd t lo 0 = some (s1, k1) /\ ∃ s2 k2, kAdd s1 c 0 = some (s2, k2) /\ s2.toNat + 18446744073709551616 * (hi + k1 + k2).toNat = x.toNat * y.toNat + t.toNat + c.toNat := by
  obtain ⟨hi, lo, h1, h2⟩ := zr3 N x y
  obtain ⟨s1, k1, h3, h4, h5⟩ := zfA (x := t) (y := lo) (c := 0) (by decide)
  obtain ⟨s2, k2, h6, h7, h8⟩ := zfA (x := s1) (y := c) (c := 0) (by decide)
  refine ⟨hi, lo, h1, s1, k1, h3, s2, k2, h6, ?_⟩
  have hz : (0 : UInt64).toNat = 0 := rfl
  have hxy : x.toNat * y.toNat <= 18446744073709551615 * 18446744073709551615 := Nat.mul_le_mul (by have := x.toNat_lt; omega) (by have := y.toNat_lt; omega)
  have ht := t.toNat_lt
  have hc := c.toNat_lt
  have hs := s2.toNat_lt
  rw [hz] at h5 h8
  have e : (hi + k1 + k2).toNat = hi.toNat + k1.toNat + k2.toNat := by
    rw [UInt64.toNat_add, UInt64.toNat_add]
    omega
  rw [e]
  omega
theorem zxJ (x y : UInt64) : ∃ s d, kAdd x y 0 = some (s, d) /\ d.toNat <= 1 /\ s.toNat + 18446744073709551616 * d.toNat = x.toNat + y.toNat := by
  obtain ⟨s, d, h1, h2, h3⟩ := zfA (x := x) (y := y) (c := 0) (by decide)
  exact ⟨s, d, h1, h2, by simpa using h3⟩
end
section
def mL : List UInt64 := [18446744069414584321, 6034159408538082302, 3691218898639771653, 8353516859464449352]
theorem zkY : lv mL = RR := by decide +kernel
theorem zxK (x : UInt64) : (x * 18446744069414584319).toNat * 18446744069414584321 % 18446744073709551616 = (18446744073709551616 - x.toNat) % 18446744073709551616 := by
  have hx := x.toNat_lt
  rw [UInt64.toNat_mul, show UInt64.toNat 18446744069414584319 = 18446744069414584319 from rfl, Nat.mod_mul_mod, Nat.mul_assoc]
  omega
theorem zux {x y T q r : Nat} (h : 18446744073709551616 ^ 4 * T = x * y + q * RR) (hr : r = T \/ r + RR = T) (hlt : r < RR) : r = x * y * Binv % RR := by
  have e1 : 18446744073709551616 ^ 4 * r % RR = x * y % RR := by
    rcases hr with rfl | hr
    . rw [h, Nat.add_mul_mod_self_right]
    . have : 18446744073709551616 ^ 4 * r + 18446744073709551616 ^ 4 * RR = x * y + q * RR := by rw [← h, ← hr, Nat.mul_add]
      have h2 := congrArg (· % RR) this
      simp only [Nat.add_mul_mod_self_right] at h2
      exact h2
  have e2 : r * (18446744073709551616 ^ 4 * Binv) % RR = r := by
    rw [Nat.mul_mod, zr4, Nat.mul_one, Nat.mod_mod, Nat.mod_eq_of_lt hlt]
  rw [← e2, ← Nat.mul_assoc, Nat.mul_comm r, Nat.mul_mod, e1, ← Nat.mul_mod]
theorem zxL : lv [14526898881837571181, 3129137299524312099, 419701826671360399, 524908885293268753] * Binv % RR = 18446744073709551616 ^ 4 % RR := by decide +kernel
theorem zhj (x : Nat) : x % RR < RR := Nat.mod_lt _ (by decide)
end
end Go.Proofs.Ytgimohchocjgcaa.V
