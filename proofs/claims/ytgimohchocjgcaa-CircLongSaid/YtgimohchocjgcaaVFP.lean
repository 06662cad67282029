import Derived.Test.YtgimohchocjgcaaVWA1
import Derived.Test.YtgimohchocjgcaaVUM
import Derived.KernelRfl
import Derived.Test.YtgimohchocjgcaaVME
set_option linter.unusedVariables false
set_option linter.unusedSimpArgs false
namespace Go.Proofs.Ytgimohchocjgcaa.V
section
def q75 (N : Nat) (n0 : UInt64) : Option (Fr × Unit) :=
  some (({ a0 := n0, a1 := (0 : UInt64), a2 := (0 : UInt64), a3 := (0 : UInt64) }, ()))
theorem zAE : p75 = q75 := by
  (repeat (apply funext; intro _))
  simp only [p75, q75, ]
def q169 (N : Nat) : Option (Fr × Unit) :=
  some (({ a0 := (18446744069414584321 : UInt64), a1 := (6034159408538082302 : UInt64), a2 := (3691218898639771653 : UInt64), a3 := (8353516859464449352 : UInt64) }, ()))
theorem zyq : p169 = q169 := by
  (repeat (apply funext; intro _))
  simp only [p169, q169, ]
def zyr (N : Nat) (A_5 : UInt64 -> UInt64 -> Int -> (List UInt64) -> (List UInt64) -> (List UInt64) -> (List UInt64) -> Option (Fr × Unit)) (over1 borrow7 : UInt64) (t10 : Int) (ob0 ob1 ob2 ob3 : List UInt64) : Option (Fr × Unit) :=
  cond ((ltI t10 (4 : Int))) (must (leI (0 : Int) t10 && ltI t10 (↑(4 : Nat) : Int)) (must (leI (0 : Int) t10 && ltI t10 (↑(4 : Nat) : Int)) (Option.bind (kSub (List.getD ob0 t10.toNat (0 : UInt64)) (List.getD ob2 t10.toNat (0 : UInt64)) borrow7) fun r2 => must (leI (0 : Int) t10 && ltI t10 (↑(4 : Nat) : Int)) (A_5 over1 r2.2 ((wr (t10 + (1 : Int)))) ob0 ob1 ob2 (setL ob3 t10.toNat r2.1))))) (cond ((ltN over1.toNat borrow7.toNat)) (must (Nat.beq ob0.length (4 : Nat)) (Option.bind (Fr.of? ob0) fun r1 => some ((r1, ())))) (must (Nat.beq ob3.length (4 : Nat)) (Option.bind (Fr.of? ob3) fun r0 => some ((r0, ())))))
def zys (N n : Nat) (over1 borrow7 : UInt64) (t10 : Int) (ob0 ob1 ob2 ob3 : List UInt64) : Option (Fr × Unit) :=
  zaq (fun A x => zyr N (fun over1 borrow7 t10 ob0 ob1 ob2 ob3 => A ((over1, ((), ((), ((), ((), (borrow7, (t10, ()))))))), (ob0, (ob1, (ob2, (ob3, ())))))) x.1.1 x.1.2.2.2.2.2.1 x.1.2.2.2.2.2.2.1 x.2.1 x.2.2.1 x.2.2.2.1 x.2.2.2.2.1) n ((over1, ((), ((), ((), ((), (borrow7, (t10, ()))))))), (ob0, (ob1, (ob2, (ob3, ())))))
def q174 (N : Nat) (a0 : Fr) (over1 : UInt64) : Option (Fr × Unit) :=
  Option.bind (q169 N) fun r0 => zys N N over1 (0 : UInt64) (0 : Int) ([Fr.a0 a0, Fr.a1 a0, Fr.a2 a0, Fr.a3 a0]) ([(0 : UInt64), (0 : UInt64), (0 : UInt64), (0 : UInt64)]) ([Fr.a0 r0.1, Fr.a1 r0.1, Fr.a2 r0.1, Fr.a3 r0.1]) ([(0 : UInt64), (0 : UInt64), (0 : UInt64), (0 : UInt64)])
def q79 (N : Nat) (a0 : Fr) : Option (Bool × Unit) :=
  Option.bind (q169 N) fun r0 => Option.bind (q61 N (List.take (Int.toNat ((↑(4 : Nat) : Int) - (0 : Int))) [Fr.a0 a0, Fr.a1 a0, Fr.a2 a0, Fr.a3 a0]) (List.take (Int.toNat ((↑(4 : Nat) : Int) - (0 : Int))) [Fr.a0 r0.1, Fr.a1 r0.1, Fr.a2 r0.1, Fr.a3 r0.1])) fun r1 => some (((ltI r1.1 (0 : Int)), ()))
theorem zyt : p79 = q79 := by
  (repeat (apply funext; intro _))
  simp only [p79, q79, hide_eq, zyq, zAl]
def q88 (N : Nat) : Option (List UInt64 × Unit) :=
  some (([(18446744069414584321 : UInt64), (6034159408538082302 : UInt64), (3691218898639771653 : UInt64), (8353516859464449352 : UInt64)], ()))
theorem zsR : p88 = q88 := by
  (repeat (apply funext; intro _))
  simp only [p88, q88, ]
def zhU (N : Nat) (A_2 : (List UInt64) -> (List UInt64) -> Int -> Option (Bool × Unit)) (a0 m1 : List UInt64) (i5 : Int) : Option (Bool × Unit) :=
  cond ((leI (0 : Int) i5)) (must (leI (0 : Int) i5 && ltI i5 (↑a0.length : Int)) (must (leI (0 : Int) i5 && ltI i5 (↑m1.length : Int)) (cond (!List.getD a0 i5.toNat (0 : UInt64) == List.getD m1 i5.toNat (0 : UInt64)) (must (leI (0 : Int) i5 && ltI i5 (↑a0.length : Int)) (must (leI (0 : Int) i5 && ltI i5 (↑m1.length : Int)) (some (((ltN (UInt64.toNat (List.getD a0 i5.toNat (0 : UInt64))) (UInt64.toNat (List.getD m1 i5.toNat (0 : UInt64)))), ()))))) (A_2 a0 m1 ((wr (i5 - (1 : Int)))))))) (some ((false, ())))
theorem zsS : zpI = zhU := by
  (repeat (apply funext; intro _))
  simp only [zpI, zhU, hide_eq]
def zhV (N n : Nat) (a0 m1 : List UInt64) (i5 : Int) : Option (Bool × Unit) :=
  zaq (fun A x => zhU N (fun a0 m1 i5 => A ((a0, (m1, (i5, ()))), ())) x.1.1 x.1.2.1 x.1.2.2.1) n ((a0, (m1, (i5, ()))), ())
theorem zsT : zpJ = zhV := by
  (repeat (apply funext; intro _))
  simp only [zpJ, zhV, zsS]
theorem zgV (N n : Nat) (a0 m1 : List UInt64) (i5 : Int) : zhV N (n + 1) a0 m1 i5 = zhU N (zhV N n) a0 m1 i5 := rfl
def q168 (N : Nat) (a0 m1 : List UInt64) : Option (Bool × Unit) :=
  zhV N N a0 m1 ((wr ((↑m1.length : Int) - (1 : Int))))
theorem zqM : p168 = q168 := by
  (repeat (apply funext; intro _))
  simp only [p168, q168, hide_eq, zsT]
def q69 (N : Nat) (a0 : Fr) : Option (Bool × Unit) :=
  Option.bind (q88 N) fun r0 => Option.bind (q168 N (List.take (Int.toNat ((↑(4 : Nat) : Int) - (0 : Int))) [Fr.a0 a0, Fr.a1 a0, Fr.a2 a0, Fr.a3 a0]) r0.1) fun r1 => some ((Prod.fst r1, ()))
theorem zAF : p69 = q69 := by
  (repeat (apply funext; intro _))
  simp only [p69, q69, zqM, zsR]
def q173 (N : Nat) (n0 : UInt64) : Option (Fr × Unit) :=
  some (({ a0 := n0, a1 := (0 : UInt64), a2 := (0 : UInt64), a3 := (0 : UInt64) }, ()))
theorem zmZ : p173 = q173 := by
  (repeat (apply funext; intro _))
  simp only [p173, q173, ]
def zhW (N : Nat) (A_2 : Nat -> Nat -> (List UInt64) -> UInt64 -> Int -> (List UInt64) -> Option (List UInt64 × Unit)) (t0f t0n : Nat) (m1 : List UInt64) (c4 : UInt64) (i5 : Int) (t0o : List UInt64) : Option (List UInt64 × Unit) :=
  cond ((ltI i5 (↑m1.length : Int))) (must (leI (0 : Int) i5 && ltI i5 (↑t0n : Int)) (must (leI (0 : Int) i5 && ltI i5 (↑m1.length : Int)) (Option.bind (kSub (List.getD t0o (t0f + Int.toNat i5) (0 : UInt64)) (List.getD m1 i5.toNat (0 : UInt64)) c4) fun r0 => must (leI (0 : Int) i5 && ltI i5 (↑t0n : Int)) (A_2 t0f t0n m1 r0.2 ((wr (i5 + (1 : Int)))) (setL t0o (t0f + Int.toNat i5) r0.1))))) (some ((t0o, ())))
theorem zsU : zpM = zhW := by
  (repeat (apply funext; intro _))
  simp only [zpM, zhW, hide_eq]
def zhX (N n t0f t0n : Nat) (m1 : List UInt64) (c4 : UInt64) (i5 : Int) (t0o : List UInt64) : Option (List UInt64 × Unit) :=
  zaq (fun A x => zhW N (fun t0f t0n m1 c4 i5 t0o => A (((t0f, t0n), (m1, (c4, (i5, ())))), (t0o, ()))) x.1.1.1 x.1.1.2 x.1.2.1 x.1.2.2.1 x.1.2.2.2.1 x.2.1) n (((t0f, t0n), (m1, (c4, (i5, ())))), (t0o, ()))
theorem zsV : zpN = zhX := by
  (repeat (apply funext; intro _))
  simp only [zpN, zhX, zsU]
theorem zgW (N n t0f t0n : Nat) (m1 : List UInt64) (c4 : UInt64) (i5 : Int) (t0o : List UInt64) : zhX N (n + 1) t0f t0n m1 c4 i5 t0o = zhW N (zhX N n) t0f t0n m1 c4 i5 t0o := rfl
def q214 (N : Nat) (t0 m1 : List UInt64) : Option (List UInt64 × Unit) :=
  zhX N N (0 : Nat) t0.length m1 (0 : UInt64) (0 : Int) t0
theorem ztX : p214 = q214 := by
  (repeat (apply funext; intro _))
  simp only [p214, q214, zsV]
def zd8 (N : Nat) (A_10 : (List UInt64) -> (List UInt64) -> (List UInt64) -> Int -> UInt64 -> Int -> (List UInt64) -> Option (List UInt64 × Unit)) (A_27 : (List UInt64) -> (List UInt64) -> (List UInt64) -> Int -> UInt64 -> Int -> UInt64 -> UInt64 -> Int -> (List UInt64) -> Option (List UInt64 × Unit)) (a0 b1 m2 : List UInt64) (n7 : Int) (inv8 : UInt64) (i11 : Int) (c12 q21 : UInt64) (k24 : Int) (t10o : List UInt64) : Option (List UInt64 × Unit) :=
  cond ((ltI k24 n7)) (must (leI (0 : Int) k24 && ltI k24 (↑m2.length : Int)) (Option.bind (q163 N q21 (List.getD m2 k24.toNat (0 : UInt64))) fun r1 => must (leI (0 : Int) k24 && ltI k24 (↑t10o.length : Int)) (Option.bind (kAdd (List.getD t10o k24.toNat (0 : UInt64)) (r1.2.1) (0 : UInt64)) fun r2 => Option.bind (kAdd r2.1 c12 (0 : UInt64)) fun r3 => must (leI (0 : Int) ((wr (k24 - (1 : Int)))) && ltI ((wr (k24 - (1 : Int)))) (↑t10o.length : Int)) (A_27 a0 b1 m2 n7 inv8 i11 (((Prod.fst r1 + Prod.snd r2) + Prod.snd r3)) q21 ((wr (k24 + (1 : Int)))) (setL t10o (Int.toNat ((wr (k24 - (1 : Int))))) r3.1))))) (must (leI (0 : Int) n7 && ltI n7 (↑t10o.length : Int)) (Option.bind (kAdd (List.getD t10o n7.toNat (0 : UInt64)) c12 (0 : UInt64)) fun r0 => must (leI (0 : Int) ((wr (n7 + (1 : Int)))) && ltI ((wr (n7 + (1 : Int)))) (↑t10o.length : Int)) (must (leI (0 : Int) ((wr (n7 - (1 : Int)))) && ltI ((wr (n7 - (1 : Int)))) (↑t10o.length : Int)) (must (leI (0 : Int) n7 && ltI n7 (↑(List.length (setL t10o (Int.toNat ((wr (n7 - (1 : Int))))) r0.1)) : Int)) (A_10 a0 b1 m2 n7 inv8 ((wr (i11 + (1 : Int)))) (setL (setL t10o (Int.toNat ((wr (n7 - (1 : Int))))) r0.1) n7.toNat ((List.getD t10o (Int.toNat ((wr (n7 + (1 : Int))))) (0 : UInt64) + Prod.snd r0))))))))
theorem zqN : zlt = zd8 := by
  (repeat (apply funext; intro _))
  simp only [zlt, zd8, hide_eq, ztW]
def zdx (N : Nat) (A_10 : (List UInt64) -> (List UInt64) -> (List UInt64) -> Int -> UInt64 -> Int -> (List UInt64) -> Option (List UInt64 × Unit)) (n : Nat) (a0 b1 m2 : List UInt64) (n7 : Int) (inv8 : UInt64) (i11 : Int) (c12 q21 : UInt64) (k24 : Int) (t10o : List UInt64) : Option (List UInt64 × Unit) :=
  zaq (fun A x => zd8 N A_10 (fun a0 b1 m2 n7 inv8 i11 c12 q21 k24 t10o => A ((a0, (b1, (m2, (n7, (inv8, ((), (i11, (c12, (q21, (k24, ())))))))))), (t10o, ()))) x.1.1 x.1.2.1 x.1.2.2.1 x.1.2.2.2.1 x.1.2.2.2.2.1 x.1.2.2.2.2.2.2.1 x.1.2.2.2.2.2.2.2.1 x.1.2.2.2.2.2.2.2.2.1 x.1.2.2.2.2.2.2.2.2.2.1 x.2.1) n ((a0, (b1, (m2, (n7, (inv8, ((), (i11, (c12, (q21, (k24, ())))))))))), (t10o, ()))
theorem zqO : zlu = zdx := by
  (repeat (apply funext; intro _))
  simp only [zlu, zdx, zqN]
theorem zfE (N : Nat) (A_10 : (List UInt64) -> (List UInt64) -> (List UInt64) -> Int -> UInt64 -> Int -> (List UInt64) -> Option (List UInt64 × Unit)) (n : Nat) (a0 b1 m2 : List UInt64) (n7 : Int) (inv8 : UInt64) (i11 : Int) (c12 q21 : UInt64) (k24 : Int) (t10o : List UInt64) : zdx N A_10 (n + 1) a0 b1 m2 n7 inv8 i11 c12 q21 k24 t10o = zd8 N A_10 (zdx N A_10 n) a0 b1 m2 n7 inv8 i11 c12 q21 k24 t10o := rfl
def zd9 (N : Nat) (A_10 : (List UInt64) -> (List UInt64) -> (List UInt64) -> Int -> UInt64 -> Int -> (List UInt64) -> Option (List UInt64 × Unit)) (A_14 : (List UInt64) -> (List UInt64) -> (List UInt64) -> Int -> UInt64 -> Int -> UInt64 -> Int -> (List UInt64) -> Option (List UInt64 × Unit)) (a0 b1 m2 : List UInt64) (n7 : Int) (inv8 : UInt64) (i11 : Int) (c12 : UInt64) (k13 : Int) (t10o : List UInt64) : Option (List UInt64 × Unit) :=
  cond ((ltI k13 n7)) (must (leI (0 : Int) i11 && ltI i11 (↑a0.length : Int)) (must (leI (0 : Int) k13 && ltI k13 (↑b1.length : Int)) (Option.bind (q163 N (List.getD a0 i11.toNat (0 : UInt64)) (List.getD b1 k13.toNat (0 : UInt64))) fun r3 => must (leI (0 : Int) k13 && ltI k13 (↑t10o.length : Int)) (Option.bind (kAdd (List.getD t10o k13.toNat (0 : UInt64)) (r3.2.1) (0 : UInt64)) fun r4 => Option.bind (kAdd r4.1 c12 (0 : UInt64)) fun r5 => must (leI (0 : Int) k13 && ltI k13 (↑t10o.length : Int)) (A_14 a0 b1 m2 n7 inv8 i11 (((Prod.fst r3 + Prod.snd r4) + Prod.snd r5)) ((wr (k13 + (1 : Int)))) (setL t10o k13.toNat r5.1)))))) (must (leI (0 : Int) n7 && ltI n7 (↑t10o.length : Int)) (Option.bind (kAdd (List.getD t10o n7.toNat (0 : UInt64)) c12 (0 : UInt64)) fun r0 => must (leI (0 : Int) n7 && ltI n7 (↑t10o.length : Int)) (must (leI (0 : Int) ((wr (n7 + (1 : Int)))) && ltI ((wr (n7 + (1 : Int)))) (↑(List.length (setL t10o n7.toNat r0.1)) : Int)) (must (ltI (0 : Int) (↑(List.length (setL (setL t10o n7.toNat r0.1) (Int.toNat ((wr (n7 + (1 : Int))))) r0.2)) : Int)) (must (ltI (0 : Int) (↑m2.length : Int)) (Option.bind (q163 N ((List.getD (setL (setL t10o n7.toNat r0.1) (Int.toNat ((wr (n7 + (1 : Int))))) r0.2) (0 : Nat) (0 : UInt64) * inv8)) (List.getD m2 (0 : Nat) (0 : UInt64))) fun r1 => must (ltI (0 : Int) (↑(List.length (setL (setL t10o n7.toNat r0.1) (Int.toNat ((wr (n7 + (1 : Int))))) r0.2)) : Int)) (Option.bind (kAdd (List.getD (setL (setL t10o n7.toNat r0.1) (Int.toNat ((wr (n7 + (1 : Int))))) r0.2) (0 : Nat) (0 : UInt64)) (r1.2.1) (0 : UInt64)) fun r2 => zdx N A_10 N a0 b1 m2 n7 inv8 i11 ((Prod.fst r1 + Prod.snd r2)) ((List.getD (setL (setL t10o n7.toNat r0.1) (Int.toNat ((wr (n7 + (1 : Int))))) r0.2) (0 : Nat) (0 : UInt64) * inv8)) (1 : Int) (setL (setL t10o n7.toNat r0.1) (Int.toNat ((wr (n7 + (1 : Int))))) r0.2))))))))
theorem zqP : zlv = zd9 := by
  (repeat (apply funext; intro _))
  simp only [zlv, zd9, hide_eq, zqO, ztW]
def zea (N : Nat) (A_10 : (List UInt64) -> (List UInt64) -> (List UInt64) -> Int -> UInt64 -> Int -> (List UInt64) -> Option (List UInt64 × Unit)) (n : Nat) (a0 b1 m2 : List UInt64) (n7 : Int) (inv8 : UInt64) (i11 : Int) (c12 : UInt64) (k13 : Int) (t10o : List UInt64) : Option (List UInt64 × Unit) :=
  zaq (fun A x => zd9 N A_10 (fun a0 b1 m2 n7 inv8 i11 c12 k13 t10o => A ((a0, (b1, (m2, (n7, (inv8, ((), (i11, (c12, (k13, ()))))))))), (t10o, ()))) x.1.1 x.1.2.1 x.1.2.2.1 x.1.2.2.2.1 x.1.2.2.2.2.1 x.1.2.2.2.2.2.2.1 x.1.2.2.2.2.2.2.2.1 x.1.2.2.2.2.2.2.2.2.1 x.2.1) n ((a0, (b1, (m2, (n7, (inv8, ((), (i11, (c12, (k13, ()))))))))), (t10o, ()))
theorem zqQ : zlw = zea := by
  (repeat (apply funext; intro _))
  simp only [zlw, zea, zqP]
theorem zfF (N : Nat) (A_10 : (List UInt64) -> (List UInt64) -> (List UInt64) -> Int -> UInt64 -> Int -> (List UInt64) -> Option (List UInt64 × Unit)) (n : Nat) (a0 b1 m2 : List UInt64) (n7 : Int) (inv8 : UInt64) (i11 : Int) (c12 : UInt64) (k13 : Int) (t10o : List UInt64) : zea N A_10 (n + 1) a0 b1 m2 n7 inv8 i11 c12 k13 t10o = zd9 N A_10 (zea N A_10 n) a0 b1 m2 n7 inv8 i11 c12 k13 t10o := rfl
def zfe (N : Nat) (A_10 : (List UInt64) -> (List UInt64) -> (List UInt64) -> Int -> UInt64 -> Int -> (List UInt64) -> Option (List UInt64 × Unit)) (a0 b1 m2 : List UInt64) (n7 : Int) (inv8 : UInt64) (i11 : Int) (t10o : List UInt64) : Option (List UInt64 × Unit) :=
  cond ((ltI i11 n7)) (zea N A_10 N a0 b1 m2 n7 inv8 i11 (0 : UInt64) (0 : Int) t10o) (must (leI (0 : Int) n7 && ltI n7 (↑t10o.length : Int)) (cond (!List.getD t10o n7.toNat (0 : UInt64) == (0 : UInt64)) (must (ltN (0 : Nat) t10o.length) (Option.bind (q214 N t10o m2) fun r2 => must (Nat.beq r2.1.length t10o.length) (must (leI (0 : Int) n7 && leI n7 (↑r2.1.length : Int)) (must (ltN (0 : Nat) (Int.toNat (n7 - (0 : Int)))) (some ((List.take (Int.toNat (n7 - (0 : Int))) r2.1, ()))))))) (must (leI (0 : Int) n7 && leI n7 (↑t10o.length : Int)) (Option.bind (q168 N (List.take (Int.toNat (n7 - (0 : Int))) t10o) m2) fun r0 => cond (!r0.1) (must (ltN (0 : Nat) t10o.length) (Option.bind (q214 N t10o m2) fun r1 => must (Nat.beq r1.1.length t10o.length) (must (leI (0 : Int) n7 && leI n7 (↑r1.1.length : Int)) (must (ltN (0 : Nat) (Int.toNat (n7 - (0 : Int)))) (some ((List.take (Int.toNat (n7 - (0 : Int))) r1.1, ()))))))) (must (leI (0 : Int) n7 && leI n7 (↑t10o.length : Int)) (must (ltN (0 : Nat) (Int.toNat (n7 - (0 : Int)))) (some ((List.take (Int.toNat (n7 - (0 : Int))) t10o, ())))))))))
theorem zqR : zlx = zfe := by
  (repeat (apply funext; intro _))
  simp only [zlx, zfe, hide_eq, zqQ, zqM, ztX]
def zbu (N n : Nat) (a0 b1 m2 : List UInt64) (n7 : Int) (inv8 : UInt64) (i11 : Int) (t10o : List UInt64) : Option (List UInt64 × Unit) :=
  zaq (fun A x => zfe N (fun a0 b1 m2 n7 inv8 i11 t10o => A ((a0, (b1, (m2, (n7, (inv8, ((), (i11, ()))))))), (t10o, ()))) x.1.1 x.1.2.1 x.1.2.2.1 x.1.2.2.2.1 x.1.2.2.2.2.1 x.1.2.2.2.2.2.2.1 x.2.1) n ((a0, (b1, (m2, (n7, (inv8, ((), (i11, ()))))))), (t10o, ()))
theorem zqS : zly = zbu := by
  (repeat (apply funext; intro _))
  simp only [zly, zbu, zqR]
theorem zfG (N n : Nat) (a0 b1 m2 : List UInt64) (n7 : Int) (inv8 : UInt64) (i11 : Int) (t10o : List UInt64) : zbu N (n + 1) a0 b1 m2 n7 inv8 i11 t10o = zfe N (zbu N n) a0 b1 m2 n7 inv8 i11 t10o := rfl
def zhY (N : Nat) (A_4 : (List UInt64) -> (List UInt64) -> (List UInt64) -> Int -> UInt64 -> Int -> Option (List UInt64 × Unit)) (a0 b1 m2 : List UInt64) (n7 : Int) (inv8 : UInt64) (i9 : Int) : Option (List UInt64 × Unit) :=
  cond ((ltI i9 (6 : Int))) (must (ltI (0 : Int) (↑m2.length : Int)) (A_4 a0 b1 m2 n7 ((inv8 * ((2 : UInt64) - (List.getD m2 (0 : Nat) (0 : UInt64) * inv8)))) ((wr (i9 + (1 : Int)))))) (must (leI (0 : Int) ((wr (n7 + (2 : Int)))) && (eqI ((wr (n7 + (2 : Int)))) ((wr (n7 + (2 : Int)))) && leN (Int.toNat ((wr (n7 + (2 : Int)))) * (8 : Nat)) (140737488355328 : Nat))) (zbu N N a0 b1 m2 n7 (((0 : UInt64) - inv8)) (0 : Int) (List.replicate (Int.toNat ((wr (n7 + (2 : Int))))) (0 : UInt64))))
theorem zsW : zpQ = zhY := by
  (repeat (apply funext; intro _))
  simp only [zpQ, zhY, hide_eq, zqS]
def zdV (N n : Nat) (a0 b1 m2 : List UInt64) (n7 : Int) (inv8 : UInt64) (i9 : Int) : Option (List UInt64 × Unit) :=
  zaq (fun A x => zhY N (fun a0 b1 m2 n7 inv8 i9 => A ((a0, (b1, (m2, (n7, (inv8, (i9, ())))))), ())) x.1.1 x.1.2.1 x.1.2.2.1 x.1.2.2.2.1 x.1.2.2.2.2.1 x.1.2.2.2.2.2.1) n ((a0, (b1, (m2, (n7, (inv8, (i9, ())))))), ())
theorem zsX : zpR = zdV := by
  (repeat (apply funext; intro _))
  simp only [zpR, zdV, zsW]
theorem zgX (N n : Nat) (a0 b1 m2 : List UInt64) (n7 : Int) (inv8 : UInt64) (i9 : Int) : zdV N (n + 1) a0 b1 m2 n7 inv8 i9 = zhY N (zdV N n) a0 b1 m2 n7 inv8 i9 := rfl
def q184 (N : Nat) (a0 b1 m2 : List UInt64) : Option (List UInt64 × Unit) :=
  must (ltI (0 : Int) (↑m2.length : Int)) (zdV N N a0 b1 m2 ((↑m2.length : Int)) (List.getD m2 (0 : Nat) (0 : UInt64)) (0 : Int))
theorem zyu : p184 = q184 := by
  (repeat (apply funext; intro _))
  simp only [p184, q184, zsX]
def q175 (N : Nat) (a0 : List UInt64) : Option (Fr × Unit) :=
  must (Nat.beq (List.length (zam [(0 : UInt64), (0 : UInt64), (0 : UInt64), (0 : UInt64)] (Int.toNat (0 : Int)) (List.take (Int.toNat ((↑(4 : Nat) : Int) - (0 : Int))) a0))) (4 : Nat)) (Option.bind (Fr.of? (zam [(0 : UInt64), (0 : UInt64), (0 : UInt64), (0 : UInt64)] (Int.toNat (0 : Int)) (List.take (Int.toNat ((↑(4 : Nat) : Int) - (0 : Int))) a0))) fun r0 => some ((r0, ())))
theorem zqT : p175 = q175 := by
  (repeat (apply funext; intro _))
  simp only [p175, q175, ]
def q94 (N : Nat) (a0 b1 : Fr) : Option (Fr × Unit) :=
  Option.bind (q88 N) fun r0 => Option.bind (q184 N (List.take (Int.toNat ((↑(4 : Nat) : Int) - (0 : Int))) [Fr.a0 a0, Fr.a1 a0, Fr.a2 a0, Fr.a3 a0]) (List.take (Int.toNat ((↑(4 : Nat) : Int) - (0 : Int))) [Fr.a0 b1, Fr.a1 b1, Fr.a2 b1, Fr.a3 b1]) r0.1) fun r1 => Option.bind (q184 N (List.take r1.1.length (List.drop (0 : Nat) r1.1)) ([(14526898881837571181 : UInt64), (3129137299524312099 : UInt64), (419701826671360399 : UInt64), (524908885293268753 : UInt64)]) r0.1) fun r2 => Option.bind (q175 N (List.take r2.1.length (List.drop (0 : Nat) r2.1))) fun r3 => some (({ a0 := Fr.a0 r3.1, a1 := Fr.a1 r3.1, a2 := Fr.a2 r3.1, a3 := Fr.a3 r3.1 }, ()))
theorem zyv : p94 = q94 := by
  (repeat (apply funext; intro _))
  simp only [p94, q94, zqT, zyu, zsR]
def zn2 (N : Nat) (A_3 : (List UInt64) -> Int -> (List UInt64) -> (List UInt64) -> (List UInt64) -> Option (Fr × Unit)) (e1 : List UInt64) (i6 : Int) (ob0 ob1 ob2 : List UInt64) : Option (Fr × Unit) :=
  cond ((leI (0 : Int) i6)) (Option.bind (Option.bind (Option.bind (Fr.of? ob2) fun r1 => Option.bind (Option.bind (Fr.of? ob2) fun r2 => some ((r2, ()))) fun r3 => some ((r1, r3))) fun r4 => q94 N r4.1 (r4.2.1)) fun r5 => Option.bind (q162 N e1 i6) fun r6 => cond ((Prod.fst r6 == (1 : UInt64))) (Option.bind (Option.bind (Option.bind (Option.bind (Fr.of? ob0) fun r7 => some ((r7, ()))) fun r8 => some (({ a0 := Fr.a0 r5.1, a1 := Fr.a1 r5.1, a2 := Fr.a2 r5.1, a3 := Fr.a3 r5.1 }, r8))) fun r9 => q94 N r9.1 (r9.2.1)) fun r10 => A_3 e1 ((wr (i6 - (1 : Int)))) ob0 ob1 ([Fr.a0 r10.1, Fr.a1 r10.1, Fr.a2 r10.1, Fr.a3 r10.1])) (A_3 e1 ((wr (i6 - (1 : Int)))) ob0 ob1 ([Fr.a0 r5.1, Fr.a1 r5.1, Fr.a2 r5.1, Fr.a3 r5.1]))) (must (Nat.beq ob2.length (4 : Nat)) (Option.bind (Fr.of? ob2) fun r0 => some ((r0, ()))))
theorem zvL : zvb = zn2 := by
  (repeat (apply funext; intro _))
  simp only [zvb, zn2, hide_eq, zyp, zyv]
def zn3 (N n : Nat) (e1 : List UInt64) (i6 : Int) (ob0 ob1 ob2 : List UInt64) : Option (Fr × Unit) :=
  zaq (fun A x => zn2 N (fun e1 i6 ob0 ob1 ob2 => A ((e1, ((), ((), ((), (i6, ()))))), (ob0, (ob1, (ob2, ()))))) x.1.1 x.1.2.2.2.2.1 x.2.1 x.2.2.1 x.2.2.2.1) n ((e1, ((), ((), ((), (i6, ()))))), (ob0, (ob1, (ob2, ()))))
theorem zvM : zvc = zn3 := by
  (repeat (apply funext; intro _))
  simp only [zvc, zn3, zvL]
theorem zhZ (N n : Nat) (e1 : List UInt64) (i6 : Int) (ob0 ob1 ob2 : List UInt64) : zn3 N (n + 1) e1 i6 ob0 ob1 ob2 = zn2 N (zn3 N n) e1 i6 ob0 ob1 ob2 := rfl
def q73 (N : Nat) (a0 : Fr) (e1 : List UInt64) : Option (Fr × Unit) :=
  Option.bind (q173 N (1 : UInt64)) fun r0 => zn3 N N e1 ((wr ((wr ((64 : Int) * (↑e1.length : Int))) - (1 : Int)))) ([Fr.a0 a0, Fr.a1 a0, Fr.a2 a0, Fr.a3 a0]) ([(0 : UInt64), (0 : UInt64), (0 : UInt64), (0 : UInt64)]) ([Fr.a0 r0.1, Fr.a1 r0.1, Fr.a2 r0.1, Fr.a3 r0.1])
theorem zAG : p73 = q73 := by
  (repeat (apply funext; intro _))
  simp only [p73, q73, hide_eq, zvM, zmZ]
def zvN (N : Nat) (A_4 : UInt64 -> Int -> (List UInt64) -> (List UInt64) -> (List UInt64) -> (List UInt64) -> Option (Fr × Unit)) (carry6 : UInt64) (t8 : Int) (ob0 ob1 ob2 ob3 : List UInt64) : Option (Fr × Unit) :=
  cond ((ltI t8 (4 : Int))) (must (leI (0 : Int) t8 && ltI t8 (↑(4 : Nat) : Int)) (must (leI (0 : Int) t8 && ltI t8 (↑(4 : Nat) : Int)) (Option.bind (kAdd (List.getD ob0 t8.toNat (0 : UInt64)) (List.getD ob1 t8.toNat (0 : UInt64)) carry6) fun r3 => must (leI (0 : Int) t8 && ltI t8 (↑(4 : Nat) : Int)) (A_4 r3.2 ((wr (t8 + (1 : Int)))) ob0 ob1 ob2 (setL ob3 t8.toNat r3.1))))) (Option.bind (Option.bind (Option.bind (Fr.of? ob3) fun r0 => some ((r0, carry6, ()))) fun r1 => q174 N r1.1 (r1.2.1)) fun r2 => some (({ a0 := Fr.a0 r2.1, a1 := Fr.a1 r2.1, a2 := Fr.a2 r2.1, a3 := Fr.a3 r2.1 }, ())))
def zsY (N n : Nat) (carry6 : UInt64) (t8 : Int) (ob0 ob1 ob2 ob3 : List UInt64) : Option (Fr × Unit) :=
  zaq (fun A x => zvN N (fun carry6 t8 ob0 ob1 ob2 ob3 => A (((), ((), ((), ((), (carry6, (t8, ())))))), (ob0, (ob1, (ob2, (ob3, ())))))) x.1.2.2.2.2.1 x.1.2.2.2.2.2.1 x.2.1 x.2.2.1 x.2.2.2.1 x.2.2.2.2.1) n (((), ((), ((), ((), (carry6, (t8, ())))))), (ob0, (ob1, (ob2, (ob3, ())))))
theorem zn4 (N n : Nat) (carry6 : UInt64) (t8 : Int) (ob0 ob1 ob2 ob3 : List UInt64) : zsY N (n + 1) carry6 t8 ob0 ob1 ob2 ob3 = zvN N (zsY N n) carry6 t8 ob0 ob1 ob2 ob3 := rfl
def zh0 (N : Nat) (A_4 : (List UInt64) -> (List UInt64) -> (List UInt64) -> UInt64 -> Int -> (List UInt64) -> Option (List UInt64 × Unit)) (a0 b1 m2 : List UInt64) (c8 : UInt64) (i9 : Int) (t7o : List UInt64) : Option (List UInt64 × Unit) :=
  cond ((ltI i9 (↑m2.length : Int))) (must (leI (0 : Int) i9 && ltI i9 (↑a0.length : Int)) (must (leI (0 : Int) i9 && ltI i9 (↑b1.length : Int)) (Option.bind (kAdd (List.getD a0 i9.toNat (0 : UInt64)) (List.getD b1 i9.toNat (0 : UInt64)) c8) fun r3 => must (leI (0 : Int) i9 && ltI i9 (↑t7o.length : Int)) (A_4 a0 b1 m2 r3.2 ((wr (i9 + (1 : Int)))) (setL t7o i9.toNat r3.1))))) (cond ((c8 == (1 : UInt64))) (must (ltN (0 : Nat) t7o.length) (Option.bind (q214 N t7o m2) fun r2 => must (Nat.beq r2.1.length t7o.length) (some ((Prod.fst r2, ()))))) (Option.bind (q168 N t7o m2) fun r0 => cond (!r0.1) (must (ltN (0 : Nat) t7o.length) (Option.bind (q214 N t7o m2) fun r1 => must (Nat.beq r1.1.length t7o.length) (some ((Prod.fst r1, ()))))) (some ((t7o, ())))))
theorem zsZ : zpU = zh0 := by
  (repeat (apply funext; intro _))
  simp only [zpU, zh0, hide_eq, zqM, ztX]
def zfH (N n : Nat) (a0 b1 m2 : List UInt64) (c8 : UInt64) (i9 : Int) (t7o : List UInt64) : Option (List UInt64 × Unit) :=
  zaq (fun A x => zh0 N (fun a0 b1 m2 c8 i9 t7o => A ((a0, (b1, (m2, ((), (c8, (i9, ())))))), (t7o, ()))) x.1.1 x.1.2.1 x.1.2.2.1 x.1.2.2.2.2.1 x.1.2.2.2.2.2.1 x.2.1) n ((a0, (b1, (m2, ((), (c8, (i9, ())))))), (t7o, ()))
theorem zs0 : zpV = zfH := by
  (repeat (apply funext; intro _))
  simp only [zpV, zfH, zsZ]
theorem zgY (N n : Nat) (a0 b1 m2 : List UInt64) (c8 : UInt64) (i9 : Int) (t7o : List UInt64) : zfH N (n + 1) a0 b1 m2 c8 i9 t7o = zh0 N (zfH N n) a0 b1 m2 c8 i9 t7o := rfl
def q176 (N : Nat) (a0 b1 m2 : List UInt64) : Option (List UInt64 × Unit) :=
  must (eqI (↑m2.length : Int) (↑m2.length : Int) && leN (Int.toNat (↑m2.length : Int) * (8 : Nat)) (140737488355328 : Nat)) (zfH N N a0 b1 m2 (0 : UInt64) (0 : Int) (List.replicate (Int.toNat (↑m2.length : Int)) (0 : UInt64)))
theorem zyw : p176 = q176 := by
  (repeat (apply funext; intro _))
  simp only [p176, q176, zs0]
def q81 (N : Nat) (a0 b1 : Fr) : Option (Fr × Unit) :=
  Option.bind (q88 N) fun r0 => Option.bind (q176 N (List.take (Int.toNat ((↑(4 : Nat) : Int) - (0 : Int))) [Fr.a0 a0, Fr.a1 a0, Fr.a2 a0, Fr.a3 a0]) (List.take (Int.toNat ((↑(4 : Nat) : Int) - (0 : Int))) [Fr.a0 b1, Fr.a1 b1, Fr.a2 b1, Fr.a3 b1]) r0.1) fun r1 => Option.bind (q175 N r1.1) fun r2 => some (({ a0 := Fr.a0 r2.1, a1 := Fr.a1 r2.1, a2 := Fr.a2 r2.1, a3 := Fr.a3 r2.1 }, ()))
theorem zAH : p81 = q81 := by
  (repeat (apply funext; intro _))
  simp only [p81, q81, zqT, zyw, zsR]
def zff (N : Nat) (A_10 : (List UInt64) -> UInt64 -> Int -> (List UInt64) -> Option (List UInt64 × Unit)) (m2 : List UInt64) (c8 : UInt64) (i10 : Int) (t7o : List UInt64) : Option (List UInt64 × Unit) :=
  cond ((ltI i10 (↑m2.length : Int))) (must (leI (0 : Int) i10 && ltI i10 (↑t7o.length : Int)) (must (leI (0 : Int) i10 && ltI i10 (↑m2.length : Int)) (Option.bind (kAdd (List.getD t7o i10.toNat (0 : UInt64)) (List.getD m2 i10.toNat (0 : UInt64)) c8) fun r0 => must (leI (0 : Int) i10 && ltI i10 (↑t7o.length : Int)) (A_10 m2 r0.2 ((wr (i10 + (1 : Int)))) (setL t7o i10.toNat r0.1))))) (some ((t7o, ())))
theorem zqU : zlA = zff := by
  (repeat (apply funext; intro _))
  simp only [zlA, zff, hide_eq]
def zfg (N n : Nat) (m2 : List UInt64) (c8 : UInt64) (i10 : Int) (t7o : List UInt64) : Option (List UInt64 × Unit) :=
  zaq (fun A x => zff N (fun m2 c8 i10 t7o => A ((m2, ((), (c8, (i10, ())))), (t7o, ()))) x.1.1 x.1.2.2.1 x.1.2.2.2.1 x.2.1) n ((m2, ((), (c8, (i10, ())))), (t7o, ()))
theorem zqV : zlB = zfg := by
  (repeat (apply funext; intro _))
  simp only [zlB, zfg, zqU]
theorem zfI (N n : Nat) (m2 : List UInt64) (c8 : UInt64) (i10 : Int) (t7o : List UInt64) : zfg N (n + 1) m2 c8 i10 t7o = zff N (zfg N n) m2 c8 i10 t7o := rfl
def zh1 (N : Nat) (A_4 : (List UInt64) -> (List UInt64) -> (List UInt64) -> UInt64 -> Int -> (List UInt64) -> Option (List UInt64 × Unit)) (a0 b1 m2 : List UInt64) (c8 : UInt64) (i9 : Int) (t7o : List UInt64) : Option (List UInt64 × Unit) :=
  cond ((ltI i9 (↑m2.length : Int))) (must (leI (0 : Int) i9 && ltI i9 (↑a0.length : Int)) (must (leI (0 : Int) i9 && ltI i9 (↑b1.length : Int)) (Option.bind (kSub (List.getD a0 i9.toNat (0 : UInt64)) (List.getD b1 i9.toNat (0 : UInt64)) c8) fun r0 => must (leI (0 : Int) i9 && ltI i9 (↑t7o.length : Int)) (A_4 a0 b1 m2 r0.2 ((wr (i9 + (1 : Int)))) (setL t7o i9.toNat r0.1))))) (cond ((c8 == (1 : UInt64))) (zfg N N m2 (0 : UInt64) (0 : Int) t7o) (some ((t7o, ()))))
theorem zs1 : zpX = zh1 := by
  (repeat (apply funext; intro _))
  simp only [zpX, zh1, hide_eq, zqV]
def zfJ (N n : Nat) (a0 b1 m2 : List UInt64) (c8 : UInt64) (i9 : Int) (t7o : List UInt64) : Option (List UInt64 × Unit) :=
  zaq (fun A x => zh1 N (fun a0 b1 m2 c8 i9 t7o => A ((a0, (b1, (m2, ((), (c8, (i9, ())))))), (t7o, ()))) x.1.1 x.1.2.1 x.1.2.2.1 x.1.2.2.2.2.1 x.1.2.2.2.2.2.1 x.2.1) n ((a0, (b1, (m2, ((), (c8, (i9, ())))))), (t7o, ()))
theorem zs2 : zpY = zfJ := by
  (repeat (apply funext; intro _))
  simp only [zpY, zfJ, zs1]
theorem zgZ (N n : Nat) (a0 b1 m2 : List UInt64) (c8 : UInt64) (i9 : Int) (t7o : List UInt64) : zfJ N (n + 1) a0 b1 m2 c8 i9 t7o = zh1 N (zfJ N n) a0 b1 m2 c8 i9 t7o := rfl
def q177 (N : Nat) (a0 b1 m2 : List UInt64) : Option (List UInt64 × Unit) :=
  must (eqI (↑m2.length : Int) (↑m2.length : Int) && leN (Int.toNat (↑m2.length : Int) * (8 : Nat)) (140737488355328 : Nat)) (zfJ N N a0 b1 m2 (0 : UInt64) (0 : Int) (List.replicate (Int.toNat (↑m2.length : Int)) (0 : UInt64)))
theorem zyx : p177 = q177 := by
  (repeat (apply funext; intro _))
  simp only [p177, q177, zs2]
def q83 (N : Nat) (a0 b1 : Fr) : Option (Fr × Unit) :=
  Option.bind (q88 N) fun r0 => Option.bind (q177 N (List.take (Int.toNat ((↑(4 : Nat) : Int) - (0 : Int))) [Fr.a0 a0, Fr.a1 a0, Fr.a2 a0, Fr.a3 a0]) (List.take (Int.toNat ((↑(4 : Nat) : Int) - (0 : Int))) [Fr.a0 b1, Fr.a1 b1, Fr.a2 b1, Fr.a3 b1]) r0.1) fun r1 => Option.bind (q175 N r1.1) fun r2 => some (({ a0 := Fr.a0 r2.1, a1 := Fr.a1 r2.1, a2 := Fr.a2 r2.1, a3 := Fr.a3 r2.1 }, ()))
theorem zAI : p83 = q83 := by
  (repeat (apply funext; intro _))
  simp only [p83, q83, zqT, zyx, zsR]
def q85 (N : Nat) (a0 : Fr) : Option (Fr × Unit) :=
  Option.bind (q83 N ({ a0 := (0 : UInt64), a1 := (0 : UInt64), a2 := (0 : UInt64), a3 := (0 : UInt64) }) ({ a0 := Fr.a0 a0, a1 := Fr.a1 a0, a2 := Fr.a2 a0, a3 := Fr.a3 a0 })) fun r0 => some (({ a0 := Fr.a0 r0.1, a1 := Fr.a1 r0.1, a2 := Fr.a2 r0.1, a3 := Fr.a3 r0.1 }, ()))
theorem zAJ : p85 = q85 := by
  (repeat (apply funext; intro _))
  simp only [p85, q85, zAI]
def q203 (N : Nat) (l0 : List UInt64) : Option (Fr × Unit) :=
  must (Nat.beq (List.length (zam [(0 : UInt64), (0 : UInt64), (0 : UInt64), (0 : UInt64)] (Int.toNat (0 : Int)) (List.take (Int.toNat ((↑(4 : Nat) : Int) - (0 : Int))) l0))) (4 : Nat)) (Option.bind (Fr.of? (zam [(0 : UInt64), (0 : UInt64), (0 : UInt64), (0 : UInt64)] (Int.toNat (0 : Int)) (List.take (Int.toNat ((↑(4 : Nat) : Int) - (0 : Int))) l0))) fun r0 => some ((r0, ())))
theorem zyy : p203 = q203 := by
  (repeat (apply funext; intro _))
  simp only [p203, q203, ]
def q122 (N : Nat) (b0 : List UInt8) : Option (Fr × Int × Unit) :=
  cond ((ltI (↑b0.length : Int) (32 : Int))) (some (({ a0 := (0 : UInt64), a1 := (0 : UInt64), a2 := (0 : UInt64), a3 := (0 : UInt64) }, (2 : Int), ()))) (cond ((ltI (32 : Int) (↑b0.length : Int))) (some (({ a0 := (0 : UInt64), a1 := (0 : UInt64), a2 := (0 : UInt64), a3 := (0 : UInt64) }, (8 : Int), ()))) (Option.bind (q59 N b0) fun r0 => Option.bind (q203 N r0.1) fun r1 => Option.bind (q79 N ({ a0 := Fr.a0 r1.1, a1 := Fr.a1 r1.1, a2 := Fr.a2 r1.1, a3 := Fr.a3 r1.1 })) fun r2 => cond (!r2.1) (some (({ a0 := (0 : UInt64), a1 := (0 : UInt64), a2 := (0 : UInt64), a3 := (0 : UInt64) }, (4 : Int), ()))) (some (({ a0 := Fr.a0 r1.1, a1 := Fr.a1 r1.1, a2 := Fr.a2 r1.1, a3 := Fr.a3 r1.1 }, (0 : Int), ())))))
theorem zyz : p122 = q122 := by
  (repeat (apply funext; intro _))
  simp only [p122, q122, hide_eq, zyy, zAt, zyt]
def q124 (N : Nat) (a0 : Fr) : Option (List UInt8 × Unit) :=
  Option.bind (q57 N (List.take (Int.toNat ((↑(4 : Nat) : Int) - (0 : Int))) [Fr.a0 a0, Fr.a1 a0, Fr.a2 a0, Fr.a3 a0]) (32 : Int)) fun r0 => some ((Prod.fst r0, ()))
theorem zyA : p124 = q124 := by
  (repeat (apply funext; intro _))
  simp only [p124, q124, zAs]
def q125 (N : Nat) (a0 : Fr) : Option (List UInt8 × Unit) :=
  Option.bind (q58 N (List.take (Int.toNat ((↑(4 : Nat) : Int) - (0 : Int))) [Fr.a0 a0, Fr.a1 a0, Fr.a2 a0, Fr.a3 a0]) (32 : Int)) fun r0 => some ((Prod.fst r0, ()))
end
section
def lv : List UInt64 -> Nat
  | [] => 0
  | x :: l => x.toNat + 18446744073709551616 * lv l
def cutL : List UInt64 -> List UInt64
  | [] => []
  | x :: l => match cutL l with
    | [] => if x = 0 then [] else [x]
    | y :: r => x :: y :: r
theorem zvO (l : List UInt64) : lv (cutL l) = lv l := by
  induction l with
  | nil => rfl
  | cons x l ih =>
    simp only [cutL]
    split
    . rename_i h
      rw [h] at ih
      have ih : 0 = lv l := ih
      split
      . rename_i h2; subst h2; simp [lv, ← ih]
      . simp [lv, ← ih]
    . rename_i y r h
      rw [h] at ih
      simp only [lv] at ih ⊢
      omega
theorem zau (l : List UInt64) (i : Nat) : lv (l.take (i + 1)) = lv (l.take i) + 18446744073709551616 ^ i * (l.getD i 0).toNat := by
  induction l generalizing i with
  | nil => simp [lv]
  | cons x l ih =>
    cases i with
    | zero => simp [lv]
    | succ i =>
      simp only [List.take_succ_cons, lv, ih i, List.getD_cons_succ, Nat.pow_succ]
      generalize 18446744073709551616 ^ i = p
      rw [Nat.mul_add, Nat.add_assoc]
      congr 2
      rw [Nat.mul_comm p 18446744073709551616, Nat.mul_assoc]
theorem zg0 {l : List UInt64} {n : Nat} (h : l.length <= n) : lv (l.take n) = lv l := by
  rw [List.take_of_length_le h]
theorem zlT (l : List UInt64) : lv l < 18446744073709551616 ^ l.length := by
  induction l with
  | nil => simp [lv]
  | cons x l ih =>
    have hx := x.toNat_lt
    simp only [lv, List.length_cons, Nat.pow_succ]
    have h2 : 18446744073709551616 * (lv l + 1) <= 18446744073709551616 * 18446744073709551616 ^ l.length := Nat.mul_le_mul_left _ ih
    rw [Nat.mul_comm (18446744073709551616 ^ l.length)]
    omega
theorem zcr (l : List UInt64) (i : Nat) : lv (l.take i) < 18446744073709551616 ^ i := by
  refine Nat.lt_of_lt_of_le (zlT _) (Nat.pow_le_pow_right (by decide) ?_)
  rw [List.length_take]; omega
theorem zaB {α : Type} (l : List α) (i : Nat) (x : α) : (setL l i x).length = l.length := by
  induction l generalizing i with
  | nil => rfl
  | cons y l ih => cases i <;> simp [setL, ih]
theorem zeM {α : Type} (l : List α) {i j : Nat} (x : α) (h : j <= i) : (setL l i x).take j = l.take j := by
  induction l generalizing i j with
  | nil => rfl
  | cons y l ih =>
    cases j with
    | zero => rfl
    | succ j => cases i with
      | zero => omega
      | succ i => simp [setL, ih (Nat.le_of_succ_le_succ h)]
theorem zbb {α : Type} (l : List α) (i j : Nat) (x d : α) : (setL l i x).getD j d = if j = i /\ i < l.length then x else l.getD j d := by
  induction l generalizing i j with
  | nil => simp [setL]
  | cons y l ih =>
    cases i with
    | zero => cases j <;> simp [setL]
    | succ i => cases j with
      | zero => simp [setL]
      | succ j => simp only [setL, List.getD_cons_succ, ih, Nat.add_right_cancel_iff, List.length_cons, Nat.add_lt_add_iff_right]
theorem za5 (l : List UInt64) {i : Nat} (x : UInt64) (h : i < l.length) : lv ((setL l i x).take (i + 1)) = lv (l.take i) + 18446744073709551616 ^ i * x.toNat := by
  rw [zau, zeM l x (Nat.le_refl i), zbb, if_pos ⟨rfl, h⟩]
theorem zcc {l : List UInt64} {i : Nat} (h : l.length <= i) : l.getD i 0 = 0 := by
  rw [List.getD_eq_getElem?_getD, List.getElem?_eq_none h]; rfl
theorem zkg (a : List UInt64) (k : Nat) (hk : k <= a.length) (h0 : ∀ j, k <= j -> a.getD j 0 = 0) (h1 : k = 0 \/ a.getD (k - 1) 0 ≠ 0) : cutL a = a.take k := by
  induction a generalizing k with
  | nil => simp [cutL]
  | cons x l ih =>
    cases k with
    | zero =>
      have hx : x = 0 := by simpa using h0 0 (Nat.le_refl _)
      have hl : cutL l = [] := by
        rw [ih 0 (Nat.zero_le _) (fun j _ => by simpa using h0 (j + 1) (Nat.zero_le _)) (.inl rfl)]; rfl
      simp [cutL, hl, hx]
    | succ k =>
      have hl : cutL l = l.take k := by
        refine ih k (by simpa using hk) (fun j hj => by simpa using h0 (j + 1) (by omega)) ?_
        cases k with
        | zero => exact .inl rfl
        | succ k => right; rcases h1 with h1 | h1
                    . omega
                    . simpa using h1
      rw [List.take_succ_cons]
      cases k with
      | zero =>
        have hx : x ≠ 0 := by
          rcases h1 with h1 | h1
          . omega
          . simpa using h1
        simp only [cutL, hl, List.take_zero, if_neg hx]
      | succ k =>
        cases l with
        | nil => simp at hk
        | cons y l => simp only [cutL] at hl ⊢; rw [hl]; rfl
theorem zi6 {k : Nat} (h : k < 9223372036854775807) : wr (((k + 1 : Nat) : Int) - 1) = (k : Int) := by
  rw [zbN (by omega) (by omega)]; omega
theorem zvP (a b : Nat) : mxI (a : Int) (b : Int) = ((max a b : Nat) : Int) := by
  unfold mxI
  rw [za7]
  by_cases h : a < b
  . rw [zax h, cond_true]; congr 1; omega
  . rw [zbO h, cond_false]; congr 1; omega
theorem zf3 (l : List UInt64) : (cutL l).length <= l.length := by
  induction l with
  | nil => exact Nat.le_refl _
  | cons x l ih =>
    simp only [cutL]
    split
    . split <;> simp
    . rename_i y r h
      rw [h] at ih
      simp only [List.length_cons] at ih ⊢
      omega
end
section
theorem zqW (N : Nat) (a : List UInt64) (i : Nat) : q160 N a (i : Int) = some (a.getD i 0, ()) := by
  unfold q160
  rw [za7]
  by_cases h : i < a.length
  . rw [zax h, cond_true, zaw, Bool.true_and, zdw rfl]
    rfl
  . rw [zbO h, cond_false, zcc (by omega)]
theorem zvQ (N : Nat) (a : List UInt64) (ha : a.length * 8 <= 140737488355328) : ∀ n k : Nat, k <= a.length -> k < n -> (∀ j, k <= j -> a.getD j 0 = 0) -> zhT N n a (k : Int) = some (cutL a, ()) := by
  intro n
  induction n with
  | zero => intro k _ h; omega
  | succ n ih =>
    intro k hk hn h0
    rw [zlR]
    unfold zkc
    have fin : (k = 0 \/ a.getD (k - 1) 0 ≠ 0) -> must (leI 0 (k : Int) && leI (k : Int) (a.length : Int)) (must (leN ((0 + (List.take (Int.toNat ((k : Int) - 0)) a).length) * 8) 140737488355328) (some (List.take (Int.toNat ((k : Int) - 0)) a, ()))) = some (cutL a, ()) := fun h1 => by
      have e1 : Int.toNat ((k : Int) - 0) = k := by omega
      rw [e1, zaw, ziU, zay hk, zcf, zdw (zay (by rw [List.length_take]; omega)), zkg a k hk h0 h1]
    cases k with
    | zero =>
      rw [show ltI 0 ((0 : Nat) : Int) = false from rfl, cond_false]
      exact fin (.inl rfl)
    | succ k =>
      rw [zae (by omega), cond_true, zi6 (by omega), zaw, za7, zax (by omega), zcf]
      simp only [Int.toNat_natCast]
      by_cases hz : a.getD k 0 = 0
      . rw [hz]
        simp only [beq_self_eq_true, cond_true]
        refine ih k (by omega) (by omega) fun j hj => ?_
        by_cases e : j = k
        . rw [e]; exact hz
        . exact h0 j (by omega)
      . rw [beq_eq_false_iff_ne.2 hz, cond_false]
        exact fin (.inr hz)
theorem zvR {N : Nat} {a : List UInt64} (ha : a.length < 1000000) (hN : a.length < N) : q158 N a = some (cutL a, ()) := by
  unfold q158
  exact zvQ N a (by omega) N a.length (Nat.le_refl _) hN fun j hj => zcc hj
def cmpN (a b : Nat) : Int := if a < b then -1 else if b < a then 1 else 0
theorem zyB (N : Nat) (a b : List UInt64) : ∀ n k : Nat, k < n -> k < 9223372036854775807 -> (∀ j, k <= j -> a.getD j 0 = b.getD j 0) -> zdJ N n a b (k : Int) = some (cmpN (lv (a.take k)) (lv (b.take k)), ()) := by
  intro n
  induction n with
  | zero => intro k h; omega
  | succ n ih =>
    intro k hn hb h0
    rw [zi5]
    unfold zeL
    cases k with
    | zero =>
      rw [show wr (((0 : Nat) : Int) - 1) = -1 from zbN (by omega) (by omega), show ltI (-1) 0 = true from rfl, cond_true]
      simp [cmpN, lv]
    | succ k =>
      rw [zi6 (by omega), ziV, cond_false, zqW, zqW, zau, zau]
      simp only [Option.bind_some]
      have h1 := zcr a k
      have h2 := zcr b k
      generalize 18446744073709551616 ^ k = p at h1 h2 ⊢
      by_cases e1 : (a.getD k 0).toNat < (b.getD k 0).toNat
      . rw [zax e1, cond_true]
        have : p * ((a.getD k 0).toNat + 1) <= p * (b.getD k 0).toNat := Nat.mul_le_mul_left _ e1
        rw [Nat.mul_add] at this
        simp only [cmpN]
        rw [if_pos (by omega)]
      . rw [zbO e1, cond_false]
        by_cases e2 : (b.getD k 0).toNat < (a.getD k 0).toNat
        . rw [zax e2, cond_true]
          have : p * ((b.getD k 0).toNat + 1) <= p * (a.getD k 0).toNat := Nat.mul_le_mul_left _ e2
          rw [Nat.mul_add] at this
          simp only [cmpN]
          rw [if_neg (by omega), if_pos (by omega)]
        . rw [zbO e2, cond_false]
          have e3 : (a.getD k 0).toNat = (b.getD k 0).toNat := by omega
          rw [ih k (by omega) (by omega) fun j hj => ?_]
          . simp only [cmpN, e3, Nat.add_lt_add_iff_right]
          . by_cases e : j = k
            . rw [e]; exact UInt64.toNat_inj.1 e3
            . exact h0 j (by omega)
theorem zyC {N : Nat} {a b : List UInt64} (ha : a.length < 1000000) (hb : b.length < 1000000) (hN : max a.length b.length < N) : q61 N a b = some (cmpN (lv a) (lv b), ()) := by
  unfold q61
  rw [zvP, zyB N a b N _ hN (by omega) fun j hj => by rw [zcc (by omega), zcc (by omega)], zg0 (by omega), zg0 (by omega)]
theorem zfh {x y c : UInt64} (h : c.toNat <= 1) : ∃ s d : UInt64, kAdd x y c = some (s, d) /\ d.toNat <= 1 /\ s.toNat + 18446744073709551616 * d.toNat = x.toNat + y.toNat + c.toNat := by
  have hx := x.toNat_lt
  have hy := y.toNat_lt
  refine ⟨addS x y c, addC x y c, ?_, ?_, ?_⟩
  . unfold kAdd; rw [zay h, cond_true]
  . rw [addC, ofN _ (by omega)]; omega
  . rw [addC, addS, ofN _ (by omega), ofN _ (by omega)]; omega
theorem zqX {x y c : UInt64} (h : c.toNat <= 1) : ∃ s d : UInt64, kSub x y c = some (s, d) /\ d.toNat <= 1 /\ s.toNat + y.toNat + c.toNat = x.toNat + 18446744073709551616 * d.toNat := by
  have hx := x.toNat_lt
  have hy := y.toNat_lt
  refine ⟨subS x y c, subC x y c, ?_, ?_, ?_⟩
  . unfold kSub; rw [zay h, cond_true]
  . unfold subC
    cases ltN x.toNat (y.toNat + c.toNat) <;> simp
  . rw [subS, ofN _ (Nat.mod_lt _ (by decide))]
    unfold subC
    by_cases h1 : x.toNat < y.toNat + c.toNat
    . rw [zax h1]; simp; omega
    . rw [zbO h1]; simp; omega
end
section
theorem zeN (x : UInt64) (n : Nat) : (zaY x n).toNat = x.toNat / 2 ^ n := by
  unfold zaY
  rw [UInt64.toNat_ofNat']
  exact Nat.mod_eq_of_lt (Nat.lt_of_le_of_lt (Nat.div_le_self _ _) x.toNat_lt)
theorem zyD (x : UInt64) : (x &&& 4294967295).toNat = x.toNat % 4294967296 := by
  rw [UInt64.toNat_and]
  exact Nat.and_two_pow_sub_one_eq_mod x.toNat 32
theorem zeO {a b c d m n : Nat} (ha : a < m) (hb : b < n) : a * b <= (m - 1) * (n - 1) := Nat.mul_le_mul (by omega) (by omega)
theorem zqY (N : Nat) (x y : UInt64) : ∃ h l : UInt64, q163 N x y = some (h, l, ()) /\ h.toNat * 18446744073709551616 + l.toNat = x.toNat * y.toNat := by
  refine ⟨_, _, rfl, ?_⟩
  have hx := x.toNat_lt
  have hy := y.toNat_lt
  simp only [UInt64.toNat_add, UInt64.toNat_mul, zeN, zyD, show (32 : UInt64).toNat = 32 from rfl]
  generalize hX : x.toNat = X at *
  generalize hY : y.toNat = Y at *
  have e1 : (2 : Nat) ^ 64 = 18446744073709551616 := by decide
  have e2 : (2 : Nat) ^ 32 = 4294967296 := by decide
  simp only [e1, e2] at *
  have hX1 : X = 4294967296 * (X / 4294967296) + X % 4294967296 := (Nat.div_add_mod X 4294967296).symm
  have hY1 : Y = 4294967296 * (Y / 4294967296) + Y % 4294967296 := (Nat.div_add_mod Y 4294967296).symm
  have b1 : X / 4294967296 < 4294967296 := by omega
  have b2 : Y / 4294967296 < 4294967296 := by omega
  have b3 : X % 4294967296 < 4294967296 := Nat.mod_lt _ (by decide)
  have b4 : Y % 4294967296 < 4294967296 := Nat.mod_lt _ (by decide)
  generalize X / 4294967296 = x1 at *
  generalize X % 4294967296 = x0 at *
  generalize Y / 4294967296 = y1 at *
  generalize Y % 4294967296 = y0 at *
  have hp : X * Y = 18446744073709551616 * (x1 * y1) + 4294967296 * (x1 * y0) + 4294967296 * (x0 * y1) + x0 * y0 := by
    rw [hX1, hY1]
    simp only [Nat.add_mul, Nat.mul_add]
    have q1 : 4294967296 * x1 * (4294967296 * y1) = 18446744073709551616 * (x1 * y1) := by
      rw [show (18446744073709551616 : Nat) = 4294967296 * 4294967296 by decide]
      simp only [Nat.mul_assoc, Nat.mul_left_comm x1]
    have q2 : 4294967296 * x1 * y0 = 4294967296 * (x1 * y0) := Nat.mul_assoc _ _ _
    have q3 : x0 * (4294967296 * y1) = 4294967296 * (x0 * y1) := Nat.mul_left_comm _ _ _
    rw [q1, q2, q3]
    omega
  have p1 := zeO (c := 0) (d := 0) b1 b2
  have p2 := zeO (c := 0) (d := 0) b1 b4
  have p3 := zeO (c := 0) (d := 0) b3 b2
  have p4 := zeO (c := 0) (d := 0) b3 b4
  rw [hp]
  generalize x1 * y1 = a at *
  generalize x1 * y0 = b at *
  generalize x0 * y1 = c at *
  generalize x0 * y0 = d at *
  omega
end
section
theorem ztY (a : List UInt64) (k : Nat) : (lv a).testBit k = ((a.getD (k / 64) 0).toNat).testBit (k % 64) := by
  induction a generalizing k with
  | nil => simp [lv]
  | cons x a ih =>
    have hx := x.toNat_lt
    have e : lv (x :: a) = 2 ^ 64 * lv a + x.toNat := by simp only [lv]; rw [Nat.add_comm]
    rw [e, Nat.testBit_two_pow_mul_add _ hx]
    split
    . rename_i h
      rw [Nat.div_eq_of_lt h, Nat.mod_eq_of_lt h]; rfl
    . rename_i h
      rw [ih]
      have e1 : k / 64 = (k - 64) / 64 + 1 := by omega
      have e2 : k % 64 = (k - 64) % 64 := by omega
      rw [e1, e2, List.getD_cons_succ]
theorem zlU (n k : Nat) : n / 2 ^ k % 2 = (n.testBit k).toNat := by
  rw [Nat.testBit_eq_decide_div_mod_eq]
  have := Nat.mod_two_eq_zero_or_one (n / 2 ^ k)
  rcases this with h | h <;> simp [h]
theorem zvS (x : UInt64) : (x &&& 1).toNat = x.toNat % 2 := by
  rw [UInt64.toNat_and]
  exact Nat.and_two_pow_sub_one_eq_mod x.toNat 1
theorem zi7 (n k : Nat) : Int.tdiv (n : Int) (k : Int) = ((n / k : Nat) : Int) := rfl
theorem zm0 {n : Nat} (h : n < 18446744073709551616) : (u64I (n : Int)).toNat = n := by
  unfold u64I
  rw [UInt64.toNat_ofNat']
  omega
end
section
theorem zvT (N : Nat) (a : List UInt64) (i : Nat) : q165 N a (i : Int) = some (a.getD i 0, ()) := by
  unfold q165
  rw [za7]
  by_cases h : i < a.length
  . rw [zax h, cond_true, zaw, Bool.true_and, zdw rfl]
    rfl
  . rw [zbO h, cond_false, zcc (by omega)]
theorem zvU (N : Nat) (a : List UInt64) (ha : a.length * 8 <= 140737488355328) : ∀ n k : Nat, k <= a.length -> k < n -> (∀ j, k <= j -> a.getD j 0 = 0) -> zmY N n a (k : Int) = some (cutL a, ()) := by
  intro n
  induction n with
  | zero => intro k _ h; omega
  | succ n ih =>
    intro k hk hn h0
    rw [zlS]
    unfold zqK
    have fin : (k = 0 \/ a.getD (k - 1) 0 ≠ 0) -> must (leI 0 (k : Int) && leI (k : Int) (a.length : Int)) (must (leN ((0 + (List.take (Int.toNat ((k : Int) - 0)) a).length) * 8) 140737488355328) (some (List.take (Int.toNat ((k : Int) - 0)) a, ()))) = some (cutL a, ()) := fun h1 => by
      have e1 : Int.toNat ((k : Int) - 0) = k := by omega
      rw [e1, zaw, ziU, zay hk, zcf, zdw (zay (by rw [List.length_take]; omega)), zkg a k hk h0 h1]
    cases k with
    | zero =>
      rw [show ltI 0 ((0 : Nat) : Int) = false from rfl, cond_false]
      exact fin (.inl rfl)
    | succ k =>
      rw [zae (by omega), cond_true, zi6 (by omega), zaw, za7, zax (by omega), zcf]
      simp only [Int.toNat_natCast]
      by_cases hz : a.getD k 0 = 0
      . rw [hz]
        simp only [beq_self_eq_true, cond_true]
        refine ih k (by omega) (by omega) fun j hj => ?_
        by_cases e : j = k
        . rw [e]; exact hz
        . exact h0 j (by omega)
      . rw [beq_eq_false_iff_ne.2 hz, cond_false]
        exact fin (.inr hz)
theorem zvV {N : Nat} {a : List UInt64} (ha : a.length < 1000000) (hN : a.length < N) : q161 N a = some (cutL a, ()) := by
  unfold q161
  exact zvU N a (by omega) N a.length (Nat.le_refl _) hN fun j hj => zcc hj
theorem zvW {N : Nat} {a : List UInt64} {i : Nat} (hi : i < 1000000) : ∃ x : UInt64, q162 N a (i : Int) = some (x, ()) /\ x.toNat = lv a / 2 ^ i % 2 := by
  unfold q162
  have e1 : wr (Int.tdiv (i : Int) 64) = ((i / 64 : Nat) : Int) := by
    rw [show (64 : Int) = ((64 : Nat) : Int) from rfl, zi7, zbN (by omega) (by omega)]
  have e2 : Int.tmod (i : Int) 64 = ((i % 64 : Nat) : Int) := rfl
  rw [e1, e2, ziU]
  by_cases h : a.length <= i / 64
  . rw [zay h, cond_true]
    refine ⟨0, rfl, ?_⟩
    rw [zlU, ztY, zcc h]
    simp
  . rw [zpx h, cond_false, zaw, za7, zax (by omega), zcf, zdw (zaw _), zdw (zae (by omega))]
    simp only [Int.toNat_natCast]
    refine ⟨_, rfl, ?_⟩
    rw [zvS, zeN, UInt64.toNat_ofNat', Nat.mod_eq_of_lt (show i % 64 < 2 ^ 64 by omega), zlU, zlU, ztY]
end
section
theorem mst {R : Type} {x : Option R} : must true x = x := rfl
def RR : Nat := 52435875175126190479447740508185965837690552500527637822603658699938581184513
def Binv : Nat := 12549076656233958353659347336803947287922716146853412054870763148006372261952
theorem zqZ : 18446744073709551616 ^ 4 * Binv % RR = 1 := by decide +kernel
def fv (x : Fr) : Nat := lv x.l
theorem zyE (x : Fr) : fv x < 18446744073709551616 ^ 4 := zlT x.l
theorem zyF {x y : Fr} (h : fv x = fv y) : x = y := by
  obtain ⟨a, b, c, d⟩ := x
  obtain ⟨a', b', c', d'⟩ := y
  simp only [fv, Fr.l, lv] at h
  have h1 := a.toNat_lt
  have h2 := b.toNat_lt
  have h3 := c.toNat_lt
  have h4 := d.toNat_lt
  have h5 := a'.toNat_lt
  have h6 := b'.toNat_lt
  have h7 := c'.toNat_lt
  have h8 := d'.toNat_lt
  have e1 : a.toNat = a'.toNat := by omega
  have e2 : b.toNat = b'.toNat := by omega
  have e3 : c.toNat = c'.toNat := by omega
  have e4 : d.toNat = d'.toNat := by omega
  rw [UInt64.toNat_inj.1 e1, UInt64.toNat_inj.1 e2, UInt64.toNat_inj.1 e3, UInt64.toNat_inj.1 e4]
theorem mac' (N : Nat) (x y t c : UInt64) : ∃ hi lo, q163 N x y = some (hi, lo, ()) /\ ∃ s1 k1, kAdd t lo 0 = some (s1, k1) /\ ∃ s2 k2, kAdd s1 c 0 = some (s2, k2) /\ s2.toNat + 18446744073709551616 * (hi + k1 + k2).toNat = x.toNat * y.toNat + t.toNat + c.toNat := by
  obtain ⟨hi, lo, h1, h2⟩ := zqY N x y
  obtain ⟨s1, k1, h3, h4, h5⟩ := zfh (x := t) (y := lo) (c := 0) (by decide)
  obtain ⟨s2, k2, h6, h7, h8⟩ := zfh (x := s1) (y := c) (c := 0) (by decide)
  refine ⟨hi, lo, h1, s1, k1, h3, s2, k2, h6, ?_⟩
  have hz : (0 : UInt64).toNat = 0 := rfl
  have hxy : x.toNat * y.toNat <= 18446744073709551615 * 18446744073709551615 := Nat.mul_le_mul (by have := x.toNat_lt; omega) (by have := y.toNat_lt; omega)
  have ht := t.toNat_lt
  have hc := c.toNat_lt
  have hs := s2.toNat_lt
  rw [hz] at h5 h8
  have e : (hi + k1 + k2).toNat = hi.toNat + k1.toNat + k2.toNat := by
    rw [UInt64.toNat_add, UInt64.toNat_add]
    omega
  rw [e]
  omega
theorem zvX (x y : UInt64) : ∃ s d, kAdd x y 0 = some (s, d) /\ d.toNat <= 1 /\ s.toNat + 18446744073709551616 * d.toNat = x.toNat + y.toNat := by
  obtain ⟨s, d, h1, h2, h3⟩ := zfh (x := x) (y := y) (c := 0) (by decide)
  exact ⟨s, d, h1, h2, by simpa using h3⟩
end
section
def mL : List UInt64 := [18446744069414584321, 6034159408538082302, 3691218898639771653, 8353516859464449352]
theorem zkh : lv mL = RR := by decide +kernel
theorem zvY (x : UInt64) : (x * 18446744069414584319).toNat * 18446744069414584321 % 18446744073709551616 = (18446744073709551616 - x.toNat) % 18446744073709551616 := by
  have hx := x.toNat_lt
  rw [UInt64.toNat_mul, show UInt64.toNat 18446744069414584319 = 18446744069414584319 from rfl, Nat.mod_mul_mod, Nat.mul_assoc]
  omega
theorem zs3 {x y T q r : Nat} (h : 18446744073709551616 ^ 4 * T = x * y + q * RR) (hr : r = T \/ r + RR = T) (hlt : r < RR) : r = x * y * Binv % RR := by
  have e1 : 18446744073709551616 ^ 4 * r % RR = x * y % RR := by
    rcases hr with rfl | hr
    . rw [h, Nat.add_mul_mod_self_right]
    . have : 18446744073709551616 ^ 4 * r + 18446744073709551616 ^ 4 * RR = x * y + q * RR := by rw [← h, ← hr, Nat.mul_add]
      have h2 := congrArg (· % RR) this
      simp only [Nat.add_mul_mod_self_right] at h2
      exact h2
  have e2 : r * (18446744073709551616 ^ 4 * Binv) % RR = r := by
    rw [Nat.mul_mod, zqZ, Nat.mul_one, Nat.mod_mod, Nat.mod_eq_of_lt hlt]
  rw [← e2, ← Nat.mul_assoc, Nat.mul_comm r, Nat.mul_mod, e1, ← Nat.mul_mod]
theorem zvZ : lv [14526898881837571181, 3129137299524312099, 419701826671360399, 524908885293268753] * Binv % RR = 18446744073709551616 ^ 4 % RR := by decide +kernel
theorem zg1 (x : Nat) : x % RR < RR := Nat.mod_lt _ (by decide)
end
end Go.Proofs.Ytgimohchocjgcaa.V
