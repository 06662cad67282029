import Derived.Test.YtgimohchocjgcaaVWA1
import Derived.Test.YtgimohchocjgcaaVUM
import Derived.KernelRfl
import Derived.Test.YtgimohchocjgcaaVME
set_option linter.unusedVariables false
set_option linter.unusedSimpArgs false
namespace Go.Proofs.Ytgimohchocjgcaa.V
section
def q75 (N : Nat) (n0 : UInt64) : Option (Fr × Unit) :=
  some (({ a0 := n0, a1 := (0 : UInt64), a2 := (0 : UInt64), a3 := (0 : UInt64) }, ()))
theorem zz3 : p75 = q75 := by
  (repeat (apply funext; intro _))
  simp only [p75, q75, ]
def q169 (N : Nat) : Option (Fr × Unit) :=
  some (({ a0 := (18446744069414584321 : UInt64), a1 := (6034159408538082302 : UInt64), a2 := (3691218898639771653 : UInt64), a3 := (8353516859464449352 : UInt64) }, ()))
theorem zw9 : p169 = q169 := by
  (repeat (apply funext; intro _))
  simp only [p169, q169, ]
def zxa (N : Nat) (A_5 : UInt64 -> UInt64 -> Int -> (List UInt64) -> (List UInt64) -> (List UInt64) -> (List UInt64) -> Option (Fr × Unit)) (over1 borrow7 : UInt64) (t10 : Int) (ob0 ob1 ob2 ob3 : List UInt64) : Option (Fr × Unit) :=
  cond ((ltI t10 (4 : Int))) (must (leI (0 : Int) t10 && ltI t10 (↑(4 : Nat) : Int)) (must (leI (0 : Int) t10 && ltI t10 (↑(4 : Nat) : Int)) (Option.bind (kSub (List.getD ob0 t10.toNat (0 : UInt64)) (List.getD ob2 t10.toNat (0 : UInt64)) borrow7) fun r2 => must (leI (0 : Int) t10 && ltI t10 (↑(4 : Nat) : Int)) (A_5 over1 r2.2 ((wr (t10 + (1 : Int)))) ob0 ob1 ob2 (setL ob3 t10.toNat r2.1))))) (cond ((ltN over1.toNat borrow7.toNat)) (must (Nat.beq ob0.length (4 : Nat)) (Option.bind (Fr.of? ob0) fun r1 => some ((r1, ())))) (must (Nat.beq ob3.length (4 : Nat)) (Option.bind (Fr.of? ob3) fun r0 => some ((r0, ())))))
def zxb (N n : Nat) (over1 borrow7 : UInt64) (t10 : Int) (ob0 ob1 ob2 ob3 : List UInt64) : Option (Fr × Unit) :=
  zap (fun A x => zxa N (fun over1 borrow7 t10 ob0 ob1 ob2 ob3 => A ((over1, ((), ((), ((), ((), (borrow7, (t10, ()))))))), (ob0, (ob1, (ob2, (ob3, ())))))) x.1.1 x.1.2.2.2.2.2.1 x.1.2.2.2.2.2.2.1 x.2.1 x.2.2.1 x.2.2.2.1 x.2.2.2.2.1) n ((over1, ((), ((), ((), ((), (borrow7, (t10, ()))))))), (ob0, (ob1, (ob2, (ob3, ())))))
def q174 (N : Nat) (a0 : Fr) (over1 : UInt64) : Option (Fr × Unit) :=
  Option.bind (q169 N) fun r0 => zxb N N over1 (0 : UInt64) (0 : Int) ([Fr.a0 a0, Fr.a1 a0, Fr.a2 a0, Fr.a3 a0]) ([(0 : UInt64), (0 : UInt64), (0 : UInt64), (0 : UInt64)]) ([Fr.a0 r0.1, Fr.a1 r0.1, Fr.a2 r0.1, Fr.a3 r0.1]) ([(0 : UInt64), (0 : UInt64), (0 : UInt64), (0 : UInt64)])
def q79 (N : Nat) (a0 : Fr) : Option (Bool × Unit) :=
  Option.bind (q169 N) fun r0 => Option.bind (q61 N (List.take (Int.toNat ((↑(4 : Nat) : Int) - (0 : Int))) [Fr.a0 a0, Fr.a1 a0, Fr.a2 a0, Fr.a3 a0]) (List.take (Int.toNat ((↑(4 : Nat) : Int) - (0 : Int))) [Fr.a0 r0.1, Fr.a1 r0.1, Fr.a2 r0.1, Fr.a3 r0.1])) fun r1 => some (((ltI r1.1 (0 : Int)), ()))
theorem zxc : p79 = q79 := by
  (repeat (apply funext; intro _))
  simp only [p79, q79, hide_eq, zw9, zzI]
def q88 (N : Nat) : Option (List UInt64 × Unit) :=
  some (([(18446744069414584321 : UInt64), (6034159408538082302 : UInt64), (3691218898639771653 : UInt64), (8353516859464449352 : UInt64)], ()))
theorem zrH : p88 = q88 := by
  (repeat (apply funext; intro _))
  simp only [p88, q88, ]
def zhc (N : Nat) (A_2 : (List UInt64) -> (List UInt64) -> Int -> Option (Bool × Unit)) (a0 m1 : List UInt64) (i5 : Int) : Option (Bool × Unit) :=
  cond ((leI (0 : Int) i5)) (must (leI (0 : Int) i5 && ltI i5 (↑a0.length : Int)) (must (leI (0 : Int) i5 && ltI i5 (↑m1.length : Int)) (cond (!List.getD a0 i5.toNat (0 : UInt64) == List.getD m1 i5.toNat (0 : UInt64)) (must (leI (0 : Int) i5 && ltI i5 (↑a0.length : Int)) (must (leI (0 : Int) i5 && ltI i5 (↑m1.length : Int)) (some (((ltN (UInt64.toNat (List.getD a0 i5.toNat (0 : UInt64))) (UInt64.toNat (List.getD m1 i5.toNat (0 : UInt64)))), ()))))) (A_2 a0 m1 ((wr (i5 - (1 : Int)))))))) (some ((false, ())))
theorem zrI : zou = zhc := by
  (repeat (apply funext; intro _))
  simp only [zou, zhc, hide_eq]
def zhd (N n : Nat) (a0 m1 : List UInt64) (i5 : Int) : Option (Bool × Unit) :=
  zap (fun A x => zhc N (fun a0 m1 i5 => A ((a0, (m1, (i5, ()))), ())) x.1.1 x.1.2.1 x.1.2.2.1) n ((a0, (m1, (i5, ()))), ())
theorem zrJ : zov = zhd := by
  (repeat (apply funext; intro _))
  simp only [zov, zhd, zrI]
theorem zgf (N n : Nat) (a0 m1 : List UInt64) (i5 : Int) : zhd N (n + 1) a0 m1 i5 = zhc N (zhd N n) a0 m1 i5 := rfl
def q168 (N : Nat) (a0 m1 : List UInt64) : Option (Bool × Unit) :=
  zhd N N a0 m1 ((wr ((↑m1.length : Int) - (1 : Int))))
theorem zpw : p168 = q168 := by
  (repeat (apply funext; intro _))
  simp only [p168, q168, hide_eq, zrJ]
def q69 (N : Nat) (a0 : Fr) : Option (Bool × Unit) :=
  Option.bind (q88 N) fun r0 => Option.bind (q168 N (List.take (Int.toNat ((↑(4 : Nat) : Int) - (0 : Int))) [Fr.a0 a0, Fr.a1 a0, Fr.a2 a0, Fr.a3 a0]) r0.1) fun r1 => some ((Prod.fst r1, ()))
theorem zz4 : p69 = q69 := by
  (repeat (apply funext; intro _))
  simp only [p69, q69, zpw, zrH]
def q173 (N : Nat) (n0 : UInt64) : Option (Fr × Unit) :=
  some (({ a0 := n0, a1 := (0 : UInt64), a2 := (0 : UInt64), a3 := (0 : UInt64) }, ()))
theorem zlX : p173 = q173 := by
  (repeat (apply funext; intro _))
  simp only [p173, q173, ]
def zhe (N : Nat) (A_2 : Nat -> Nat -> (List UInt64) -> UInt64 -> Int -> (List UInt64) -> Option (List UInt64 × Unit)) (t0f t0n : Nat) (m1 : List UInt64) (c4 : UInt64) (i5 : Int) (t0o : List UInt64) : Option (List UInt64 × Unit) :=
  cond ((ltI i5 (↑m1.length : Int))) (must (leI (0 : Int) i5 && ltI i5 (↑t0n : Int)) (must (leI (0 : Int) i5 && ltI i5 (↑m1.length : Int)) (Option.bind (kSub (List.getD t0o (t0f + Int.toNat i5) (0 : UInt64)) (List.getD m1 i5.toNat (0 : UInt64)) c4) fun r0 => must (leI (0 : Int) i5 && ltI i5 (↑t0n : Int)) (A_2 t0f t0n m1 r0.2 ((wr (i5 + (1 : Int)))) (setL t0o (t0f + Int.toNat i5) r0.1))))) (some ((t0o, ())))
theorem zrK : zoy = zhe := by
  (repeat (apply funext; intro _))
  simp only [zoy, zhe, hide_eq]
def zhf (N n t0f t0n : Nat) (m1 : List UInt64) (c4 : UInt64) (i5 : Int) (t0o : List UInt64) : Option (List UInt64 × Unit) :=
  zap (fun A x => zhe N (fun t0f t0n m1 c4 i5 t0o => A (((t0f, t0n), (m1, (c4, (i5, ())))), (t0o, ()))) x.1.1.1 x.1.1.2 x.1.2.1 x.1.2.2.1 x.1.2.2.2.1 x.2.1) n (((t0f, t0n), (m1, (c4, (i5, ())))), (t0o, ()))
theorem zrL : zoz = zhf := by
  (repeat (apply funext; intro _))
  simp only [zoz, zhf, zrK]
theorem zgg (N n t0f t0n : Nat) (m1 : List UInt64) (c4 : UInt64) (i5 : Int) (t0o : List UInt64) : zhf N (n + 1) t0f t0n m1 c4 i5 t0o = zhe N (zhf N n) t0f t0n m1 c4 i5 t0o := rfl
def q214 (N : Nat) (t0 m1 : List UInt64) : Option (List UInt64 × Unit) :=
  zhf N N (0 : Nat) t0.length m1 (0 : UInt64) (0 : Int) t0
theorem zsV : p214 = q214 := by
  (repeat (apply funext; intro _))
  simp only [p214, q214, zrL]
def zdP (N : Nat) (A_10 : (List UInt64) -> (List UInt64) -> (List UInt64) -> Int -> UInt64 -> Int -> (List UInt64) -> Option (List UInt64 × Unit)) (A_27 : (List UInt64) -> (List UInt64) -> (List UInt64) -> Int -> UInt64 -> Int -> UInt64 -> UInt64 -> Int -> (List UInt64) -> Option (List UInt64 × Unit)) (a0 b1 m2 : List UInt64) (n7 : Int) (inv8 : UInt64) (i11 : Int) (c12 q21 : UInt64) (k24 : Int) (t10o : List UInt64) : Option (List UInt64 × Unit) :=
  cond ((ltI k24 n7)) (must (leI (0 : Int) k24 && ltI k24 (↑m2.length : Int)) (Option.bind (q163 N q21 (List.getD m2 k24.toNat (0 : UInt64))) fun r1 => must (leI (0 : Int) k24 && ltI k24 (↑t10o.length : Int)) (Option.bind (kAdd (List.getD t10o k24.toNat (0 : UInt64)) (r1.2.1) (0 : UInt64)) fun r2 => Option.bind (kAdd r2.1 c12 (0 : UInt64)) fun r3 => must (leI (0 : Int) ((wr (k24 - (1 : Int)))) && ltI ((wr (k24 - (1 : Int)))) (↑t10o.length : Int)) (A_27 a0 b1 m2 n7 inv8 i11 (((Prod.fst r1 + Prod.snd r2) + Prod.snd r3)) q21 ((wr (k24 + (1 : Int)))) (setL t10o (Int.toNat ((wr (k24 - (1 : Int))))) r3.1))))) (must (leI (0 : Int) n7 && ltI n7 (↑t10o.length : Int)) (Option.bind (kAdd (List.getD t10o n7.toNat (0 : UInt64)) c12 (0 : UInt64)) fun r0 => must (leI (0 : Int) ((wr (n7 + (1 : Int)))) && ltI ((wr (n7 + (1 : Int)))) (↑t10o.length : Int)) (must (leI (0 : Int) ((wr (n7 - (1 : Int)))) && ltI ((wr (n7 - (1 : Int)))) (↑t10o.length : Int)) (must (leI (0 : Int) n7 && ltI n7 (↑(List.length (setL t10o (Int.toNat ((wr (n7 - (1 : Int))))) r0.1)) : Int)) (A_10 a0 b1 m2 n7 inv8 ((wr (i11 + (1 : Int)))) (setL (setL t10o (Int.toNat ((wr (n7 - (1 : Int))))) r0.1) n7.toNat ((List.getD t10o (Int.toNat ((wr (n7 + (1 : Int))))) (0 : UInt64) + Prod.snd r0))))))))
theorem zpx : zkp = zdP := by
  (repeat (apply funext; intro _))
  simp only [zkp, zdP, hide_eq, zsU]
def zdi (N : Nat) (A_10 : (List UInt64) -> (List UInt64) -> (List UInt64) -> Int -> UInt64 -> Int -> (List UInt64) -> Option (List UInt64 × Unit)) (n : Nat) (a0 b1 m2 : List UInt64) (n7 : Int) (inv8 : UInt64) (i11 : Int) (c12 q21 : UInt64) (k24 : Int) (t10o : List UInt64) : Option (List UInt64 × Unit) :=
  zap (fun A x => zdP N A_10 (fun a0 b1 m2 n7 inv8 i11 c12 q21 k24 t10o => A ((a0, (b1, (m2, (n7, (inv8, ((), (i11, (c12, (q21, (k24, ())))))))))), (t10o, ()))) x.1.1 x.1.2.1 x.1.2.2.1 x.1.2.2.2.1 x.1.2.2.2.2.1 x.1.2.2.2.2.2.2.1 x.1.2.2.2.2.2.2.2.1 x.1.2.2.2.2.2.2.2.2.1 x.1.2.2.2.2.2.2.2.2.2.1 x.2.1) n ((a0, (b1, (m2, (n7, (inv8, ((), (i11, (c12, (q21, (k24, ())))))))))), (t10o, ()))
theorem zpy : zkq = zdi := by
  (repeat (apply funext; intro _))
  simp only [zkq, zdi, zpx]
theorem ze5 (N : Nat) (A_10 : (List UInt64) -> (List UInt64) -> (List UInt64) -> Int -> UInt64 -> Int -> (List UInt64) -> Option (List UInt64 × Unit)) (n : Nat) (a0 b1 m2 : List UInt64) (n7 : Int) (inv8 : UInt64) (i11 : Int) (c12 q21 : UInt64) (k24 : Int) (t10o : List UInt64) : zdi N A_10 (n + 1) a0 b1 m2 n7 inv8 i11 c12 q21 k24 t10o = zdP N A_10 (zdi N A_10 n) a0 b1 m2 n7 inv8 i11 c12 q21 k24 t10o := rfl
def zdQ (N : Nat) (A_10 : (List UInt64) -> (List UInt64) -> (List UInt64) -> Int -> UInt64 -> Int -> (List UInt64) -> Option (List UInt64 × Unit)) (A_14 : (List UInt64) -> (List UInt64) -> (List UInt64) -> Int -> UInt64 -> Int -> UInt64 -> Int -> (List UInt64) -> Option (List UInt64 × Unit)) (a0 b1 m2 : List UInt64) (n7 : Int) (inv8 : UInt64) (i11 : Int) (c12 : UInt64) (k13 : Int) (t10o : List UInt64) : Option (List UInt64 × Unit) :=
  cond ((ltI k13 n7)) (must (leI (0 : Int) i11 && ltI i11 (↑a0.length : Int)) (must (leI (0 : Int) k13 && ltI k13 (↑b1.length : Int)) (Option.bind (q163 N (List.getD a0 i11.toNat (0 : UInt64)) (List.getD b1 k13.toNat (0 : UInt64))) fun r3 => must (leI (0 : Int) k13 && ltI k13 (↑t10o.length : Int)) (Option.bind (kAdd (List.getD t10o k13.toNat (0 : UInt64)) (r3.2.1) (0 : UInt64)) fun r4 => Option.bind (kAdd r4.1 c12 (0 : UInt64)) fun r5 => must (leI (0 : Int) k13 && ltI k13 (↑t10o.length : Int)) (A_14 a0 b1 m2 n7 inv8 i11 (((Prod.fst r3 + Prod.snd r4) + Prod.snd r5)) ((wr (k13 + (1 : Int)))) (setL t10o k13.toNat r5.1)))))) (must (leI (0 : Int) n7 && ltI n7 (↑t10o.length : Int)) (Option.bind (kAdd (List.getD t10o n7.toNat (0 : UInt64)) c12 (0 : UInt64)) fun r0 => must (leI (0 : Int) n7 && ltI n7 (↑t10o.length : Int)) (must (leI (0 : Int) ((wr (n7 + (1 : Int)))) && ltI ((wr (n7 + (1 : Int)))) (↑(List.length (setL t10o n7.toNat r0.1)) : Int)) (must (ltI (0 : Int) (↑(List.length (setL (setL t10o n7.toNat r0.1) (Int.toNat ((wr (n7 + (1 : Int))))) r0.2)) : Int)) (must (ltI (0 : Int) (↑m2.length : Int)) (Option.bind (q163 N ((List.getD (setL (setL t10o n7.toNat r0.1) (Int.toNat ((wr (n7 + (1 : Int))))) r0.2) (0 : Nat) (0 : UInt64) * inv8)) (List.getD m2 (0 : Nat) (0 : UInt64))) fun r1 => must (ltI (0 : Int) (↑(List.length (setL (setL t10o n7.toNat r0.1) (Int.toNat ((wr (n7 + (1 : Int))))) r0.2)) : Int)) (Option.bind (kAdd (List.getD (setL (setL t10o n7.toNat r0.1) (Int.toNat ((wr (n7 + (1 : Int))))) r0.2) (0 : Nat) (0 : UInt64)) (r1.2.1) (0 : UInt64)) fun r2 => zdi N A_10 N a0 b1 m2 n7 inv8 i11 ((Prod.fst r1 + Prod.snd r2)) ((List.getD (setL (setL t10o n7.toNat r0.1) (Int.toNat ((wr (n7 + (1 : Int))))) r0.2) (0 : Nat) (0 : UInt64) * inv8)) (1 : Int) (setL (setL t10o n7.toNat r0.1) (Int.toNat ((wr (n7 + (1 : Int))))) r0.2))))))))
theorem zpz : zkr = zdQ := by
  (repeat (apply funext; intro _))
  simp only [zkr, zdQ, hide_eq, zpy, zsU]
def zdR (N : Nat) (A_10 : (List UInt64) -> (List UInt64) -> (List UInt64) -> Int -> UInt64 -> Int -> (List UInt64) -> Option (List UInt64 × Unit)) (n : Nat) (a0 b1 m2 : List UInt64) (n7 : Int) (inv8 : UInt64) (i11 : Int) (c12 : UInt64) (k13 : Int) (t10o : List UInt64) : Option (List UInt64 × Unit) :=
  zap (fun A x => zdQ N A_10 (fun a0 b1 m2 n7 inv8 i11 c12 k13 t10o => A ((a0, (b1, (m2, (n7, (inv8, ((), (i11, (c12, (k13, ()))))))))), (t10o, ()))) x.1.1 x.1.2.1 x.1.2.2.1 x.1.2.2.2.1 x.1.2.2.2.2.1 x.1.2.2.2.2.2.2.1 x.1.2.2.2.2.2.2.2.1 x.1.2.2.2.2.2.2.2.2.1 x.2.1) n ((a0, (b1, (m2, (n7, (inv8, ((), (i11, (c12, (k13, ()))))))))), (t10o, ()))
theorem zpA : zks = zdR := by
  (repeat (apply funext; intro _))
  simp only [zks, zdR, zpz]
theorem ze6 (N : Nat) (A_10 : (List UInt64) -> (List UInt64) -> (List UInt64) -> Int -> UInt64 -> Int -> (List UInt64) -> Option (List UInt64 × Unit)) (n : Nat) (a0 b1 m2 : List UInt64) (n7 : Int) (inv8 : UInt64) (i11 : Int) (c12 : UInt64) (k13 : Int) (t10o : List UInt64) : zdR N A_10 (n + 1) a0 b1 m2 n7 inv8 i11 c12 k13 t10o = zdQ N A_10 (zdR N A_10 n) a0 b1 m2 n7 inv8 i11 c12 k13 t10o := rfl
def zeM (N : Nat) (A_10 : (List UInt64) -> (List UInt64) -> (List UInt64) -> Int -> UInt64 -> Int -> (List UInt64) -> Option (List UInt64 × Unit)) (a0 b1 m2 : List UInt64) (n7 : Int) (inv8 : UInt64) (i11 : Int) (t10o : List UInt64) : Option (List UInt64 × Unit) :=
  cond ((ltI i11 n7)) (zdR N A_10 N a0 b1 m2 n7 inv8 i11 (0 : UInt64) (0 : Int) t10o) (must (leI (0 : Int) n7 && ltI n7 (↑t10o.length : Int)) (cond (!List.getD t10o n7.toNat (0 : UInt64) == (0 : UInt64)) (must (ltN (0 : Nat) t10o.length) (Option.bind (q214 N t10o m2) fun r2 => must (Nat.beq r2.1.length t10o.length) (must (leI (0 : Int) n7 && leI n7 (↑r2.1.length : Int)) (must (ltN (0 : Nat) (Int.toNat (n7 - (0 : Int)))) (some ((List.take (Int.toNat (n7 - (0 : Int))) r2.1, ()))))))) (must (leI (0 : Int) n7 && leI n7 (↑t10o.length : Int)) (Option.bind (q168 N (List.take (Int.toNat (n7 - (0 : Int))) t10o) m2) fun r0 => cond (!r0.1) (must (ltN (0 : Nat) t10o.length) (Option.bind (q214 N t10o m2) fun r1 => must (Nat.beq r1.1.length t10o.length) (must (leI (0 : Int) n7 && leI n7 (↑r1.1.length : Int)) (must (ltN (0 : Nat) (Int.toNat (n7 - (0 : Int)))) (some ((List.take (Int.toNat (n7 - (0 : Int))) r1.1, ()))))))) (must (leI (0 : Int) n7 && leI n7 (↑t10o.length : Int)) (must (ltN (0 : Nat) (Int.toNat (n7 - (0 : Int)))) (some ((List.take (Int.toNat (n7 - (0 : Int))) t10o, ())))))))))
theorem zpB : zkt = zeM := by
  (repeat (apply funext; intro _))
  simp only [zkt, zeM, hide_eq, zpA, zpw, zsV]
def zbo (N n : Nat) (a0 b1 m2 : List UInt64) (n7 : Int) (inv8 : UInt64) (i11 : Int) (t10o : List UInt64) : Option (List UInt64 × Unit) :=
  zap (fun A x => zeM N (fun a0 b1 m2 n7 inv8 i11 t10o => A ((a0, (b1, (m2, (n7, (inv8, ((), (i11, ()))))))), (t10o, ()))) x.1.1 x.1.2.1 x.1.2.2.1 x.1.2.2.2.1 x.1.2.2.2.2.1 x.1.2.2.2.2.2.2.1 x.2.1) n ((a0, (b1, (m2, (n7, (inv8, ((), (i11, ()))))))), (t10o, ()))
theorem zpC : zku = zbo := by
  (repeat (apply funext; intro _))
  simp only [zku, zbo, zpB]
theorem ze7 (N n : Nat) (a0 b1 m2 : List UInt64) (n7 : Int) (inv8 : UInt64) (i11 : Int) (t10o : List UInt64) : zbo N (n + 1) a0 b1 m2 n7 inv8 i11 t10o = zeM N (zbo N n) a0 b1 m2 n7 inv8 i11 t10o := rfl
def zhg (N : Nat) (A_4 : (List UInt64) -> (List UInt64) -> (List UInt64) -> Int -> UInt64 -> Int -> Option (List UInt64 × Unit)) (a0 b1 m2 : List UInt64) (n7 : Int) (inv8 : UInt64) (i9 : Int) : Option (List UInt64 × Unit) :=
  cond ((ltI i9 (6 : Int))) (must (ltI (0 : Int) (↑m2.length : Int)) (A_4 a0 b1 m2 n7 ((inv8 * ((2 : UInt64) - (List.getD m2 (0 : Nat) (0 : UInt64) * inv8)))) ((wr (i9 + (1 : Int)))))) (must (leI (0 : Int) ((wr (n7 + (2 : Int)))) && (eqI ((wr (n7 + (2 : Int)))) ((wr (n7 + (2 : Int)))) && leN (Int.toNat ((wr (n7 + (2 : Int)))) * (8 : Nat)) (140737488355328 : Nat))) (zbo N N a0 b1 m2 n7 (((0 : UInt64) - inv8)) (0 : Int) (List.replicate (Int.toNat ((wr (n7 + (2 : Int))))) (0 : UInt64))))
theorem zrM : zoC = zhg := by
  (repeat (apply funext; intro _))
  simp only [zoC, zhg, hide_eq, zpC]
def zdD (N n : Nat) (a0 b1 m2 : List UInt64) (n7 : Int) (inv8 : UInt64) (i9 : Int) : Option (List UInt64 × Unit) :=
  zap (fun A x => zhg N (fun a0 b1 m2 n7 inv8 i9 => A ((a0, (b1, (m2, (n7, (inv8, (i9, ())))))), ())) x.1.1 x.1.2.1 x.1.2.2.1 x.1.2.2.2.1 x.1.2.2.2.2.1 x.1.2.2.2.2.2.1) n ((a0, (b1, (m2, (n7, (inv8, (i9, ())))))), ())
theorem zrN : zoD = zdD := by
  (repeat (apply funext; intro _))
  simp only [zoD, zdD, zrM]
theorem zgh (N n : Nat) (a0 b1 m2 : List UInt64) (n7 : Int) (inv8 : UInt64) (i9 : Int) : zdD N (n + 1) a0 b1 m2 n7 inv8 i9 = zhg N (zdD N n) a0 b1 m2 n7 inv8 i9 := rfl
def q184 (N : Nat) (a0 b1 m2 : List UInt64) : Option (List UInt64 × Unit) :=
  must (ltI (0 : Int) (↑m2.length : Int)) (zdD N N a0 b1 m2 ((↑m2.length : Int)) (List.getD m2 (0 : Nat) (0 : UInt64)) (0 : Int))
theorem zxd : p184 = q184 := by
  (repeat (apply funext; intro _))
  simp only [p184, q184, zrN]
def q175 (N : Nat) (a0 : List UInt64) : Option (Fr × Unit) :=
  must (Nat.beq (List.length (zan [(0 : UInt64), (0 : UInt64), (0 : UInt64), (0 : UInt64)] (Int.toNat (0 : Int)) (List.take (Int.toNat ((↑(4 : Nat) : Int) - (0 : Int))) a0))) (4 : Nat)) (Option.bind (Fr.of? (zan [(0 : UInt64), (0 : UInt64), (0 : UInt64), (0 : UInt64)] (Int.toNat (0 : Int)) (List.take (Int.toNat ((↑(4 : Nat) : Int) - (0 : Int))) a0))) fun r0 => some ((r0, ())))
theorem zpD : p175 = q175 := by
  (repeat (apply funext; intro _))
  simp only [p175, q175, ]
def q94 (N : Nat) (a0 b1 : Fr) : Option (Fr × Unit) :=
  Option.bind (q88 N) fun r0 => Option.bind (q184 N (List.take (Int.toNat ((↑(4 : Nat) : Int) - (0 : Int))) [Fr.a0 a0, Fr.a1 a0, Fr.a2 a0, Fr.a3 a0]) (List.take (Int.toNat ((↑(4 : Nat) : Int) - (0 : Int))) [Fr.a0 b1, Fr.a1 b1, Fr.a2 b1, Fr.a3 b1]) r0.1) fun r1 => Option.bind (q184 N (List.take r1.1.length (List.drop (0 : Nat) r1.1)) ([(14526898881837571181 : UInt64), (3129137299524312099 : UInt64), (419701826671360399 : UInt64), (524908885293268753 : UInt64)]) r0.1) fun r2 => Option.bind (q175 N (List.take r2.1.length (List.drop (0 : Nat) r2.1))) fun r3 => some (({ a0 := Fr.a0 r3.1, a1 := Fr.a1 r3.1, a2 := Fr.a2 r3.1, a3 := Fr.a3 r3.1 }, ()))
theorem zxe : p94 = q94 := by
  (repeat (apply funext; intro _))
  simp only [p94, q94, zpD, zxd, zrH]
def zmT (N : Nat) (A_3 : (List UInt64) -> Int -> (List UInt64) -> (List UInt64) -> (List UInt64) -> Option (Fr × Unit)) (e1 : List UInt64) (i6 : Int) (ob0 ob1 ob2 : List UInt64) : Option (Fr × Unit) :=
  cond ((leI (0 : Int) i6)) (Option.bind (Option.bind (Option.bind (Fr.of? ob2) fun r1 => Option.bind (Option.bind (Fr.of? ob2) fun r2 => some ((r2, ()))) fun r3 => some ((r1, r3))) fun r4 => q94 N r4.1 (r4.2.1)) fun r5 => Option.bind (q162 N e1 i6) fun r6 => cond ((Prod.fst r6 == (1 : UInt64))) (Option.bind (Option.bind (Option.bind (Option.bind (Fr.of? ob0) fun r7 => some ((r7, ()))) fun r8 => some (({ a0 := Fr.a0 r5.1, a1 := Fr.a1 r5.1, a2 := Fr.a2 r5.1, a3 := Fr.a3 r5.1 }, r8))) fun r9 => q94 N r9.1 (r9.2.1)) fun r10 => A_3 e1 ((wr (i6 - (1 : Int)))) ob0 ob1 ([Fr.a0 r10.1, Fr.a1 r10.1, Fr.a2 r10.1, Fr.a3 r10.1])) (A_3 e1 ((wr (i6 - (1 : Int)))) ob0 ob1 ([Fr.a0 r5.1, Fr.a1 r5.1, Fr.a2 r5.1, Fr.a3 r5.1]))) (must (Nat.beq ob2.length (4 : Nat)) (Option.bind (Fr.of? ob2) fun r0 => some ((r0, ()))))
theorem zuB : zua = zmT := by
  (repeat (apply funext; intro _))
  simp only [zua, zmT, hide_eq, zw8, zxe]
def zmU (N n : Nat) (e1 : List UInt64) (i6 : Int) (ob0 ob1 ob2 : List UInt64) : Option (Fr × Unit) :=
  zap (fun A x => zmT N (fun e1 i6 ob0 ob1 ob2 => A ((e1, ((), ((), ((), (i6, ()))))), (ob0, (ob1, (ob2, ()))))) x.1.1 x.1.2.2.2.2.1 x.2.1 x.2.2.1 x.2.2.2.1) n ((e1, ((), ((), ((), (i6, ()))))), (ob0, (ob1, (ob2, ()))))
theorem zuC : zub = zmU := by
  (repeat (apply funext; intro _))
  simp only [zub, zmU, zuB]
theorem zhh (N n : Nat) (e1 : List UInt64) (i6 : Int) (ob0 ob1 ob2 : List UInt64) : zmU N (n + 1) e1 i6 ob0 ob1 ob2 = zmT N (zmU N n) e1 i6 ob0 ob1 ob2 := rfl
def q73 (N : Nat) (a0 : Fr) (e1 : List UInt64) : Option (Fr × Unit) :=
  Option.bind (q173 N (1 : UInt64)) fun r0 => zmU N N e1 ((wr ((wr ((64 : Int) * (↑e1.length : Int))) - (1 : Int)))) ([Fr.a0 a0, Fr.a1 a0, Fr.a2 a0, Fr.a3 a0]) ([(0 : UInt64), (0 : UInt64), (0 : UInt64), (0 : UInt64)]) ([Fr.a0 r0.1, Fr.a1 r0.1, Fr.a2 r0.1, Fr.a3 r0.1])
theorem zz5 : p73 = q73 := by
  (repeat (apply funext; intro _))
  simp only [p73, q73, hide_eq, zuC, zlX]
def zuD (N : Nat) (A_4 : UInt64 -> Int -> (List UInt64) -> (List UInt64) -> (List UInt64) -> (List UInt64) -> Option (Fr × Unit)) (carry6 : UInt64) (t8 : Int) (ob0 ob1 ob2 ob3 : List UInt64) : Option (Fr × Unit) :=
  cond ((ltI t8 (4 : Int))) (must (leI (0 : Int) t8 && ltI t8 (↑(4 : Nat) : Int)) (must (leI (0 : Int) t8 && ltI t8 (↑(4 : Nat) : Int)) (Option.bind (kAdd (List.getD ob0 t8.toNat (0 : UInt64)) (List.getD ob1 t8.toNat (0 : UInt64)) carry6) fun r3 => must (leI (0 : Int) t8 && ltI t8 (↑(4 : Nat) : Int)) (A_4 r3.2 ((wr (t8 + (1 : Int)))) ob0 ob1 ob2 (setL ob3 t8.toNat r3.1))))) (Option.bind (Option.bind (Option.bind (Fr.of? ob3) fun r0 => some ((r0, carry6, ()))) fun r1 => q174 N r1.1 (r1.2.1)) fun r2 => some (({ a0 := Fr.a0 r2.1, a1 := Fr.a1 r2.1, a2 := Fr.a2 r2.1, a3 := Fr.a3 r2.1 }, ())))
def zrO (N n : Nat) (carry6 : UInt64) (t8 : Int) (ob0 ob1 ob2 ob3 : List UInt64) : Option (Fr × Unit) :=
  zap (fun A x => zuD N (fun carry6 t8 ob0 ob1 ob2 ob3 => A (((), ((), ((), ((), (carry6, (t8, ())))))), (ob0, (ob1, (ob2, (ob3, ())))))) x.1.2.2.2.2.1 x.1.2.2.2.2.2.1 x.2.1 x.2.2.1 x.2.2.2.1 x.2.2.2.2.1) n (((), ((), ((), ((), (carry6, (t8, ())))))), (ob0, (ob1, (ob2, (ob3, ())))))
theorem zmV (N n : Nat) (carry6 : UInt64) (t8 : Int) (ob0 ob1 ob2 ob3 : List UInt64) : zrO N (n + 1) carry6 t8 ob0 ob1 ob2 ob3 = zuD N (zrO N n) carry6 t8 ob0 ob1 ob2 ob3 := rfl
def zhi (N : Nat) (A_4 : (List UInt64) -> (List UInt64) -> (List UInt64) -> UInt64 -> Int -> (List UInt64) -> Option (List UInt64 × Unit)) (a0 b1 m2 : List UInt64) (c8 : UInt64) (i9 : Int) (t7o : List UInt64) : Option (List UInt64 × Unit) :=
  cond ((ltI i9 (↑m2.length : Int))) (must (leI (0 : Int) i9 && ltI i9 (↑a0.length : Int)) (must (leI (0 : Int) i9 && ltI i9 (↑b1.length : Int)) (Option.bind (kAdd (List.getD a0 i9.toNat (0 : UInt64)) (List.getD b1 i9.toNat (0 : UInt64)) c8) fun r3 => must (leI (0 : Int) i9 && ltI i9 (↑t7o.length : Int)) (A_4 a0 b1 m2 r3.2 ((wr (i9 + (1 : Int)))) (setL t7o i9.toNat r3.1))))) (cond ((c8 == (1 : UInt64))) (must (ltN (0 : Nat) t7o.length) (Option.bind (q214 N t7o m2) fun r2 => must (Nat.beq r2.1.length t7o.length) (some ((Prod.fst r2, ()))))) (Option.bind (q168 N t7o m2) fun r0 => cond (!r0.1) (must (ltN (0 : Nat) t7o.length) (Option.bind (q214 N t7o m2) fun r1 => must (Nat.beq r1.1.length t7o.length) (some ((Prod.fst r1, ()))))) (some ((t7o, ())))))
theorem zrP : zoG = zhi := by
  (repeat (apply funext; intro _))
  simp only [zoG, zhi, hide_eq, zpw, zsV]
def ze8 (N n : Nat) (a0 b1 m2 : List UInt64) (c8 : UInt64) (i9 : Int) (t7o : List UInt64) : Option (List UInt64 × Unit) :=
  zap (fun A x => zhi N (fun a0 b1 m2 c8 i9 t7o => A ((a0, (b1, (m2, ((), (c8, (i9, ())))))), (t7o, ()))) x.1.1 x.1.2.1 x.1.2.2.1 x.1.2.2.2.2.1 x.1.2.2.2.2.2.1 x.2.1) n ((a0, (b1, (m2, ((), (c8, (i9, ())))))), (t7o, ()))
theorem zrQ : zoH = ze8 := by
  (repeat (apply funext; intro _))
  simp only [zoH, ze8, zrP]
theorem zgi (N n : Nat) (a0 b1 m2 : List UInt64) (c8 : UInt64) (i9 : Int) (t7o : List UInt64) : ze8 N (n + 1) a0 b1 m2 c8 i9 t7o = zhi N (ze8 N n) a0 b1 m2 c8 i9 t7o := rfl
def q176 (N : Nat) (a0 b1 m2 : List UInt64) : Option (List UInt64 × Unit) :=
  must (eqI (↑m2.length : Int) (↑m2.length : Int) && leN (Int.toNat (↑m2.length : Int) * (8 : Nat)) (140737488355328 : Nat)) (ze8 N N a0 b1 m2 (0 : UInt64) (0 : Int) (List.replicate (Int.toNat (↑m2.length : Int)) (0 : UInt64)))
theorem zxf : p176 = q176 := by
  (repeat (apply funext; intro _))
  simp only [p176, q176, zrQ]
def q81 (N : Nat) (a0 b1 : Fr) : Option (Fr × Unit) :=
  Option.bind (q88 N) fun r0 => Option.bind (q176 N (List.take (Int.toNat ((↑(4 : Nat) : Int) - (0 : Int))) [Fr.a0 a0, Fr.a1 a0, Fr.a2 a0, Fr.a3 a0]) (List.take (Int.toNat ((↑(4 : Nat) : Int) - (0 : Int))) [Fr.a0 b1, Fr.a1 b1, Fr.a2 b1, Fr.a3 b1]) r0.1) fun r1 => Option.bind (q175 N r1.1) fun r2 => some (({ a0 := Fr.a0 r2.1, a1 := Fr.a1 r2.1, a2 := Fr.a2 r2.1, a3 := Fr.a3 r2.1 }, ()))
theorem zz6 : p81 = q81 := by
  (repeat (apply funext; intro _))
  simp only [p81, q81, zpD, zxf, zrH]
def zeN (N : Nat) (A_10 : (List UInt64) -> UInt64 -> Int -> (List UInt64) -> Option (List UInt64 × Unit)) (m2 : List UInt64) (c8 : UInt64) (i10 : Int) (t7o : List UInt64) : Option (List UInt64 × Unit) :=
  cond ((ltI i10 (↑m2.length : Int))) (must (leI (0 : Int) i10 && ltI i10 (↑t7o.length : Int)) (must (leI (0 : Int) i10 && ltI i10 (↑m2.length : Int)) (Option.bind (kAdd (List.getD t7o i10.toNat (0 : UInt64)) (List.getD m2 i10.toNat (0 : UInt64)) c8) fun r0 => must (leI (0 : Int) i10 && ltI i10 (↑t7o.length : Int)) (A_10 m2 r0.2 ((wr (i10 + (1 : Int)))) (setL t7o i10.toNat r0.1))))) (some ((t7o, ())))
theorem zpE : zkw = zeN := by
  (repeat (apply funext; intro _))
  simp only [zkw, zeN, hide_eq]
def zeO (N n : Nat) (m2 : List UInt64) (c8 : UInt64) (i10 : Int) (t7o : List UInt64) : Option (List UInt64 × Unit) :=
  zap (fun A x => zeN N (fun m2 c8 i10 t7o => A ((m2, ((), (c8, (i10, ())))), (t7o, ()))) x.1.1 x.1.2.2.1 x.1.2.2.2.1 x.2.1) n ((m2, ((), (c8, (i10, ())))), (t7o, ()))
theorem zpF : zkx = zeO := by
  (repeat (apply funext; intro _))
  simp only [zkx, zeO, zpE]
theorem ze9 (N n : Nat) (m2 : List UInt64) (c8 : UInt64) (i10 : Int) (t7o : List UInt64) : zeO N (n + 1) m2 c8 i10 t7o = zeN N (zeO N n) m2 c8 i10 t7o := rfl
def zhj (N : Nat) (A_4 : (List UInt64) -> (List UInt64) -> (List UInt64) -> UInt64 -> Int -> (List UInt64) -> Option (List UInt64 × Unit)) (a0 b1 m2 : List UInt64) (c8 : UInt64) (i9 : Int) (t7o : List UInt64) : Option (List UInt64 × Unit) :=
  cond ((ltI i9 (↑m2.length : Int))) (must (leI (0 : Int) i9 && ltI i9 (↑a0.length : Int)) (must (leI (0 : Int) i9 && ltI i9 (↑b1.length : Int)) (Option.bind (kSub (List.getD a0 i9.toNat (0 : UInt64)) (List.getD b1 i9.toNat (0 : UInt64)) c8) fun r0 => must (leI (0 : Int) i9 && ltI i9 (↑t7o.length : Int)) (A_4 a0 b1 m2 r0.2 ((wr (i9 + (1 : Int)))) (setL t7o i9.toNat r0.1))))) (cond ((c8 == (1 : UInt64))) (zeO N N m2 (0 : UInt64) (0 : Int) t7o) (some ((t7o, ()))))
theorem zrR : zoJ = zhj := by
  (repeat (apply funext; intro _))
  simp only [zoJ, zhj, hide_eq, zpF]
def zfa (N n : Nat) (a0 b1 m2 : List UInt64) (c8 : UInt64) (i9 : Int) (t7o : List UInt64) : Option (List UInt64 × Unit) :=
  zap (fun A x => zhj N (fun a0 b1 m2 c8 i9 t7o => A ((a0, (b1, (m2, ((), (c8, (i9, ())))))), (t7o, ()))) x.1.1 x.1.2.1 x.1.2.2.1 x.1.2.2.2.2.1 x.1.2.2.2.2.2.1 x.2.1) n ((a0, (b1, (m2, ((), (c8, (i9, ())))))), (t7o, ()))
theorem zrS : zoK = zfa := by
  (repeat (apply funext; intro _))
  simp only [zoK, zfa, zrR]
theorem zgj (N n : Nat) (a0 b1 m2 : List UInt64) (c8 : UInt64) (i9 : Int) (t7o : List UInt64) : zfa N (n + 1) a0 b1 m2 c8 i9 t7o = zhj N (zfa N n) a0 b1 m2 c8 i9 t7o := rfl
def q177 (N : Nat) (a0 b1 m2 : List UInt64) : Option (List UInt64 × Unit) :=
  must (eqI (↑m2.length : Int) (↑m2.length : Int) && leN (Int.toNat (↑m2.length : Int) * (8 : Nat)) (140737488355328 : Nat)) (zfa N N a0 b1 m2 (0 : UInt64) (0 : Int) (List.replicate (Int.toNat (↑m2.length : Int)) (0 : UInt64)))
theorem zxg : p177 = q177 := by
  (repeat (apply funext; intro _))
  simp only [p177, q177, zrS]
def q83 (N : Nat) (a0 b1 : Fr) : Option (Fr × Unit) :=
  Option.bind (q88 N) fun r0 => Option.bind (q177 N (List.take (Int.toNat ((↑(4 : Nat) : Int) - (0 : Int))) [Fr.a0 a0, Fr.a1 a0, Fr.a2 a0, Fr.a3 a0]) (List.take (Int.toNat ((↑(4 : Nat) : Int) - (0 : Int))) [Fr.a0 b1, Fr.a1 b1, Fr.a2 b1, Fr.a3 b1]) r0.1) fun r1 => Option.bind (q175 N r1.1) fun r2 => some (({ a0 := Fr.a0 r2.1, a1 := Fr.a1 r2.1, a2 := Fr.a2 r2.1, a3 := Fr.a3 r2.1 }, ()))
theorem zz7 : p83 = q83 := by
  (repeat (apply funext; intro _))
  simp only [p83, q83, zpD, zxg, zrH]
def q85 (N : Nat) (a0 : Fr) : Option (Fr × Unit) :=
  Option.bind (q83 N ({ a0 := (0 : UInt64), a1 := (0 : UInt64), a2 := (0 : UInt64), a3 := (0 : UInt64) }) ({ a0 := Fr.a0 a0, a1 := Fr.a1 a0, a2 := Fr.a2 a0, a3 := Fr.a3 a0 })) fun r0 => some (({ a0 := Fr.a0 r0.1, a1 := Fr.a1 r0.1, a2 := Fr.a2 r0.1, a3 := Fr.a3 r0.1 }, ()))
theorem zz8 : p85 = q85 := by
  (repeat (apply funext; intro _))
  simp only [p85, q85, zz7]
end
section
def lv : List UInt64 -> Nat
  | [] => 0
  | x :: l => x.toNat + 18446744073709551616 * lv l
theorem zaq (l : List UInt64) (i : Nat) : lv (l.take (i + 1)) = lv (l.take i) + 18446744073709551616 ^ i * (l.getD i 0).toNat := by
  induction l generalizing i with
  | nil => simp [lv]
  | cons x l ih =>
    cases i with
    | zero => simp [lv]
    | succ i =>
      simp only [List.take_succ_cons, lv, ih i, List.getD_cons_succ, Nat.pow_succ]
      generalize 18446744073709551616 ^ i = p
      rw [Nat.mul_add, Nat.add_assoc]
      congr 2
      rw [Nat.mul_comm p 18446744073709551616, Nat.mul_assoc]
theorem zgk {l : List UInt64} {n : Nat} (h : l.length <= n) : lv (l.take n) = lv l := by
  rw [List.take_of_length_le h]
theorem zkI (l : List UInt64) : lv l < 18446744073709551616 ^ l.length := by
  induction l with
  | nil => simp [lv]
  | cons x l ih =>
    have hx := x.toNat_lt
    simp only [lv, List.length_cons, Nat.pow_succ]
    have h2 : 18446744073709551616 * (lv l + 1) <= 18446744073709551616 * 18446744073709551616 ^ l.length := Nat.mul_le_mul_left _ ih
    rw [Nat.mul_comm (18446744073709551616 ^ l.length)]
    omega
theorem zca (l : List UInt64) (i : Nat) : lv (l.take i) < 18446744073709551616 ^ i := by
  refine Nat.lt_of_lt_of_le (zkI _) (Nat.pow_le_pow_right (by decide) ?_)
  rw [List.length_take]; omega
theorem zaz {α : Type} (l : List α) (i : Nat) (x : α) : (setL l i x).length = l.length := by
  induction l generalizing i with
  | nil => rfl
  | cons y l ih => cases i <;> simp [setL, ih]
theorem zen {α : Type} (l : List α) {i j : Nat} (x : α) (h : j <= i) : (setL l i x).take j = l.take j := by
  induction l generalizing i j with
  | nil => rfl
  | cons y l ih =>
    cases j with
    | zero => rfl
    | succ j => cases i with
      | zero => omega
      | succ i => simp [setL, ih (Nat.le_of_succ_le_succ h)]
theorem zbd {α : Type} (l : List α) (i j : Nat) (x d : α) : (setL l i x).getD j d = if j = i /\ i < l.length then x else l.getD j d := by
  induction l generalizing i j with
  | nil => simp [setL]
  | cons y l ih =>
    cases i with
    | zero => cases j <;> simp [setL]
    | succ i => cases j with
      | zero => simp [setL]
      | succ j => simp only [setL, List.getD_cons_succ, ih, Nat.add_right_cancel_iff, List.length_cons, Nat.add_lt_add_iff_right]
theorem za1 (l : List UInt64) {i : Nat} (x : UInt64) (h : i < l.length) : lv ((setL l i x).take (i + 1)) = lv (l.take i) + 18446744073709551616 ^ i * x.toNat := by
  rw [zaq, zen l x (Nat.le_refl i), zbd, if_pos ⟨rfl, h⟩]
theorem zeo {l : List UInt64} {i : Nat} (h : l.length <= i) : l.getD i 0 = 0 := by
  rw [List.getD_eq_getElem?_getD, List.getElem?_eq_none h]; rfl
theorem zpG {k : Nat} (h : k < 9223372036854775807) : wr (((k + 1 : Nat) : Int) - 1) = (k : Int) := by
  rw [zc5 (by omega) (by omega)]; omega
theorem zuE (a b : Nat) : mxI (a : Int) (b : Int) = ((max a b : Nat) : Int) := by
  unfold mxI
  rw [zbZ]
  by_cases h : a < b
  . rw [zax h, cond_true]; congr 1; omega
  . rw [zdh h, cond_false]; congr 1; omega
end
section
theorem zpH (N : Nat) (a : List UInt64) (i : Nat) : q160 N a (i : Int) = some (a.getD i 0, ()) := by
  unfold q160
  rw [zbZ]
  by_cases h : i < a.length
  . rw [zax h, cond_true, zaR, Bool.true_and, zom rfl]
    rfl
  . rw [zdh h, cond_false, zeo (by omega)]
def cmpN (a b : Nat) : Int := if a < b then -1 else if b < a then 1 else 0
theorem zxh (N : Nat) (a b : List UInt64) : ∀ n k : Nat, k < n -> k < 9223372036854775807 -> (∀ j, k <= j -> a.getD j 0 = b.getD j 0) -> zdt N n a b (k : Int) = some (cmpN (lv (a.take k)) (lv (b.take k)), ()) := by
  intro n
  induction n with
  | zero => intro k h; omega
  | succ n ih =>
    intro k hn hb h0
    rw [zh5]
    unfold zem
    cases k with
    | zero =>
      rw [show wr (((0 : Nat) : Int) - 1) = -1 from zc5 (by omega) (by omega), show ltI (-1) 0 = true from rfl, cond_true]
      simp [cmpN, lv]
    | succ k =>
      rw [zpG (by omega), zrn, cond_false, zpH, zpH, zaq, zaq]
      simp only [Option.bind_some]
      have h1 := zca a k
      have h2 := zca b k
      generalize 18446744073709551616 ^ k = p at h1 h2 ⊢
      by_cases e1 : (a.getD k 0).toNat < (b.getD k 0).toNat
      . rw [zax e1, cond_true]
        have : p * ((a.getD k 0).toNat + 1) <= p * (b.getD k 0).toNat := Nat.mul_le_mul_left _ e1
        rw [Nat.mul_add] at this
        simp only [cmpN]
        rw [if_pos (by omega)]
      . rw [zdh e1, cond_false]
        by_cases e2 : (b.getD k 0).toNat < (a.getD k 0).toNat
        . rw [zax e2, cond_true]
          have : p * ((b.getD k 0).toNat + 1) <= p * (a.getD k 0).toNat := Nat.mul_le_mul_left _ e2
          rw [Nat.mul_add] at this
          simp only [cmpN]
          rw [if_neg (by omega), if_pos (by omega)]
        . rw [zdh e2, cond_false]
          have e3 : (a.getD k 0).toNat = (b.getD k 0).toNat := by omega
          rw [ih k (by omega) (by omega) fun j hj => ?_]
          . simp only [cmpN, e3, Nat.add_lt_add_iff_right]
          . by_cases e : j = k
            . rw [e]; exact UInt64.toNat_inj.1 e3
            . exact h0 j (by omega)
theorem zxi {N : Nat} {a b : List UInt64} (ha : a.length < 1000000) (hb : b.length < 1000000) (hN : max a.length b.length < N) : q61 N a b = some (cmpN (lv a) (lv b), ()) := by
  unfold q61
  rw [zuE, zxh N a b N _ hN (by omega) fun j hj => by rw [zeo (by omega), zeo (by omega)], zgk (by omega), zgk (by omega)]
theorem zeP {x y c : UInt64} (h : c.toNat <= 1) : ∃ s d : UInt64, kAdd x y c = some (s, d) /\ d.toNat <= 1 /\ s.toNat + 18446744073709551616 * d.toNat = x.toNat + y.toNat + c.toNat := by
  have hx := x.toNat_lt
  have hy := y.toNat_lt
  refine ⟨addS x y c, addC x y c, ?_, ?_, ?_⟩
  . unfold kAdd; rw [zaD h, cond_true]
  . rw [addC, ofN _ (by omega)]; omega
  . rw [addC, addS, ofN _ (by omega), ofN _ (by omega)]; omega
theorem zpI {x y c : UInt64} (h : c.toNat <= 1) : ∃ s d : UInt64, kSub x y c = some (s, d) /\ d.toNat <= 1 /\ s.toNat + y.toNat + c.toNat = x.toNat + 18446744073709551616 * d.toNat := by
  have hx := x.toNat_lt
  have hy := y.toNat_lt
  refine ⟨subS x y c, subC x y c, ?_, ?_, ?_⟩
  . unfold kSub; rw [zaD h, cond_true]
  . unfold subC
    cases ltN x.toNat (y.toNat + c.toNat) <;> simp
  . rw [subS, ofN _ (Nat.mod_lt _ (by decide))]
    unfold subC
    by_cases h1 : x.toNat < y.toNat + c.toNat
    . rw [zax h1]; simp; omega
    . rw [zdh h1]; simp; omega
end
section
theorem zjb (x : UInt64) (n : Nat) : (zbb x n).toNat = x.toNat / 2 ^ n := by
  unfold zbb
  rw [UInt64.toNat_ofNat']
  exact Nat.mod_eq_of_lt (Nat.lt_of_le_of_lt (Nat.div_le_self _ _) x.toNat_lt)
theorem zxj (x : UInt64) : (x &&& 4294967295).toNat = x.toNat % 4294967296 := by
  rw [UInt64.toNat_and]
  exact Nat.and_two_pow_sub_one_eq_mod x.toNat 32
theorem zep {a b c d m n : Nat} (ha : a < m) (hb : b < n) : a * b <= (m - 1) * (n - 1) := Nat.mul_le_mul (by omega) (by omega)
theorem zpJ (N : Nat) (x y : UInt64) : ∃ h l : UInt64, q163 N x y = some (h, l, ()) /\ h.toNat * 18446744073709551616 + l.toNat = x.toNat * y.toNat := by
  refine ⟨_, _, rfl, ?_⟩
  have hx := x.toNat_lt
  have hy := y.toNat_lt
  simp only [UInt64.toNat_add, UInt64.toNat_mul, zjb, zxj, show (32 : UInt64).toNat = 32 from rfl]
  generalize hX : x.toNat = X at *
  generalize hY : y.toNat = Y at *
  have e1 : (2 : Nat) ^ 64 = 18446744073709551616 := by decide
  have e2 : (2 : Nat) ^ 32 = 4294967296 := by decide
  simp only [e1, e2] at *
  have hX1 : X = 4294967296 * (X / 4294967296) + X % 4294967296 := (Nat.div_add_mod X 4294967296).symm
  have hY1 : Y = 4294967296 * (Y / 4294967296) + Y % 4294967296 := (Nat.div_add_mod Y 4294967296).symm
  have b1 : X / 4294967296 < 4294967296 := by omega
  have b2 : Y / 4294967296 < 4294967296 := by omega
  have b3 : X % 4294967296 < 4294967296 := Nat.mod_lt _ (by decide)
  have b4 : Y % 4294967296 < 4294967296 := Nat.mod_lt _ (by decide)
  generalize X / 4294967296 = x1 at *
  generalize X % 4294967296 = x0 at *
  generalize Y / 4294967296 = y1 at *
  generalize Y % 4294967296 = y0 at *
  have hp : X * Y = 18446744073709551616 * (x1 * y1) + 4294967296 * (x1 * y0) + 4294967296 * (x0 * y1) + x0 * y0 := by
    rw [hX1, hY1]
    simp only [Nat.add_mul, Nat.mul_add]
    have q1 : 4294967296 * x1 * (4294967296 * y1) = 18446744073709551616 * (x1 * y1) := by
      rw [show (18446744073709551616 : Nat) = 4294967296 * 4294967296 by decide]
      simp only [Nat.mul_assoc, Nat.mul_left_comm x1]
    have q2 : 4294967296 * x1 * y0 = 4294967296 * (x1 * y0) := Nat.mul_assoc _ _ _
    have q3 : x0 * (4294967296 * y1) = 4294967296 * (x0 * y1) := Nat.mul_left_comm _ _ _
    rw [q1, q2, q3]
    omega
  have p1 := zep (c := 0) (d := 0) b1 b2
  have p2 := zep (c := 0) (d := 0) b1 b4
  have p3 := zep (c := 0) (d := 0) b3 b2
  have p4 := zep (c := 0) (d := 0) b3 b4
  rw [hp]
  generalize x1 * y1 = a at *
  generalize x1 * y0 = b at *
  generalize x0 * y1 = c at *
  generalize x0 * y0 = d at *
  omega
end
section
theorem zsW (a : List UInt64) (k : Nat) : (lv a).testBit k = ((a.getD (k / 64) 0).toNat).testBit (k % 64) := by
  induction a generalizing k with
  | nil => simp [lv]
  | cons x a ih =>
    have hx := x.toNat_lt
    have e : lv (x :: a) = 2 ^ 64 * lv a + x.toNat := by simp only [lv]; rw [Nat.add_comm]
    rw [e, Nat.testBit_two_pow_mul_add _ hx]
    split
    . rename_i h
      rw [Nat.div_eq_of_lt h, Nat.mod_eq_of_lt h]; rfl
    . rename_i h
      rw [ih]
      have e1 : k / 64 = (k - 64) / 64 + 1 := by omega
      have e2 : k % 64 = (k - 64) % 64 := by omega
      rw [e1, e2, List.getD_cons_succ]
theorem zkJ (n k : Nat) : n / 2 ^ k % 2 = (n.testBit k).toNat := by
  rw [Nat.testBit_eq_decide_div_mod_eq]
  have := Nat.mod_two_eq_zero_or_one (n / 2 ^ k)
  rcases this with h | h <;> simp [h]
theorem zuF (x : UInt64) : (x &&& 1).toNat = x.toNat % 2 := by
  rw [UInt64.toNat_and]
  exact Nat.and_two_pow_sub_one_eq_mod x.toNat 1
theorem zrT (n k : Nat) : Int.tdiv (n : Int) (k : Int) = ((n / k : Nat) : Int) := rfl
theorem zrU {n : Nat} (h : n < 18446744073709551616) : (u64I (n : Int)).toNat = n := by
  unfold u64I
  rw [UInt64.toNat_ofNat']
  omega
end
section
theorem zuG {N : Nat} {a : List UInt64} {i : Nat} (hi : i < 1000000) : ∃ x : UInt64, q162 N a (i : Int) = some (x, ()) /\ x.toNat = lv a / 2 ^ i % 2 := by
  unfold q162
  have e1 : wr (Int.tdiv (i : Int) 64) = ((i / 64 : Nat) : Int) := by
    rw [show (64 : Int) = ((64 : Nat) : Int) from rfl, zrT, zc5 (by omega) (by omega)]
  have e2 : Int.tmod (i : Int) 64 = ((i % 64 : Nat) : Int) := rfl
  rw [e1, e2, zok]
  by_cases h : a.length <= i / 64
  . rw [zaD h, cond_true]
    refine ⟨0, rfl, ?_⟩
    rw [zkJ, zsW, zeo h]
    simp
  . rw [zol h, cond_false, zaR, zbZ, zax (by omega), zt3, zom (zaR _), zom (zav (by omega))]
    simp only [Int.toNat_natCast]
    refine ⟨_, rfl, ?_⟩
    rw [zuF, zjb, UInt64.toNat_ofNat', Nat.mod_eq_of_lt (show i % 64 < 2 ^ 64 by omega), zkJ, zkJ, zsW]
end
section
theorem mst {R : Type} {x : Option R} : must true x = x := rfl
def RR : Nat := 52435875175126190479447740508185965837690552500527637822603658699938581184513
def Binv : Nat := 12549076656233958353659347336803947287922716146853412054870763148006372261952
theorem zpK : 18446744073709551616 ^ 4 * Binv % RR = 1 := by decide +kernel
def fv (x : Fr) : Nat := lv x.l
theorem zz9 (x : Fr) : fv x < 18446744073709551616 ^ 4 := zkI x.l
theorem zxk {x y : Fr} (h : fv x = fv y) : x = y := by
  obtain ⟨a, b, c, d⟩ := x
  obtain ⟨a', b', c', d'⟩ := y
  simp only [fv, Fr.l, lv] at h
  have h1 := a.toNat_lt
  have h2 := b.toNat_lt
  have h3 := c.toNat_lt
  have h4 := d.toNat_lt
  have h5 := a'.toNat_lt
  have h6 := b'.toNat_lt
  have h7 := c'.toNat_lt
  have h8 := d'.toNat_lt
  have e1 : a.toNat = a'.toNat := by omega
  have e2 : b.toNat = b'.toNat := by omega
  have e3 : c.toNat = c'.toNat := by omega
  have e4 : d.toNat = d'.toNat := by omega
  rw [UInt64.toNat_inj.1 e1, UInt64.toNat_inj.1 e2, UInt64.toNat_inj.1 e3, UInt64.toNat_inj.1 e4]
theorem mac' (N : Nat) (x y t c : UInt64) : ∃ hi lo, q163 N x y = some (hi, lo, ()) /\ ∃ s1 k1, kAdd t lo 0 = some (s1, k1) /\ ∃ s2 k2, kAdd s1 c 0 = some (s2, k2) /\ s2.toNat + 18446744073709551616 * (hi + k1 + k2).toNat = x.toNat * y.toNat + t.toNat + c.toNat := by
  obtain ⟨hi, lo, h1, h2⟩ := zpJ N x y
  obtain ⟨s1, k1, h3, h4, h5⟩ := zeP (x := t) (y := lo) (c := 0) (by decide)
  obtain ⟨s2, k2, h6, h7, h8⟩ := zeP (x := s1) (y := c) (c := 0) (by decide)
  refine ⟨hi, lo, h1, s1, k1, h3, s2, k2, h6, ?_⟩
  have hz : (0 : UInt64).toNat = 0 := rfl
  have hxy : x.toNat * y.toNat <= 18446744073709551615 * 18446744073709551615 := Nat.mul_le_mul (by have := x.toNat_lt; omega) (by have := y.toNat_lt; omega)
  have ht := t.toNat_lt
  have hc := c.toNat_lt
  have hs := s2.toNat_lt
  rw [hz] at h5 h8
  have e : (hi + k1 + k2).toNat = hi.toNat + k1.toNat + k2.toNat := by
    rw [UInt64.toNat_add, UInt64.toNat_add]
    omega
  rw [e]
  omega
theorem zuH (x y : UInt64) : ∃ s d, kAdd x y 0 = some (s, d) /\ d.toNat <= 1 /\ s.toNat + 18446744073709551616 * d.toNat = x.toNat + y.toNat := by
  obtain ⟨s, d, h1, h2, h3⟩ := zeP (x := x) (y := y) (c := 0) (by decide)
  exact ⟨s, d, h1, h2, by simpa using h3⟩
end
section
def mL : List UInt64 := [18446744069414584321, 6034159408538082302, 3691218898639771653, 8353516859464449352]
theorem zjc : lv mL = RR := by decide +kernel
theorem zuI (x : UInt64) : (x * 18446744069414584319).toNat * 18446744069414584321 % 18446744073709551616 = (18446744073709551616 - x.toNat) % 18446744073709551616 := by
  have hx := x.toNat_lt
  rw [UInt64.toNat_mul, show UInt64.toNat 18446744069414584319 = 18446744069414584319 from rfl, Nat.mod_mul_mod, Nat.mul_assoc]
  omega
theorem zrV {x y T q r : Nat} (h : 18446744073709551616 ^ 4 * T = x * y + q * RR) (hr : r = T \/ r + RR = T) (hlt : r < RR) : r = x * y * Binv % RR := by
  have e1 : 18446744073709551616 ^ 4 * r % RR = x * y % RR := by
    rcases hr with rfl | hr
    . rw [h, Nat.add_mul_mod_self_right]
    . have : 18446744073709551616 ^ 4 * r + 18446744073709551616 ^ 4 * RR = x * y + q * RR := by rw [← h, ← hr, Nat.mul_add]
      have h2 := congrArg (· % RR) this
      simp only [Nat.add_mul_mod_self_right] at h2
      exact h2
  have e2 : r * (18446744073709551616 ^ 4 * Binv) % RR = r := by
    rw [Nat.mul_mod, zpK, Nat.mul_one, Nat.mod_mod, Nat.mod_eq_of_lt hlt]
  rw [← e2, ← Nat.mul_assoc, Nat.mul_comm r, Nat.mul_mod, e1, ← Nat.mul_mod]
theorem zuJ : lv [14526898881837571181, 3129137299524312099, 419701826671360399, 524908885293268753] * Binv % RR = 18446744073709551616 ^ 4 % RR := by decide +kernel
theorem zgl (x : Nat) : x % RR < RR := Nat.mod_lt _ (by decide)
end
section
theorem mst2 {R : Type} {x : Option R} : must true x = x := by rw [mst]
theorem bsm {α β : Type} {a : α} {f : α -> Option β} : Option.bind (some a) f = f a := by rw [Option.bind_some]
theorem zmW (a m : List UInt64) (k : Nat) : lv (a.take (k + 1)) < lv (m.take (k + 1)) ↔ ((a.getD k 0).toNat < (m.getD k 0).toNat \/ ((a.getD k 0).toNat = (m.getD k 0).toNat /\ lv (a.take k) < lv (m.take k))) := by
  have h1 := zca a k
  have h2 := zca m k
  rw [zaq, zaq]
  generalize lv (a.take k) = A at *
  generalize lv (m.take k) = M at *
  generalize (18446744073709551616 ^ k : Nat) = P at *
  generalize (a.getD k 0).toNat = x
  generalize (m.getD k 0).toNat = y
  rcases Nat.lt_trichotomy x y with h | h | h
  . have h3 : P * (x + 1) <= P * y := Nat.mul_le_mul_left _ h
    rw [Nat.mul_add, Nat.mul_one] at h3
    exact ⟨fun _ => .inl h, fun _ => by omega⟩
  . subst h
    constructor
    . intro h; exact .inr ⟨rfl, by omega⟩
    . rintro (h | ⟨_, h⟩) <;> omega
  . have h3 : P * (y + 1) <= P * x := Nat.mul_le_mul_left _ h
    rw [Nat.mul_add, Nat.mul_one] at h3
    constructor
    . intro h; omega
    . rintro (h | ⟨h, _⟩) <;> omega
theorem zuK (N : Nat) (a m : List UInt64) (hm : m.length < 1000000) (ha : m.length <= a.length) : ∀ (k n : Nat), k <= m.length -> k < n -> zhd N n a m ((k : Int) - 1) = some (decide (lv (a.take k) < lv (m.take k)), ()) := by
  intro k
  induction k with
  | zero =>
    intro n hk hn
    obtain ⟨n, rfl⟩ : ∃ m, n = m + 1 := ⟨n - 1, by omega⟩
    rw [zgf]
    unfold zhc
    rw [zaC (by omega), cond_false]
    simp [lv]
  | succ k ih =>
    intro n hk hn
    obtain ⟨n, rfl⟩ : ∃ m, n = m + 1 := ⟨n - 1, by omega⟩
    rw [zgf]
    unfold zhc
    rw [show ((k + 1 : Nat) : Int) - 1 = (k : Int) by omega, zaR, cond_true, zav (show (k : Int) < (a.length : Int) by omega), zav (show (k : Int) < (m.length : Int) by omega)]
    simp only [Bool.and_self, mst, Int.toNat_natCast]
    rw [zc5 (by omega) (by omega), ih n (by omega) (by omega)]
    have e := zmW a m k
    by_cases h : a.getD k 0 = m.getD k 0
    . rw [h]
      simp only [beq_self_eq_true, Bool.not_true, cond_false]
      rw [h] at e
      congr 2
      rw [Bool.eq_iff_iff, decide_eq_true_iff, decide_eq_true_iff, e]
      constructor
      . intro h; exact .inr ⟨rfl, h⟩
      . rintro (h | ⟨_, h⟩)
        . omega
        . exact h
    . rw [beq_eq_false_iff_ne.2 h]
      simp only [Bool.not_false, cond_true]
      have hne : (a.getD k 0).toNat ≠ (m.getD k 0).toNat := fun h2 => h (UInt64.toNat_inj.1 h2)
      congr 2
      rw [Bool.eq_iff_iff, decide_eq_true_iff, e]
      simp only [ltN, decide_eq_true_iff]
      constructor
      . intro h; exact .inl h
      . rintro (h | ⟨h, _⟩)
        . exact h
        . exact absurd h hne
theorem zkK {N : Nat} {a m : List UInt64} (hm : m.length < 1000000) (ha : m.length = a.length) (hN : m.length < N) : q168 N a m = some (decide (lv a < lv m), ()) := by
  unfold q168
  rw [zc5 (by omega) (by omega), zuK N a m hm (by omega) m.length N (Nat.le_refl _) hN, List.take_of_length_le (by omega), List.take_of_length_le (by omega)]
theorem zuL (N : Nat) (m : List UInt64) (tn : Nat) (hm : m.length <= tn) (hb : tn < 1000000) (t0 : List UInt64) : ∀ (k n j : Nat) (c : UInt64) (t : List UInt64), j + k = m.length -> k < n -> t.length = tn -> c.toNat <= 1 -> (∀ p, j <= p -> t.getD p 0 = t0.getD p 0) ->
    lv (t.take j) + lv (m.take j) = lv (t0.take j) + 18446744073709551616 ^ j * c.toNat ->
    ∃ (c' : UInt64) (t' : List UInt64), t'.length = tn /\ c'.toNat <= 1 /\ lv (t'.take m.length) + lv m = lv (t0.take m.length) + 18446744073709551616 ^ m.length * c'.toNat /\ zhf N n 0 tn m c (j : Int) t = some (t', ()) := by
  intro k
  induction k with
  | zero =>
    intro n j c t hj hn ht hc hp hv
    obtain ⟨n, rfl⟩ : ∃ m, n = m + 1 := ⟨n - 1, by omega⟩
    obtain rfl : j = m.length := by omega
    rw [List.take_of_length_le (l := m) (by omega)] at hv
    refine ⟨c, t, ht, hc, hv, ?_⟩
    rw [zgg]
    unfold zhe
    rw [zai (by omega), cond_false]
  | succ k ih =>
    intro n j c t hj hn ht hc hp hv
    obtain ⟨n, rfl⟩ : ∃ m, n = m + 1 := ⟨n - 1, by omega⟩
    obtain ⟨s, d, h1, h2, h3⟩ := zpI (x := t.getD j 0) (y := m.getD j 0) hc
    rw [zgg]
    unfold zhe
    rw [zaT (by omega)]
    simp only [zbZ, zaR, Int.toNat_natCast, Nat.zero_add]
    rw [zax (show j < m.length by omega), zax (show j < tn by omega), cond_true]
    simp only [Bool.and_self, mst, h1, Option.bind_some]
    refine ih n (j + 1) _ _ (by omega) (by omega) (by rw [zaz]; exact ht) h2 ?_ ?_
    . intro p h
      rw [zbd, if_neg (by omega)]
      exact hp p (by omega)
    . rw [za1 _ _ (by omega), zaq m, zaq t0, ← hp j (Nat.le_refl _), Nat.pow_succ]
      generalize lv (List.take j t) = A1 at *
      generalize lv (List.take j m) = A2 at *
      generalize lv (List.take j t0) = A3 at *
      generalize (18446744073709551616 ^ j : Nat) = P at *
      generalize (m.getD j 0).toNat = y at *
      generalize (t.getD j 0).toNat = x at *
      generalize d.toNat = d0 at *
      generalize s.toNat = s at *
      generalize c.toNat = c0 at *
      have e : P * s + P * y + P * c0 = P * x + P * 18446744073709551616 * d0 := by
        have : P * (s + y + c0) = P * (x + 18446744073709551616 * d0) := by rw [h3]
        grind
      grind
theorem zpL {N : Nat} {t m : List UInt64} (hm : m.length <= t.length) (hb : t.length < 1000000) (hN : m.length < N) :
    ∃ (c' : UInt64) (t' : List UInt64), t'.length = t.length /\ c'.toNat <= 1 /\ lv (t'.take m.length) + lv m = lv (t.take m.length) + 18446744073709551616 ^ m.length * c'.toNat /\ q214 N t m = some (t', ()) :=
  zuL N m t.length hm hb t m.length N 0 0 t (by omega) hN rfl (by decide) (fun _ _ => rfl) (by simp [lv])
theorem alg1 (B A1 A2 A3 P x y w c0 c1 s : Nat) (hv : A1 + P * c0 = A2 + x * A3) (h4 : s + B * c1 = x * y + w + c0) : A1 + P * s + P * B * c1 = A2 + P * w + x * (A3 + P * y) := by
  have e : P * s + P * B * c1 = P * (x * y + w + c0) := by rw [← h4]; grind
  grind
theorem alg2 (B A1 A2 A3 P x y w c0 c1 s : Nat) (hv : B * (A1 + P * c0) = A2 + x * A3) (h4 : s + B * c1 = x * y + w + c0) : B * (A1 + P * s + P * B * c1) = A2 + P * B * w + x * (A3 + P * B * y) := by
  have e : P * s + P * B * c1 = P * (x * y + w + c0) := by rw [← h4]; grind
  grind
theorem zmX (N : Nat) (A : List UInt64 -> List UInt64 -> List UInt64 -> Int -> UInt64 -> Int -> List UInt64 -> Option (List UInt64 × Unit)) (a b m t0 : List UInt64) (iv : UInt64) (i : Nat) (hi : i < 4) (ha : a.length = 4) (hb : b.length = 4) : ∀ (k n j : Nat) (c : UInt64) (t : List UInt64), j + k = 4 -> k < n -> t.length = 6 ->
    lv (t.take j) + 18446744073709551616 ^ j * c.toNat = lv (t0.take j) + (a.getD i 0).toNat * lv (b.take j) -> (∀ p, j <= p -> t.getD p 0 = t0.getD p 0) ->
    ∃ (c' : UInt64) (t' : List UInt64) (n' : Nat), t'.length = 6 /\ lv (t'.take 4) + 18446744073709551616 ^ 4 * c'.toNat = lv (t0.take 4) + (a.getD i 0).toNat * lv b /\ t'.getD 4 0 = t0.getD 4 0 /\
      zdR N A n a b m 4 iv (i : Int) c (j : Int) t = zdR N A (n' + 1) a b m 4 iv (i : Int) c' 4 t' := by
  intro k
  induction k with
  | zero =>
    intro n j c t hj hn ht hv hp
    obtain ⟨n, rfl⟩ : ∃ m, n = m + 1 := ⟨n - 1, by omega⟩
    obtain rfl : j = 4 := by omega
    rw [List.take_of_length_le (l := b) (by omega)] at hv
    exact ⟨c, t, n, ht, hv, hp 4 (Nat.le_refl _), rfl⟩
  | succ k ih =>
    intro n j c t hj hn ht hv hp
    obtain ⟨n, rfl⟩ : ∃ m, n = m + 1 := ⟨n - 1, by omega⟩
    obtain ⟨hi', lo, h1, s1, k1, h2, s2, k2, h3, h4⟩ := mac' N (a.getD i 0) (b.getD j 0) (t.getD j 0) c
    rw [ze6]
    unfold zdQ
    rw [zav (show (j : Int) < 4 by omega), cond_true, zaT (by omega)]
    simp only [zbZ, zaR, Int.toNat_natCast]
    rw [zax (show i < a.length by omega), zax (show j < b.length by omega), zax (show j < t.length by omega)]
    simp only [Bool.and_self, mst2, h1, h2, h3, bsm]
    refine ih n (j + 1) _ _ (by omega) (by omega) (by rw [zaz]; exact ht) ?_ ?_
    . rw [za1 _ _ (by omega), zaq t0, zaq b, ← hp j (Nat.le_refl _), Nat.pow_succ]
      exact alg1 _ _ _ _ _ _ _ _ _ _ _ hv h4
    . intro p h
      rw [zbd, if_neg (by omega)]
      exact hp p (by omega)
theorem zmY (N : Nat) (A : List UInt64 -> List UInt64 -> List UInt64 -> Int -> UInt64 -> Int -> List UInt64 -> Option (List UInt64 × Unit)) (a b m t0 : List UInt64) (iv x : UInt64) (i : Int) (hm : m.length = 4) : ∀ (k n j : Nat) (c : UInt64) (t : List UInt64), 1 <= j -> j + k = 4 -> k < n -> t.length = 6 ->
    18446744073709551616 * (lv (t.take (j - 1)) + 18446744073709551616 ^ (j - 1) * c.toNat) = lv (t0.take j) + x.toNat * lv (m.take j) -> (∀ p, j - 1 <= p -> t.getD p 0 = t0.getD p 0) ->
    ∃ (c' : UInt64) (t' : List UInt64) (n' : Nat), t'.length = 6 /\ 18446744073709551616 * (lv (t'.take 3) + 18446744073709551616 ^ 3 * c'.toNat) = lv (t0.take 4) + x.toNat * lv m /\ t'.getD 4 0 = t0.getD 4 0 /\ t'.getD 5 0 = t0.getD 5 0 /\
      zdi N A n a b m 4 iv i c x (j : Int) t = zdi N A (n' + 1) a b m 4 iv i c' x 4 t' := by
  intro k
  induction k with
  | zero =>
    intro n j c t h1 hj hn ht hv hp
    obtain ⟨n, rfl⟩ : ∃ m, n = m + 1 := ⟨n - 1, by omega⟩
    obtain rfl : j = 4 := by omega
    rw [List.take_of_length_le (l := m) (by omega)] at hv
    exact ⟨c, t, n, ht, hv, hp 4 (by omega), hp 5 (by omega), rfl⟩
  | succ k ih =>
    intro n j c t hj1 hj hn ht hv hp
    obtain ⟨n, rfl⟩ : ∃ m, n = m + 1 := ⟨n - 1, by omega⟩
    obtain ⟨j, rfl⟩ : ∃ p, j = p + 1 := ⟨j - 1, by omega⟩
    obtain ⟨hi', lo, h1, s1, k1, h2, s2, k2, h3, h4⟩ := mac' N x (m.getD (j + 1) 0) (t.getD (j + 1) 0) c
    rw [ze5]
    unfold zdP
    rw [zav (show ((j + 1 : Nat) : Int) < 4 by omega), cond_true, zaT (by omega), zpG (by omega)]
    simp only [zbZ, zaR, Int.toNat_natCast]
    rw [zax (show j + 1 < m.length by omega), zax (show j + 1 < t.length by omega), zax (show j < t.length by omega)]
    simp only [Bool.and_self, mst2, h1, h2, h3, bsm]
    refine ih n (j + 1 + 1) _ _ (by omega) (by omega) (by omega) (by rw [zaz]; exact ht) ?_ ?_
    . simp only [Nat.add_sub_cancel] at hv ⊢
      rw [za1 _ _ (by omega), zaq t0, zaq m, ← hp (j + 1) (by omega), Nat.pow_succ]
      exact alg2 _ _ _ _ _ _ _ _ _ _ _ hv h4
    . intro p h
      rw [zbd, if_neg (by omega)]
      exact hp p (by omega)
end
end Go.Proofs.Ytgimohchocjgcaa.V
