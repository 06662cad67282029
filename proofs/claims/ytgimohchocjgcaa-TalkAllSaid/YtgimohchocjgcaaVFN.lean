import Derived.Test.YtgimohchocjgcaaVFM
import Derived.Test.YtgimohchocjgcaaVUM
import Derived.KernelRfl
set_option linter.unusedVariables false
set_option linter.unusedSimpArgs false
namespace Go.Proofs.Ytgimohchocjgcaa.V
def q169 (N : Nat) : Option (Fr × Unit) :=
  some (({ a0 := (18446744069414584321 : UInt64), a1 := (6034159408538082302 : UInt64), a2 := (3691218898639771653 : UInt64), a3 := (8353516859464449352 : UInt64) }, ()))
theorem p169_t : p169 = q169 := by
  (repeat (apply funext; intro _))
  simp only [p169, q169, ]
def c174_5 (N : Nat) (A_5 : UInt64 → UInt64 → Int → (List UInt64) → (List UInt64) → (List UInt64) → (List UInt64) → Option (Fr × Unit)) (over1 : UInt64) (borrow7 : UInt64) (t10 : Int) (ob0 : List UInt64) (ob1 : List UInt64) (ob2 : List UInt64) (ob3 : List UInt64) : Option (Fr × Unit) :=
  cond ((ltI t10 (4 : Int))) (must (leI (0 : Int) t10 && ltI t10 (↑(4 : Nat) : Int)) (must (leI (0 : Int) t10 && ltI t10 (↑(4 : Nat) : Int)) (Option.bind (kSub (List.getD ob0 (Int.toNat t10) (0 : UInt64)) (List.getD ob2 (Int.toNat t10) (0 : UInt64)) borrow7) fun r2 => must (leI (0 : Int) t10 && ltI t10 (↑(4 : Nat) : Int)) (A_5 over1 (Prod.snd r2) ((wr (t10 + (1 : Int)))) ob0 ob1 ob2 (setL ob3 (Int.toNat t10) (Prod.fst r2)))))) (cond ((ltN (UInt64.toNat over1) (UInt64.toNat borrow7))) (must (Nat.beq (List.length ob0) (4 : Nat)) (Option.bind (Fr.of? ob0) fun r1 => some ((r1, ())))) (must (Nat.beq (List.length ob3) (4 : Nat)) (Option.bind (Fr.of? ob3) fun r0 => some ((r0, ())))))
def m174_5 (N : Nat) (n : Nat) (over1 : UInt64) (borrow7 : UInt64) (t10 : Int) (ob0 : List UInt64) (ob1 : List UInt64) (ob2 : List UInt64) (ob3 : List UInt64) : Option (Fr × Unit) :=
  loopN (fun A x => c174_5 N (fun over1 borrow7 t10 ob0 ob1 ob2 ob3 => A ((over1, ((), ((), ((), ((), (borrow7, (t10, ()))))))), (ob0, (ob1, (ob2, (ob3, ())))))) x.1.1 x.1.2.2.2.2.2.1 x.1.2.2.2.2.2.2.1 x.2.1 x.2.2.1 x.2.2.2.1 x.2.2.2.2.1) n ((over1, ((), ((), ((), ((), (borrow7, (t10, ()))))))), (ob0, (ob1, (ob2, (ob3, ())))))
def q174 (N : Nat) (a0 : Fr) (over1 : UInt64) : Option (Fr × Unit) :=
  Option.bind (q169 N) fun r0 => m174_5 N N over1 ((0 : UInt64)) ((0 : Int)) ([Fr.a0 a0, Fr.a1 a0, Fr.a2 a0, Fr.a3 a0]) ([(0 : UInt64), (0 : UInt64), (0 : UInt64), (0 : UInt64)]) ([Fr.a0 (Prod.fst r0), Fr.a1 (Prod.fst r0), Fr.a2 (Prod.fst r0), Fr.a3 (Prod.fst r0)]) ([(0 : UInt64), (0 : UInt64), (0 : UInt64), (0 : UInt64)])
def q74 (N : Nat) : Option (List UInt64 × Unit) :=
  Option.bind (q169 N) fun r0 => some ((List.take (Int.toNat ((↑(4 : Nat) : Int) - (0 : Int))) [Fr.a0 (Prod.fst r0), Fr.a1 (Prod.fst r0), Fr.a2 (Prod.fst r0), Fr.a3 (Prod.fst r0)], ()))
theorem p74_t : p74 = q74 := by
  (repeat (apply funext; intro _))
  simp only [p74, q74, p169_t]
def q88 (N : Nat) : Option (List UInt64 × Unit) :=
  some (([(18446744069414584321 : UInt64), (6034159408538082302 : UInt64), (3691218898639771653 : UInt64), (8353516859464449352 : UInt64)], ()))
theorem p88_t : p88 = q88 := by
  (repeat (apply funext; intro _))
  simp only [p88, q88, ]
def c168_2 (N : Nat) (A_2 : (List UInt64) → (List UInt64) → Int → Option (Bool × Unit)) (a0 : List UInt64) (m1 : List UInt64) (i5 : Int) : Option (Bool × Unit) :=
  cond ((leI (0 : Int) i5)) (must (leI (0 : Int) i5 && ltI i5 (↑(List.length a0) : Int)) (must (leI (0 : Int) i5 && ltI i5 (↑(List.length m1) : Int)) (cond (!List.getD a0 (Int.toNat i5) (0 : UInt64) == List.getD m1 (Int.toNat i5) (0 : UInt64)) (must (leI (0 : Int) i5 && ltI i5 (↑(List.length a0) : Int)) (must (leI (0 : Int) i5 && ltI i5 (↑(List.length m1) : Int)) (some (((ltN (UInt64.toNat (List.getD a0 (Int.toNat i5) (0 : UInt64))) (UInt64.toNat (List.getD m1 (Int.toNat i5) (0 : UInt64)))), ()))))) (A_2 a0 m1 ((wr (i5 - (1 : Int)))))))) (some ((false, ())))
theorem b168_2_t : b168_2 = c168_2 := by
  (repeat (apply funext; intro _))
  simp only [b168_2, c168_2, hide_eq]
def m168_2 (N : Nat) (n : Nat) (a0 : List UInt64) (m1 : List UInt64) (i5 : Int) : Option (Bool × Unit) :=
  loopN (fun A x => c168_2 N (fun a0 m1 i5 => A ((a0, (m1, (i5, ()))), ())) x.1.1 x.1.2.1 x.1.2.2.1) n ((a0, (m1, (i5, ()))), ())
theorem l168_2_t : l168_2 = m168_2 := by
  (repeat (apply funext; intro _))
  simp only [l168_2, m168_2, b168_2_t]
theorem m168_2_succ (N : Nat) (n : Nat) (a0 : List UInt64) (m1 : List UInt64) (i5 : Int) : m168_2 N (n + 1) a0 m1 i5 = c168_2 N (m168_2 N n) a0 m1 i5 := rfl
def q168 (N : Nat) (a0 : List UInt64) (m1 : List UInt64) : Option (Bool × Unit) :=
  m168_2 N N a0 m1 ((wr ((↑(List.length m1) : Int) - (1 : Int))))
theorem p168_t : p168 = q168 := by
  (repeat (apply funext; intro _))
  simp only [p168, q168, hide_eq, l168_2_t]
def q69 (N : Nat) (a0 : Fr) : Option (Bool × Unit) :=
  Option.bind (q88 N) fun r0 => Option.bind (q168 N (List.take (Int.toNat ((↑(4 : Nat) : Int) - (0 : Int))) [Fr.a0 a0, Fr.a1 a0, Fr.a2 a0, Fr.a3 a0]) (Prod.fst r0)) fun r1 => some ((Prod.fst r1, ()))
theorem p69_t : p69 = q69 := by
  (repeat (apply funext; intro _))
  simp only [p69, q69, p168_t, p88_t]
def q173 (N : Nat) (n0 : UInt64) : Option (Fr × Unit) :=
  some (({ a0 := n0, a1 := (0 : UInt64), a2 := (0 : UInt64), a3 := (0 : UInt64) }, ()))
theorem p173_t : p173 = q173 := by
  (repeat (apply funext; intro _))
  simp only [p173, q173, ]
def c214_2 (N : Nat) (A_2 : Nat → Nat → (List UInt64) → UInt64 → Int → (List UInt64) → Option (List UInt64 × Unit)) (t0f : Nat) (t0n : Nat) (m1 : List UInt64) (c4 : UInt64) (i5 : Int) (t0o : List UInt64) : Option (List UInt64 × Unit) :=
  cond ((ltI i5 (↑(List.length m1) : Int))) (must (leI (0 : Int) i5 && ltI i5 (↑t0n : Int)) (must (leI (0 : Int) i5 && ltI i5 (↑(List.length m1) : Int)) (Option.bind (kSub (List.getD t0o (t0f + Int.toNat i5) (0 : UInt64)) (List.getD m1 (Int.toNat i5) (0 : UInt64)) c4) fun r0 => must (leI (0 : Int) i5 && ltI i5 (↑t0n : Int)) (A_2 t0f t0n m1 (Prod.snd r0) ((wr (i5 + (1 : Int)))) (setL t0o (t0f + Int.toNat i5) (Prod.fst r0)))))) (some ((t0o, ())))
theorem b214_2_t : b214_2 = c214_2 := by
  (repeat (apply funext; intro _))
  simp only [b214_2, c214_2, hide_eq]
def m214_2 (N : Nat) (n : Nat) (t0f : Nat) (t0n : Nat) (m1 : List UInt64) (c4 : UInt64) (i5 : Int) (t0o : List UInt64) : Option (List UInt64 × Unit) :=
  loopN (fun A x => c214_2 N (fun t0f t0n m1 c4 i5 t0o => A (((t0f, t0n), (m1, (c4, (i5, ())))), (t0o, ()))) x.1.1.1 x.1.1.2 x.1.2.1 x.1.2.2.1 x.1.2.2.2.1 x.2.1) n (((t0f, t0n), (m1, (c4, (i5, ())))), (t0o, ()))
theorem l214_2_t : l214_2 = m214_2 := by
  (repeat (apply funext; intro _))
  simp only [l214_2, m214_2, b214_2_t]
theorem m214_2_succ (N : Nat) (n : Nat) (t0f : Nat) (t0n : Nat) (m1 : List UInt64) (c4 : UInt64) (i5 : Int) (t0o : List UInt64) : m214_2 N (n + 1) t0f t0n m1 c4 i5 t0o = c214_2 N (m214_2 N n) t0f t0n m1 c4 i5 t0o := rfl
def q214 (N : Nat) (t0 : List UInt64) (m1 : List UInt64) : Option (List UInt64 × Unit) :=
  m214_2 N N ((0 : Nat)) (List.length t0) m1 ((0 : UInt64)) ((0 : Int)) t0
theorem p214_t : p214 = q214 := by
  (repeat (apply funext; intro _))
  simp only [p214, q214, l214_2_t]
def c184_27 (N : Nat) (A_10 : (List UInt64) → (List UInt64) → (List UInt64) → Int → UInt64 → Int → (List UInt64) → Option (List UInt64 × Unit)) (A_27 : (List UInt64) → (List UInt64) → (List UInt64) → Int → UInt64 → Int → UInt64 → UInt64 → Int → (List UInt64) → Option (List UInt64 × Unit)) (a0 : List UInt64) (b1 : List UInt64) (m2 : List UInt64) (n7 : Int) (inv8 : UInt64) (i11 : Int) (c12 : UInt64) (q21 : UInt64) (k24 : Int) (t10o : List UInt64) : Option (List UInt64 × Unit) :=
  cond ((ltI k24 n7)) (must (leI (0 : Int) k24 && ltI k24 (↑(List.length m2) : Int)) (Option.bind (q163 N q21 (List.getD m2 (Int.toNat k24) (0 : UInt64))) fun r1 => must (leI (0 : Int) k24 && ltI k24 (↑(List.length t10o) : Int)) (Option.bind (kAdd (List.getD t10o (Int.toNat k24) (0 : UInt64)) (Prod.fst (Prod.snd r1)) ((0 : UInt64))) fun r2 => Option.bind (kAdd (Prod.fst r2) c12 ((0 : UInt64))) fun r3 => must (leI (0 : Int) ((wr (k24 - (1 : Int)))) && ltI ((wr (k24 - (1 : Int)))) (↑(List.length t10o) : Int)) (A_27 a0 b1 m2 n7 inv8 i11 (((Prod.fst r1 + Prod.snd r2) + Prod.snd r3)) q21 ((wr (k24 + (1 : Int)))) (setL t10o (Int.toNat ((wr (k24 - (1 : Int))))) (Prod.fst r3)))))) (must (leI (0 : Int) n7 && ltI n7 (↑(List.length t10o) : Int)) (Option.bind (kAdd (List.getD t10o (Int.toNat n7) (0 : UInt64)) c12 ((0 : UInt64))) fun r0 => must (leI (0 : Int) ((wr (n7 + (1 : Int)))) && ltI ((wr (n7 + (1 : Int)))) (↑(List.length t10o) : Int)) (must (leI (0 : Int) ((wr (n7 - (1 : Int)))) && ltI ((wr (n7 - (1 : Int)))) (↑(List.length t10o) : Int)) (must (leI (0 : Int) n7 && ltI n7 (↑(List.length (setL t10o (Int.toNat ((wr (n7 - (1 : Int))))) (Prod.fst r0))) : Int)) (A_10 a0 b1 m2 n7 inv8 ((wr (i11 + (1 : Int)))) (setL (setL t10o (Int.toNat ((wr (n7 - (1 : Int))))) (Prod.fst r0)) (Int.toNat n7) ((List.getD t10o (Int.toNat ((wr (n7 + (1 : Int))))) (0 : UInt64) + Prod.snd r0))))))))
theorem b184_27_t : b184_27 = c184_27 := by
  (repeat (apply funext; intro _))
  simp only [b184_27, c184_27, hide_eq, p163_t]
def m184_27 (N : Nat) (A_10 : (List UInt64) → (List UInt64) → (List UInt64) → Int → UInt64 → Int → (List UInt64) → Option (List UInt64 × Unit)) (n : Nat) (a0 : List UInt64) (b1 : List UInt64) (m2 : List UInt64) (n7 : Int) (inv8 : UInt64) (i11 : Int) (c12 : UInt64) (q21 : UInt64) (k24 : Int) (t10o : List UInt64) : Option (List UInt64 × Unit) :=
  loopN (fun A x => c184_27 N A_10 (fun a0 b1 m2 n7 inv8 i11 c12 q21 k24 t10o => A ((a0, (b1, (m2, (n7, (inv8, ((), (i11, (c12, (q21, (k24, ())))))))))), (t10o, ()))) x.1.1 x.1.2.1 x.1.2.2.1 x.1.2.2.2.1 x.1.2.2.2.2.1 x.1.2.2.2.2.2.2.1 x.1.2.2.2.2.2.2.2.1 x.1.2.2.2.2.2.2.2.2.1 x.1.2.2.2.2.2.2.2.2.2.1 x.2.1) n ((a0, (b1, (m2, (n7, (inv8, ((), (i11, (c12, (q21, (k24, ())))))))))), (t10o, ()))
theorem l184_27_t : l184_27 = m184_27 := by
  (repeat (apply funext; intro _))
  simp only [l184_27, m184_27, b184_27_t]
theorem m184_27_succ (N : Nat) (A_10 : (List UInt64) → (List UInt64) → (List UInt64) → Int → UInt64 → Int → (List UInt64) → Option (List UInt64 × Unit)) (n : Nat) (a0 : List UInt64) (b1 : List UInt64) (m2 : List UInt64) (n7 : Int) (inv8 : UInt64) (i11 : Int) (c12 : UInt64) (q21 : UInt64) (k24 : Int) (t10o : List UInt64) : m184_27 N A_10 (n + 1) a0 b1 m2 n7 inv8 i11 c12 q21 k24 t10o = c184_27 N A_10 (m184_27 N A_10 n) a0 b1 m2 n7 inv8 i11 c12 q21 k24 t10o := rfl
def c184_14 (N : Nat) (A_10 : (List UInt64) → (List UInt64) → (List UInt64) → Int → UInt64 → Int → (List UInt64) → Option (List UInt64 × Unit)) (A_14 : (List UInt64) → (List UInt64) → (List UInt64) → Int → UInt64 → Int → UInt64 → Int → (List UInt64) → Option (List UInt64 × Unit)) (a0 : List UInt64) (b1 : List UInt64) (m2 : List UInt64) (n7 : Int) (inv8 : UInt64) (i11 : Int) (c12 : UInt64) (k13 : Int) (t10o : List UInt64) : Option (List UInt64 × Unit) :=
  cond ((ltI k13 n7)) (must (leI (0 : Int) i11 && ltI i11 (↑(List.length a0) : Int)) (must (leI (0 : Int) k13 && ltI k13 (↑(List.length b1) : Int)) (Option.bind (q163 N (List.getD a0 (Int.toNat i11) (0 : UInt64)) (List.getD b1 (Int.toNat k13) (0 : UInt64))) fun r3 => must (leI (0 : Int) k13 && ltI k13 (↑(List.length t10o) : Int)) (Option.bind (kAdd (List.getD t10o (Int.toNat k13) (0 : UInt64)) (Prod.fst (Prod.snd r3)) ((0 : UInt64))) fun r4 => Option.bind (kAdd (Prod.fst r4) c12 ((0 : UInt64))) fun r5 => must (leI (0 : Int) k13 && ltI k13 (↑(List.length t10o) : Int)) (A_14 a0 b1 m2 n7 inv8 i11 (((Prod.fst r3 + Prod.snd r4) + Prod.snd r5)) ((wr (k13 + (1 : Int)))) (setL t10o (Int.toNat k13) (Prod.fst r5))))))) (must (leI (0 : Int) n7 && ltI n7 (↑(List.length t10o) : Int)) (Option.bind (kAdd (List.getD t10o (Int.toNat n7) (0 : UInt64)) c12 ((0 : UInt64))) fun r0 => must (leI (0 : Int) n7 && ltI n7 (↑(List.length t10o) : Int)) (must (leI (0 : Int) ((wr (n7 + (1 : Int)))) && ltI ((wr (n7 + (1 : Int)))) (↑(List.length (setL t10o (Int.toNat n7) (Prod.fst r0))) : Int)) (must (ltI (0 : Int) (↑(List.length (setL (setL t10o (Int.toNat n7) (Prod.fst r0)) (Int.toNat ((wr (n7 + (1 : Int))))) (Prod.snd r0))) : Int)) (must (ltI (0 : Int) (↑(List.length m2) : Int)) (Option.bind (q163 N ((List.getD (setL (setL t10o (Int.toNat n7) (Prod.fst r0)) (Int.toNat ((wr (n7 + (1 : Int))))) (Prod.snd r0)) (0 : Nat) (0 : UInt64) * inv8)) (List.getD m2 (0 : Nat) (0 : UInt64))) fun r1 => must (ltI (0 : Int) (↑(List.length (setL (setL t10o (Int.toNat n7) (Prod.fst r0)) (Int.toNat ((wr (n7 + (1 : Int))))) (Prod.snd r0))) : Int)) (Option.bind (kAdd (List.getD (setL (setL t10o (Int.toNat n7) (Prod.fst r0)) (Int.toNat ((wr (n7 + (1 : Int))))) (Prod.snd r0)) (0 : Nat) (0 : UInt64)) (Prod.fst (Prod.snd r1)) ((0 : UInt64))) fun r2 => m184_27 N A_10 N a0 b1 m2 n7 inv8 i11 ((Prod.fst r1 + Prod.snd r2)) ((List.getD (setL (setL t10o (Int.toNat n7) (Prod.fst r0)) (Int.toNat ((wr (n7 + (1 : Int))))) (Prod.snd r0)) (0 : Nat) (0 : UInt64) * inv8)) ((1 : Int)) (setL (setL t10o (Int.toNat n7) (Prod.fst r0)) (Int.toNat ((wr (n7 + (1 : Int))))) (Prod.snd r0)))))))))
theorem b184_14_t : b184_14 = c184_14 := by
  (repeat (apply funext; intro _))
  simp only [b184_14, c184_14, hide_eq, l184_27_t, p163_t]
def m184_14 (N : Nat) (A_10 : (List UInt64) → (List UInt64) → (List UInt64) → Int → UInt64 → Int → (List UInt64) → Option (List UInt64 × Unit)) (n : Nat) (a0 : List UInt64) (b1 : List UInt64) (m2 : List UInt64) (n7 : Int) (inv8 : UInt64) (i11 : Int) (c12 : UInt64) (k13 : Int) (t10o : List UInt64) : Option (List UInt64 × Unit) :=
  loopN (fun A x => c184_14 N A_10 (fun a0 b1 m2 n7 inv8 i11 c12 k13 t10o => A ((a0, (b1, (m2, (n7, (inv8, ((), (i11, (c12, (k13, ()))))))))), (t10o, ()))) x.1.1 x.1.2.1 x.1.2.2.1 x.1.2.2.2.1 x.1.2.2.2.2.1 x.1.2.2.2.2.2.2.1 x.1.2.2.2.2.2.2.2.1 x.1.2.2.2.2.2.2.2.2.1 x.2.1) n ((a0, (b1, (m2, (n7, (inv8, ((), (i11, (c12, (k13, ()))))))))), (t10o, ()))
theorem l184_14_t : l184_14 = m184_14 := by
  (repeat (apply funext; intro _))
  simp only [l184_14, m184_14, b184_14_t]
theorem m184_14_succ (N : Nat) (A_10 : (List UInt64) → (List UInt64) → (List UInt64) → Int → UInt64 → Int → (List UInt64) → Option (List UInt64 × Unit)) (n : Nat) (a0 : List UInt64) (b1 : List UInt64) (m2 : List UInt64) (n7 : Int) (inv8 : UInt64) (i11 : Int) (c12 : UInt64) (k13 : Int) (t10o : List UInt64) : m184_14 N A_10 (n + 1) a0 b1 m2 n7 inv8 i11 c12 k13 t10o = c184_14 N A_10 (m184_14 N A_10 n) a0 b1 m2 n7 inv8 i11 c12 k13 t10o := rfl
def c184_10 (N : Nat) (A_10 : (List UInt64) → (List UInt64) → (List UInt64) → Int → UInt64 → Int → (List UInt64) → Option (List UInt64 × Unit)) (a0 : List UInt64) (b1 : List UInt64) (m2 : List UInt64) (n7 : Int) (inv8 : UInt64) (i11 : Int) (t10o : List UInt64) : Option (List UInt64 × Unit) :=
  cond ((ltI i11 n7)) (m184_14 N A_10 N a0 b1 m2 n7 inv8 i11 ((0 : UInt64)) ((0 : Int)) t10o) (must (leI (0 : Int) n7 && ltI n7 (↑(List.length t10o) : Int)) (cond (!List.getD t10o (Int.toNat n7) (0 : UInt64) == (0 : UInt64)) (must (ltN (0 : Nat) (List.length t10o)) (Option.bind (q214 N t10o m2) fun r2 => must (Nat.beq (List.length (Prod.fst r2)) (List.length t10o)) (must (leI (0 : Int) n7 && leI n7 (↑(List.length (Prod.fst r2)) : Int)) (must (ltN (0 : Nat) (Int.toNat (n7 - (0 : Int)))) (some ((List.take (Int.toNat (n7 - (0 : Int))) (Prod.fst r2), ()))))))) (must (leI (0 : Int) n7 && leI n7 (↑(List.length t10o) : Int)) (Option.bind (q168 N (List.take (Int.toNat (n7 - (0 : Int))) t10o) m2) fun r0 => cond (!Prod.fst r0) (must (ltN (0 : Nat) (List.length t10o)) (Option.bind (q214 N t10o m2) fun r1 => must (Nat.beq (List.length (Prod.fst r1)) (List.length t10o)) (must (leI (0 : Int) n7 && leI n7 (↑(List.length (Prod.fst r1)) : Int)) (must (ltN (0 : Nat) (Int.toNat (n7 - (0 : Int)))) (some ((List.take (Int.toNat (n7 - (0 : Int))) (Prod.fst r1), ()))))))) (must (leI (0 : Int) n7 && leI n7 (↑(List.length t10o) : Int)) (must (ltN (0 : Nat) (Int.toNat (n7 - (0 : Int)))) (some ((List.take (Int.toNat (n7 - (0 : Int))) t10o, ())))))))))
theorem b184_10_t : b184_10 = c184_10 := by
  (repeat (apply funext; intro _))
  simp only [b184_10, c184_10, hide_eq, l184_14_t, p168_t, p214_t]
def m184_10 (N : Nat) (n : Nat) (a0 : List UInt64) (b1 : List UInt64) (m2 : List UInt64) (n7 : Int) (inv8 : UInt64) (i11 : Int) (t10o : List UInt64) : Option (List UInt64 × Unit) :=
  loopN (fun A x => c184_10 N (fun a0 b1 m2 n7 inv8 i11 t10o => A ((a0, (b1, (m2, (n7, (inv8, ((), (i11, ()))))))), (t10o, ()))) x.1.1 x.1.2.1 x.1.2.2.1 x.1.2.2.2.1 x.1.2.2.2.2.1 x.1.2.2.2.2.2.2.1 x.2.1) n ((a0, (b1, (m2, (n7, (inv8, ((), (i11, ()))))))), (t10o, ()))
theorem l184_10_t : l184_10 = m184_10 := by
  (repeat (apply funext; intro _))
  simp only [l184_10, m184_10, b184_10_t]
theorem m184_10_succ (N : Nat) (n : Nat) (a0 : List UInt64) (b1 : List UInt64) (m2 : List UInt64) (n7 : Int) (inv8 : UInt64) (i11 : Int) (t10o : List UInt64) : m184_10 N (n + 1) a0 b1 m2 n7 inv8 i11 t10o = c184_10 N (m184_10 N n) a0 b1 m2 n7 inv8 i11 t10o := rfl
def c184_4 (N : Nat) (A_4 : (List UInt64) → (List UInt64) → (List UInt64) → Int → UInt64 → Int → Option (List UInt64 × Unit)) (a0 : List UInt64) (b1 : List UInt64) (m2 : List UInt64) (n7 : Int) (inv8 : UInt64) (i9 : Int) : Option (List UInt64 × Unit) :=
  cond ((ltI i9 (6 : Int))) (must (ltI (0 : Int) (↑(List.length m2) : Int)) (A_4 a0 b1 m2 n7 ((inv8 * ((2 : UInt64) - (List.getD m2 (0 : Nat) (0 : UInt64) * inv8)))) ((wr (i9 + (1 : Int)))))) (must (leI (0 : Int) ((wr (n7 + (2 : Int)))) && (eqI ((wr (n7 + (2 : Int)))) ((wr (n7 + (2 : Int)))) && leN (Int.toNat ((wr (n7 + (2 : Int)))) * (8 : Nat)) (140737488355328 : Nat))) (m184_10 N N a0 b1 m2 n7 (((0 : UInt64) - inv8)) ((0 : Int)) (List.replicate (Int.toNat ((wr (n7 + (2 : Int))))) (0 : UInt64))))
theorem b184_4_t : b184_4 = c184_4 := by
  (repeat (apply funext; intro _))
  simp only [b184_4, c184_4, hide_eq, l184_10_t]
def m184_4 (N : Nat) (n : Nat) (a0 : List UInt64) (b1 : List UInt64) (m2 : List UInt64) (n7 : Int) (inv8 : UInt64) (i9 : Int) : Option (List UInt64 × Unit) :=
  loopN (fun A x => c184_4 N (fun a0 b1 m2 n7 inv8 i9 => A ((a0, (b1, (m2, (n7, (inv8, (i9, ())))))), ())) x.1.1 x.1.2.1 x.1.2.2.1 x.1.2.2.2.1 x.1.2.2.2.2.1 x.1.2.2.2.2.2.1) n ((a0, (b1, (m2, (n7, (inv8, (i9, ())))))), ())
theorem l184_4_t : l184_4 = m184_4 := by
  (repeat (apply funext; intro _))
  simp only [l184_4, m184_4, b184_4_t]
theorem m184_4_succ (N : Nat) (n : Nat) (a0 : List UInt64) (b1 : List UInt64) (m2 : List UInt64) (n7 : Int) (inv8 : UInt64) (i9 : Int) : m184_4 N (n + 1) a0 b1 m2 n7 inv8 i9 = c184_4 N (m184_4 N n) a0 b1 m2 n7 inv8 i9 := rfl
def q184 (N : Nat) (a0 : List UInt64) (b1 : List UInt64) (m2 : List UInt64) : Option (List UInt64 × Unit) :=
  must (ltI (0 : Int) (↑(List.length m2) : Int)) (m184_4 N N a0 b1 m2 ((↑(List.length m2) : Int)) (List.getD m2 (0 : Nat) (0 : UInt64)) ((0 : Int)))
theorem p184_t : p184 = q184 := by
  (repeat (apply funext; intro _))
  simp only [p184, q184, l184_4_t]
def q175 (N : Nat) (a0 : List UInt64) : Option (Fr × Unit) :=
  must (Nat.beq (List.length (splice [(0 : UInt64), (0 : UInt64), (0 : UInt64), (0 : UInt64)] (Int.toNat (0 : Int)) (List.take (Int.toNat ((↑(4 : Nat) : Int) - (0 : Int))) a0))) (4 : Nat)) (Option.bind (Fr.of? (splice [(0 : UInt64), (0 : UInt64), (0 : UInt64), (0 : UInt64)] (Int.toNat (0 : Int)) (List.take (Int.toNat ((↑(4 : Nat) : Int) - (0 : Int))) a0))) fun r0 => some ((r0, ())))
theorem p175_t : p175 = q175 := by
  (repeat (apply funext; intro _))
  simp only [p175, q175, ]
def q94 (N : Nat) (a0 : Fr) (b1 : Fr) : Option (Fr × Unit) :=
  Option.bind (q88 N) fun r0 => Option.bind (q184 N (List.take (Int.toNat ((↑(4 : Nat) : Int) - (0 : Int))) [Fr.a0 a0, Fr.a1 a0, Fr.a2 a0, Fr.a3 a0]) (List.take (Int.toNat ((↑(4 : Nat) : Int) - (0 : Int))) [Fr.a0 b1, Fr.a1 b1, Fr.a2 b1, Fr.a3 b1]) (Prod.fst r0)) fun r1 => Option.bind (q184 N (List.take (List.length (Prod.fst r1)) (List.drop (0 : Nat) (Prod.fst r1))) ([(14526898881837571181 : UInt64), (3129137299524312099 : UInt64), (419701826671360399 : UInt64), (524908885293268753 : UInt64)]) (Prod.fst r0)) fun r2 => Option.bind (q175 N (List.take (List.length (Prod.fst r2)) (List.drop (0 : Nat) (Prod.fst r2)))) fun r3 => some (({ a0 := Fr.a0 (Prod.fst r3), a1 := Fr.a1 (Prod.fst r3), a2 := Fr.a2 (Prod.fst r3), a3 := Fr.a3 (Prod.fst r3) }, ()))
theorem p94_t : p94 = q94 := by
  (repeat (apply funext; intro _))
  simp only [p94, q94, p175_t, p184_t, p88_t]
def c80_4 (N : Nat) (A_4 : UInt64 → Int → (List UInt64) → (List UInt64) → (List UInt64) → (List UInt64) → Option (Fr × Unit)) (carry6 : UInt64) (t8 : Int) (ob0 : List UInt64) (ob1 : List UInt64) (ob2 : List UInt64) (ob3 : List UInt64) : Option (Fr × Unit) :=
  cond ((ltI t8 (4 : Int))) (must (leI (0 : Int) t8 && ltI t8 (↑(4 : Nat) : Int)) (must (leI (0 : Int) t8 && ltI t8 (↑(4 : Nat) : Int)) (Option.bind (kAdd (List.getD ob0 (Int.toNat t8) (0 : UInt64)) (List.getD ob1 (Int.toNat t8) (0 : UInt64)) carry6) fun r3 => must (leI (0 : Int) t8 && ltI t8 (↑(4 : Nat) : Int)) (A_4 (Prod.snd r3) ((wr (t8 + (1 : Int)))) ob0 ob1 ob2 (setL ob3 (Int.toNat t8) (Prod.fst r3)))))) (Option.bind (Option.bind (Option.bind (Fr.of? ob3) fun r0 => some ((r0, carry6, ()))) fun r1 => q174 N (Prod.fst r1) (Prod.fst (Prod.snd r1))) fun r2 => some (({ a0 := Fr.a0 (Prod.fst r2), a1 := Fr.a1 (Prod.fst r2), a2 := Fr.a2 (Prod.fst r2), a3 := Fr.a3 (Prod.fst r2) }, ())))
def m80_4 (N : Nat) (n : Nat) (carry6 : UInt64) (t8 : Int) (ob0 : List UInt64) (ob1 : List UInt64) (ob2 : List UInt64) (ob3 : List UInt64) : Option (Fr × Unit) :=
  loopN (fun A x => c80_4 N (fun carry6 t8 ob0 ob1 ob2 ob3 => A (((), ((), ((), ((), (carry6, (t8, ())))))), (ob0, (ob1, (ob2, (ob3, ())))))) x.1.2.2.2.2.1 x.1.2.2.2.2.2.1 x.2.1 x.2.2.1 x.2.2.2.1 x.2.2.2.2.1) n (((), ((), ((), ((), (carry6, (t8, ())))))), (ob0, (ob1, (ob2, (ob3, ())))))
theorem m80_4_succ (N : Nat) (n : Nat) (carry6 : UInt64) (t8 : Int) (ob0 : List UInt64) (ob1 : List UInt64) (ob2 : List UInt64) (ob3 : List UInt64) : m80_4 N (n + 1) carry6 t8 ob0 ob1 ob2 ob3 = c80_4 N (m80_4 N n) carry6 t8 ob0 ob1 ob2 ob3 := rfl
def c176_4 (N : Nat) (A_4 : (List UInt64) → (List UInt64) → (List UInt64) → UInt64 → Int → (List UInt64) → Option (List UInt64 × Unit)) (a0 : List UInt64) (b1 : List UInt64) (m2 : List UInt64) (c8 : UInt64) (i9 : Int) (t7o : List UInt64) : Option (List UInt64 × Unit) :=
  cond ((ltI i9 (↑(List.length m2) : Int))) (must (leI (0 : Int) i9 && ltI i9 (↑(List.length a0) : Int)) (must (leI (0 : Int) i9 && ltI i9 (↑(List.length b1) : Int)) (Option.bind (kAdd (List.getD a0 (Int.toNat i9) (0 : UInt64)) (List.getD b1 (Int.toNat i9) (0 : UInt64)) c8) fun r3 => must (leI (0 : Int) i9 && ltI i9 (↑(List.length t7o) : Int)) (A_4 a0 b1 m2 (Prod.snd r3) ((wr (i9 + (1 : Int)))) (setL t7o (Int.toNat i9) (Prod.fst r3)))))) (cond ((c8 == (1 : UInt64))) (must (ltN (0 : Nat) (List.length t7o)) (Option.bind (q214 N t7o m2) fun r2 => must (Nat.beq (List.length (Prod.fst r2)) (List.length t7o)) (some ((Prod.fst r2, ()))))) (Option.bind (q168 N t7o m2) fun r0 => cond (!Prod.fst r0) (must (ltN (0 : Nat) (List.length t7o)) (Option.bind (q214 N t7o m2) fun r1 => must (Nat.beq (List.length (Prod.fst r1)) (List.length t7o)) (some ((Prod.fst r1, ()))))) (some ((t7o, ())))))
theorem b176_4_t : b176_4 = c176_4 := by
  (repeat (apply funext; intro _))
  simp only [b176_4, c176_4, hide_eq, p168_t, p214_t]
def m176_4 (N : Nat) (n : Nat) (a0 : List UInt64) (b1 : List UInt64) (m2 : List UInt64) (c8 : UInt64) (i9 : Int) (t7o : List UInt64) : Option (List UInt64 × Unit) :=
  loopN (fun A x => c176_4 N (fun a0 b1 m2 c8 i9 t7o => A ((a0, (b1, (m2, ((), (c8, (i9, ())))))), (t7o, ()))) x.1.1 x.1.2.1 x.1.2.2.1 x.1.2.2.2.2.1 x.1.2.2.2.2.2.1 x.2.1) n ((a0, (b1, (m2, ((), (c8, (i9, ())))))), (t7o, ()))
theorem l176_4_t : l176_4 = m176_4 := by
  (repeat (apply funext; intro _))
  simp only [l176_4, m176_4, b176_4_t]
theorem m176_4_succ (N : Nat) (n : Nat) (a0 : List UInt64) (b1 : List UInt64) (m2 : List UInt64) (c8 : UInt64) (i9 : Int) (t7o : List UInt64) : m176_4 N (n + 1) a0 b1 m2 c8 i9 t7o = c176_4 N (m176_4 N n) a0 b1 m2 c8 i9 t7o := rfl
def q176 (N : Nat) (a0 : List UInt64) (b1 : List UInt64) (m2 : List UInt64) : Option (List UInt64 × Unit) :=
  must (eqI (↑(List.length m2) : Int) (↑(List.length m2) : Int) && leN (Int.toNat (↑(List.length m2) : Int) * (8 : Nat)) (140737488355328 : Nat)) (m176_4 N N a0 b1 m2 ((0 : UInt64)) ((0 : Int)) (List.replicate (Int.toNat (↑(List.length m2) : Int)) (0 : UInt64)))
theorem p176_t : p176 = q176 := by
  (repeat (apply funext; intro _))
  simp only [p176, q176, l176_4_t]
def q81 (N : Nat) (a0 : Fr) (b1 : Fr) : Option (Fr × Unit) :=
  Option.bind (q88 N) fun r0 => Option.bind (q176 N (List.take (Int.toNat ((↑(4 : Nat) : Int) - (0 : Int))) [Fr.a0 a0, Fr.a1 a0, Fr.a2 a0, Fr.a3 a0]) (List.take (Int.toNat ((↑(4 : Nat) : Int) - (0 : Int))) [Fr.a0 b1, Fr.a1 b1, Fr.a2 b1, Fr.a3 b1]) (Prod.fst r0)) fun r1 => Option.bind (q175 N (Prod.fst r1)) fun r2 => some (({ a0 := Fr.a0 (Prod.fst r2), a1 := Fr.a1 (Prod.fst r2), a2 := Fr.a2 (Prod.fst r2), a3 := Fr.a3 (Prod.fst r2) }, ()))
theorem p81_t : p81 = q81 := by
  (repeat (apply funext; intro _))
  simp only [p81, q81, p175_t, p176_t, p88_t]
def q203 (N : Nat) (l0 : List UInt64) : Option (Fr × Unit) :=
  must (Nat.beq (List.length (splice [(0 : UInt64), (0 : UInt64), (0 : UInt64), (0 : UInt64)] (Int.toNat (0 : Int)) (List.take (Int.toNat ((↑(4 : Nat) : Int) - (0 : Int))) l0))) (4 : Nat)) (Option.bind (Fr.of? (splice [(0 : UInt64), (0 : UInt64), (0 : UInt64), (0 : UInt64)] (Int.toNat (0 : Int)) (List.take (Int.toNat ((↑(4 : Nat) : Int) - (0 : Int))) l0))) fun r0 => some ((r0, ())))
theorem p203_t : p203 = q203 := by
  (repeat (apply funext; intro _))
  simp only [p203, q203, ]
def q126 (N : Nat) (b0 : List UInt8) : Option (Fr × Unit) :=
  Option.bind (q59 N b0) fun r0 => Option.bind (q74 N) fun r1 => Option.bind (q52 N (Prod.fst r0) (List.take (List.length (Prod.fst r1)) (List.drop (0 : Nat) (Prod.fst r1)))) fun r2 => Option.bind (q203 N (Prod.fst r2)) fun r3 => some (({ a0 := Fr.a0 (Prod.fst r3), a1 := Fr.a1 (Prod.fst r3), a2 := Fr.a2 (Prod.fst r3), a3 := Fr.a3 (Prod.fst r3) }, ()))
theorem p126_t : p126 = q126 := by
  (repeat (apply funext; intro _))
  simp only [p126, q126, p203_t, p52_t, p59_t, p74_t]
def c127_3 (N : Nat) (A_3 : (List UInt8) → Int → (List UInt64) → (List UInt64) → Option (Fr × Unit)) (b0 : List UInt8) (i4 : Int) (ob0 : List UInt64) (ob1 : List UInt64) : Option (Fr × Unit) :=
  cond ((ltI i4 (↑(List.length b0) : Int))) (Option.bind (q173 N ((256 : UInt64))) fun r1 => Option.bind (Option.bind (Option.bind (Fr.of? ob1) fun r2 => some ((r2, { a0 := Fr.a0 (Prod.fst r1), a1 := Fr.a1 (Prod.fst r1), a2 := Fr.a2 (Prod.fst r1), a3 := Fr.a3 (Prod.fst r1) }, ()))) fun r3 => q94 N (Prod.fst r3) (Prod.fst (Prod.snd r3))) fun r4 => must (leI (0 : Int) i4 && ltI i4 (↑(List.length b0) : Int)) (Option.bind (q173 N ((UInt64.ofNat (UInt8.toNat (List.getD b0 (Int.toNat i4) (0 : UInt8)))))) fun r5 => Option.bind (q81 N ({ a0 := Fr.a0 (Prod.fst r4), a1 := Fr.a1 (Prod.fst r4), a2 := Fr.a2 (Prod.fst r4), a3 := Fr.a3 (Prod.fst r4) }) ({ a0 := Fr.a0 (Prod.fst r5), a1 := Fr.a1 (Prod.fst r5), a2 := Fr.a2 (Prod.fst r5), a3 := Fr.a3 (Prod.fst r5) })) fun r6 => A_3 b0 ((wr (i4 + (1 : Int)))) ob0 ([Fr.a0 (Prod.fst r6), Fr.a1 (Prod.fst r6), Fr.a2 (Prod.fst r6), Fr.a3 (Prod.fst r6)]))) (must (Nat.beq (List.length ob1) (4 : Nat)) (Option.bind (Fr.of? ob1) fun r0 => some ((r0, ()))))
theorem b127_3_t : b127_3 = c127_3 := by
  (repeat (apply funext; intro _))
  simp only [b127_3, c127_3, hide_eq, p173_t, p81_t, p94_t]
def m127_3 (N : Nat) (n : Nat) (b0 : List UInt8) (i4 : Int) (ob0 : List UInt64) (ob1 : List UInt64) : Option (Fr × Unit) :=
  loopN (fun A x => c127_3 N (fun b0 i4 ob0 ob1 => A ((b0, ((), ((), (i4, ())))), (ob0, (ob1, ())))) x.1.1 x.1.2.2.2.1 x.2.1 x.2.2.1) n ((b0, ((), ((), (i4, ())))), (ob0, (ob1, ())))
theorem l127_3_t : l127_3 = m127_3 := by
  (repeat (apply funext; intro _))
  simp only [l127_3, m127_3, b127_3_t]
theorem m127_3_succ (N : Nat) (n : Nat) (b0 : List UInt8) (i4 : Int) (ob0 : List UInt64) (ob1 : List UInt64) : m127_3 N (n + 1) b0 i4 ob0 ob1 = c127_3 N (m127_3 N n) b0 i4 ob0 ob1 := rfl
def q127 (N : Nat) (b0 : List UInt8) : Option (Fr × Unit) :=
  m127_3 N N b0 ((0 : Int)) ([(0 : UInt64), (0 : UInt64), (0 : UInt64), (0 : UInt64)]) ([(0 : UInt64), (0 : UInt64), (0 : UInt64), (0 : UInt64)])
theorem p127_t : p127 = q127 := by
  (repeat (apply funext; intro _))
  simp only [p127, q127, l127_3_t]
end Go.Proofs.Ytgimohchocjgcaa.V
