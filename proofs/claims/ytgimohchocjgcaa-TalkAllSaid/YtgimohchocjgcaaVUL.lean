import Derived.Test.YtgimohchocjgcaaVTL
import Derived.KernelRfl
set_option linter.unusedVariables false
set_option linter.unusedSimpArgs false
namespace Go.Proofs.Ytgimohchocjgcaa.V
def c158_2 (N : Nat) (A_2 : (List UInt64) → Int → Option (List UInt64 × Unit)) (a0 : List UInt64) (n3 : Int) : Option (List UInt64 × Unit) :=
  cond ((ltI (0 : Int) n3)) (must (leI (0 : Int) ((wr (n3 - (1 : Int)))) && ltI ((wr (n3 - (1 : Int)))) (↑(List.length a0) : Int)) (cond ((List.getD a0 (Int.toNat ((wr (n3 - (1 : Int))))) (0 : UInt64) == (0 : UInt64))) (A_2 a0 ((wr (n3 - (1 : Int))))) (must (leI (0 : Int) n3 && leI n3 (↑(List.length a0) : Int)) (must (leN (((0 : Nat) + List.length (List.take (Int.toNat (n3 - (0 : Int))) a0)) * (8 : Nat)) (140737488355328 : Nat)) (some ((List.take (Int.toNat (n3 - (0 : Int))) a0, ()))))))) (must (leI (0 : Int) n3 && leI n3 (↑(List.length a0) : Int)) (must (leN (((0 : Nat) + List.length (List.take (Int.toNat (n3 - (0 : Int))) a0)) * (8 : Nat)) (140737488355328 : Nat)) (some ((List.take (Int.toNat (n3 - (0 : Int))) a0, ())))))
theorem b158_2_t : b158_2 = c158_2 := by
  (repeat (apply funext; intro _))
  simp only [b158_2, c158_2, hide_eq]
def m158_2 (N : Nat) (n : Nat) (a0 : List UInt64) (n3 : Int) : Option (List UInt64 × Unit) :=
  loopN (fun A x => c158_2 N (fun a0 n3 => A ((a0, (n3, ())), ())) x.1.1 x.1.2.1) n ((a0, (n3, ())), ())
theorem l158_2_t : l158_2 = m158_2 := by
  (repeat (apply funext; intro _))
  simp only [l158_2, m158_2, b158_2_t]
theorem m158_2_succ (N : Nat) (n : Nat) (a0 : List UInt64) (n3 : Int) : m158_2 N (n + 1) a0 n3 = c158_2 N (m158_2 N n) a0 n3 := rfl
def q158 (N : Nat) (a0 : List UInt64) : Option (List UInt64 × Unit) :=
  m158_2 N N a0 ((↑(List.length a0) : Int))
theorem p158_t : p158 = q158 := by
  (repeat (apply funext; intro _))
  simp only [p158, q158, l158_2_t]
def q160 (N : Nat) (a0 : List UInt64) (i1 : Int) : Option (UInt64 × Unit) :=
  cond ((ltI i1 (↑(List.length a0) : Int))) (must (leI (0 : Int) i1 && ltI i1 (↑(List.length a0) : Int)) (some ((List.getD a0 (Int.toNat i1) (0 : UInt64), ())))) (some (((0 : UInt64), ())))
theorem p160_t : p160 = q160 := by
  (repeat (apply funext; intro _))
  simp only [p160, q160, hide_eq]
def c61_1000 (N : Nat) (A_1000 : (List UInt64) → (List UInt64) → Int → Option (Int × Unit)) (a0 : List UInt64) (b1 : List UInt64) (i5 : Int) : Option (Int × Unit) :=
  cond ((ltI ((wr (i5 - (1 : Int)))) (0 : Int))) (some (((0 : Int), ()))) (Option.bind (q160 N a0 ((wr (i5 - (1 : Int))))) fun r0 => Option.bind (q160 N b1 ((wr (i5 - (1 : Int))))) fun r1 => cond ((ltN (UInt64.toNat (Prod.fst r0)) (UInt64.toNat (Prod.fst r1)))) (some (((-1 : Int), ()))) (cond ((ltN (UInt64.toNat (Prod.fst r1)) (UInt64.toNat (Prod.fst r0)))) (some (((1 : Int), ()))) (A_1000 a0 b1 ((wr (i5 - (1 : Int)))))))
theorem b61_1000_t : b61_1000 = c61_1000 := by
  (repeat (apply funext; intro _))
  simp only [b61_1000, c61_1000, hide_eq, p160_t]
def m61_1000 (N : Nat) (n : Nat) (a0 : List UInt64) (b1 : List UInt64) (i5 : Int) : Option (Int × Unit) :=
  loopN (fun A x => c61_1000 N (fun a0 b1 i5 => A ((a0, (b1, (i5, ()))), ())) x.1.1 x.1.2.1 x.1.2.2.1) n ((a0, (b1, (i5, ()))), ())
theorem l61_1000_t : l61_1000 = m61_1000 := by
  (repeat (apply funext; intro _))
  simp only [l61_1000, m61_1000, b61_1000_t]
theorem m61_1000_succ (N : Nat) (n : Nat) (a0 : List UInt64) (b1 : List UInt64) (i5 : Int) : m61_1000 N (n + 1) a0 b1 i5 = c61_1000 N (m61_1000 N n) a0 b1 i5 := rfl
def q61 (N : Nat) (a0 : List UInt64) (b1 : List UInt64) : Option (Int × Unit) :=
  m61_1000 N N a0 b1 (mxI (↑(List.length a0) : Int) (↑(List.length b1) : Int))
theorem p61_t : p61 = q61 := by
  (repeat (apply funext; intro _))
  simp only [p61, q61, l61_1000_t]
def c62_5 (N : Nat) (A_5 : (List UInt64) → (List UInt64) → Int → UInt64 → Int → Int → (List UInt64) → Option (List UInt64 × Unit)) (a0 : List UInt64) (b1 : List UInt64) (n5 : Int) (carry7 : UInt64) (t17 : Int) (t18 : Int) (out6o : List UInt64) : Option (List UInt64 × Unit) :=
  cond ((ltI t18 t17)) (Option.bind (q160 N a0 t18) fun r1 => Option.bind (q160 N b1 t18) fun r2 => Option.bind (kAdd (Prod.fst r1) (Prod.fst r2) carry7) fun r3 => must (leI (0 : Int) t18 && ltI t18 (↑(List.length out6o) : Int)) (A_5 a0 b1 n5 (Prod.snd r3) t17 ((wr (t18 + (1 : Int)))) (setL out6o (Int.toNat t18) (Prod.fst r3)))) (must (leI (0 : Int) n5 && ltI n5 (↑(List.length out6o) : Int)) (Option.bind (q158 N (setL out6o (Int.toNat n5) carry7)) fun r0 => some ((Prod.fst r0, ()))))
def m62_5 (N : Nat) (n : Nat) (a0 : List UInt64) (b1 : List UInt64) (n5 : Int) (carry7 : UInt64) (t17 : Int) (t18 : Int) (out6o : List UInt64) : Option (List UInt64 × Unit) :=
  loopN (fun A x => c62_5 N (fun a0 b1 n5 carry7 t17 t18 out6o => A ((a0, (b1, (n5, ((), (carry7, (t17, (t18, ()))))))), (out6o, ()))) x.1.1 x.1.2.1 x.1.2.2.1 x.1.2.2.2.2.1 x.1.2.2.2.2.2.1 x.1.2.2.2.2.2.2.1 x.2.1) n ((a0, (b1, (n5, ((), (carry7, (t17, (t18, ()))))))), (out6o, ()))
def q62 (N : Nat) (a0 : List UInt64) (b1 : List UInt64) : Option (List UInt64 × Unit) :=
  must (leI (0 : Int) ((wr (mxI (↑(List.length a0) : Int) (↑(List.length b1) : Int) + (1 : Int)))) && (eqI ((wr (mxI (↑(List.length a0) : Int) (↑(List.length b1) : Int) + (1 : Int)))) ((wr (mxI (↑(List.length a0) : Int) (↑(List.length b1) : Int) + (1 : Int)))) && leN (Int.toNat ((wr (mxI (↑(List.length a0) : Int) (↑(List.length b1) : Int) + (1 : Int)))) * (8 : Nat)) (140737488355328 : Nat))) (m62_5 N N a0 b1 (mxI (↑(List.length a0) : Int) (↑(List.length b1) : Int)) ((0 : UInt64)) (mxI (↑(List.length a0) : Int) (↑(List.length b1) : Int)) ((0 : Int)) (List.replicate (Int.toNat ((wr (mxI (↑(List.length a0) : Int) (↑(List.length b1) : Int) + (1 : Int))))) (0 : UInt64)))
def q163 (N : Nat) (x0 : UInt64) (y1 : UInt64) : Option (UInt64 × UInt64 × Unit) :=
  some ((((((shr64 x0 (UInt64.toNat (32 : UInt64))) * (shr64 y1 (UInt64.toNat (32 : UInt64)))) + (shr64 ((((shr64 x0 (UInt64.toNat (32 : UInt64))) * (y1 &&& (4294967295 : UInt64))) + (shr64 (((x0 &&& (4294967295 : UInt64)) * (y1 &&& (4294967295 : UInt64)))) (UInt64.toNat (32 : UInt64))))) (UInt64.toNat (32 : UInt64)))) + (shr64 ((((((shr64 x0 (UInt64.toNat (32 : UInt64))) * (y1 &&& (4294967295 : UInt64))) + (shr64 (((x0 &&& (4294967295 : UInt64)) * (y1 &&& (4294967295 : UInt64)))) (UInt64.toNat (32 : UInt64)))) &&& (4294967295 : UInt64)) + ((x0 &&& (4294967295 : UInt64)) * (shr64 y1 (UInt64.toNat (32 : UInt64)))))) (UInt64.toNat (32 : UInt64)))), (x0 * y1), ()))
theorem p163_t : p163 = q163 := by
  (repeat (apply funext; intro _))
  simp only [p163, q163, hide_eq]
def c55_7 (N : Nat) (A_3 : (List UInt64) → (List UInt64) → Int → Int → (List UInt64) → Option (List UInt64 × Unit)) (A_7 : (List UInt64) → Int → UInt64 → UInt64 → (List UInt64) → Int → Int → (List UInt64) → Int → Int → (List UInt64) → Option (List UInt64 × Unit)) (b1 : List UInt64) (i6 : Int) (x7 : UInt64) (over8 : UInt64) (t21 : List UInt64) (t22 : Int) (t23 : Int) (t28 : List UInt64) (t29 : Int) (t30 : Int) (out5o : List UInt64) : Option (List UInt64 × Unit) :=
  cond ((ltI t30 t29)) (must (leI (0 : Int) t30 && ltI t30 (↑(List.length t28) : Int)) (Option.bind (q163 N x7 (List.getD t28 (Int.toNat t30) (0 : UInt64))) fun r0 => must (leI (0 : Int) ((wr (i6 + t30))) && ltI ((wr (i6 + t30))) (↑(List.length out5o) : Int)) (Option.bind (kAdd (Prod.fst (Prod.snd r0)) (List.getD out5o (Int.toNat ((wr (i6 + t30)))) (0 : UInt64)) ((0 : UInt64))) fun r1 => Option.bind (kAdd (Prod.fst r1) over8 ((0 : UInt64))) fun r2 => must (leI (0 : Int) ((wr (i6 + t30))) && ltI ((wr (i6 + t30))) (↑(List.length out5o) : Int)) (A_7 b1 i6 x7 (((Prod.fst r0 + Prod.snd r1) + Prod.snd r2)) t21 t22 t23 t28 t29 ((wr (t30 + (1 : Int)))) (setL out5o (Int.toNat ((wr (i6 + t30)))) (Prod.fst r2)))))) (must (leI (0 : Int) ((wr (i6 + (↑(List.length b1) : Int)))) && ltI ((wr (i6 + (↑(List.length b1) : Int)))) (↑(List.length out5o) : Int)) (A_3 b1 t21 t22 ((wr (t23 + (1 : Int)))) (setL out5o (Int.toNat ((wr (i6 + (↑(List.length b1) : Int))))) over8)))
def m55_7 (N : Nat) (A_3 : (List UInt64) → (List UInt64) → Int → Int → (List UInt64) → Option (List UInt64 × Unit)) (n : Nat) (b1 : List UInt64) (i6 : Int) (x7 : UInt64) (over8 : UInt64) (t21 : List UInt64) (t22 : Int) (t23 : Int) (t28 : List UInt64) (t29 : Int) (t30 : Int) (out5o : List UInt64) : Option (List UInt64 × Unit) :=
  loopN (fun A x => c55_7 N A_3 (fun b1 i6 x7 over8 t21 t22 t23 t28 t29 t30 out5o => A ((b1, ((), (i6, (x7, (over8, (t21, (t22, (t23, (t28, (t29, (t30, ()))))))))))), (out5o, ()))) x.1.1 x.1.2.2.1 x.1.2.2.2.1 x.1.2.2.2.2.1 x.1.2.2.2.2.2.1 x.1.2.2.2.2.2.2.1 x.1.2.2.2.2.2.2.2.1 x.1.2.2.2.2.2.2.2.2.1 x.1.2.2.2.2.2.2.2.2.2.1 x.1.2.2.2.2.2.2.2.2.2.2.1 x.2.1) n ((b1, ((), (i6, (x7, (over8, (t21, (t22, (t23, (t28, (t29, (t30, ()))))))))))), (out5o, ()))
def c55_3 (N : Nat) (A_3 : (List UInt64) → (List UInt64) → Int → Int → (List UInt64) → Option (List UInt64 × Unit)) (b1 : List UInt64) (t21 : List UInt64) (t22 : Int) (t23 : Int) (out5o : List UInt64) : Option (List UInt64 × Unit) :=
  cond ((ltI t23 t22)) (must (leI (0 : Int) t23 && ltI t23 (↑(List.length t21) : Int)) (m55_7 N A_3 N b1 t23 (List.getD t21 (Int.toNat t23) (0 : UInt64)) ((0 : UInt64)) t21 t22 t23 b1 ((↑(List.length b1) : Int)) ((0 : Int)) out5o)) (Option.bind (q158 N out5o) fun r0 => some ((Prod.fst r0, ())))
def m55_3 (N : Nat) (n : Nat) (b1 : List UInt64) (t21 : List UInt64) (t22 : Int) (t23 : Int) (out5o : List UInt64) : Option (List UInt64 × Unit) :=
  loopN (fun A x => c55_3 N (fun b1 t21 t22 t23 out5o => A ((b1, ((), (t21, (t22, (t23, ()))))), (out5o, ()))) x.1.1 x.1.2.2.1 x.1.2.2.2.1 x.1.2.2.2.2.1 x.2.1) n ((b1, ((), (t21, (t22, (t23, ()))))), (out5o, ()))
def q55 (N : Nat) (a0 : List UInt64) (b1 : List UInt64) : Option (List UInt64 × Unit) :=
  must (leI (0 : Int) ((wr ((↑(List.length a0) : Int) + (↑(List.length b1) : Int)))) && (eqI ((wr ((↑(List.length a0) : Int) + (↑(List.length b1) : Int)))) ((wr ((↑(List.length a0) : Int) + (↑(List.length b1) : Int)))) && leN (Int.toNat ((wr ((↑(List.length a0) : Int) + (↑(List.length b1) : Int)))) * (8 : Nat)) (140737488355328 : Nat))) (m55_3 N N b1 a0 ((↑(List.length a0) : Int)) ((0 : Int)) (List.replicate (Int.toNat ((wr ((↑(List.length a0) : Int) + (↑(List.length b1) : Int))))) (0 : UInt64)))
def c52_18 (N : Nat) (A_1000 : (List UInt64) → Int → (List UInt64) → (List UInt64) → Option (List UInt64 × Int × Unit)) (A_18 : (List UInt64) → Int → UInt64 → Int → Int → (List UInt64) → (List UInt64) → Option (List UInt64 × Int × Unit)) (a0 : List UInt64) (i7 : Int) (borrow10 : UInt64) (t66 : Int) (t67 : Int) (m1o : List UInt64) (r6o : List UInt64) : Option (List UInt64 × Int × Unit) :=
  cond ((ltI t67 t66)) (must (leI (0 : Int) t67 && ltI t67 (↑(List.length r6o) : Int)) (Option.bind (q160 N m1o t67) fun r0 => Option.bind (kSub (List.getD r6o (Int.toNat t67) (0 : UInt64)) (Prod.fst r0) borrow10) fun r1 => must (leI (0 : Int) t67 && ltI t67 (↑(List.length r6o) : Int)) (A_18 a0 i7 (Prod.snd r1) t66 ((wr (t67 + (1 : Int)))) m1o (setL r6o (Int.toNat t67) (Prod.fst r1))))) (A_1000 a0 i7 m1o r6o)
theorem b52_18_t : b52_18 = c52_18 := by
  (repeat (apply funext; intro _))
  simp only [b52_18, c52_18, hide_eq, p160_t]
def m52_18 (N : Nat) (A_1000 : (List UInt64) → Int → (List UInt64) → (List UInt64) → Option (List UInt64 × Int × Unit)) (n : Nat) (a0 : List UInt64) (i7 : Int) (borrow10 : UInt64) (t66 : Int) (t67 : Int) (m1o : List UInt64) (r6o : List UInt64) : Option (List UInt64 × Int × Unit) :=
  loopN (fun A x => c52_18 N A_1000 (fun a0 i7 borrow10 t66 t67 m1o r6o => A ((a0, ((), ((), (i7, (borrow10, (t66, (t67, ()))))))), (m1o, (r6o, ())))) x.1.1 x.1.2.2.2.1 x.1.2.2.2.2.1 x.1.2.2.2.2.2.1 x.1.2.2.2.2.2.2.1 x.2.1 x.2.2.1) n ((a0, ((), ((), (i7, (borrow10, (t66, (t67, ()))))))), (m1o, (r6o, ())))
theorem l52_18_t : l52_18 = m52_18 := by
  (repeat (apply funext; intro _))
  simp only [l52_18, m52_18, b52_18_t]
theorem m52_18_succ (N : Nat) (A_1000 : (List UInt64) → Int → (List UInt64) → (List UInt64) → Option (List UInt64 × Int × Unit)) (n : Nat) (a0 : List UInt64) (i7 : Int) (borrow10 : UInt64) (t66 : Int) (t67 : Int) (m1o : List UInt64) (r6o : List UInt64) : m52_18 N A_1000 (n + 1) a0 i7 borrow10 t66 t67 m1o r6o = c52_18 N A_1000 (m52_18 N A_1000 n) a0 i7 borrow10 t66 t67 m1o r6o := rfl
def c52_11 (N : Nat) (A_1000 : (List UInt64) → Int → (List UInt64) → (List UInt64) → Option (List UInt64 × Int × Unit)) (A_11 : (List UInt64) → Int → UInt64 → Int → Int → (List UInt64) → (List UInt64) → Option (List UInt64 × Int × Unit)) (a0 : List UInt64) (i7 : Int) (carry8 : UInt64) (t41 : Int) (t42 : Int) (m1o : List UInt64) (r6o : List UInt64) : Option (List UInt64 × Int × Unit) :=
  cond ((ltI t42 t41)) (must (leI (0 : Int) t42 && ltI t42 (↑(List.length r6o) : Int)) (must (leI (0 : Int) t42 && ltI t42 (↑(List.length r6o) : Int)) (must (leI (0 : Int) t42 && ltI t42 (↑(List.length r6o) : Int)) (A_11 a0 i7 ((shr64 (List.getD r6o (Int.toNat t42) (0 : UInt64)) (UInt64.toNat (63 : UInt64)))) t41 ((wr (t42 + (1 : Int)))) m1o (setL r6o (Int.toNat t42) (((shl64 (List.getD r6o (Int.toNat t42) (0 : UInt64)) (UInt64.toNat (1 : UInt64))) ||| carry8))))))) (Option.bind (q61 N r6o m1o) fun r0 => cond ((leI (0 : Int) (Prod.fst r0))) (m52_18 N A_1000 N a0 i7 ((0 : UInt64)) ((↑(List.length r6o) : Int)) ((0 : Int)) m1o r6o) (A_1000 a0 i7 m1o r6o))
theorem b52_11_t : b52_11 = c52_11 := by
  (repeat (apply funext; intro _))
  simp only [b52_11, c52_11, hide_eq, l52_18_t, p61_t]
def m52_11 (N : Nat) (A_1000 : (List UInt64) → Int → (List UInt64) → (List UInt64) → Option (List UInt64 × Int × Unit)) (n : Nat) (a0 : List UInt64) (i7 : Int) (carry8 : UInt64) (t41 : Int) (t42 : Int) (m1o : List UInt64) (r6o : List UInt64) : Option (List UInt64 × Int × Unit) :=
  loopN (fun A x => c52_11 N A_1000 (fun a0 i7 carry8 t41 t42 m1o r6o => A ((a0, ((), ((), (i7, (carry8, (t41, (t42, ()))))))), (m1o, (r6o, ())))) x.1.1 x.1.2.2.2.1 x.1.2.2.2.2.1 x.1.2.2.2.2.2.1 x.1.2.2.2.2.2.2.1 x.2.1 x.2.2.1) n ((a0, ((), ((), (i7, (carry8, (t41, (t42, ()))))))), (m1o, (r6o, ())))
theorem l52_11_t : l52_11 = m52_11 := by
  (repeat (apply funext; intro _))
  simp only [l52_11, m52_11, b52_11_t]
theorem m52_11_succ (N : Nat) (A_1000 : (List UInt64) → Int → (List UInt64) → (List UInt64) → Option (List UInt64 × Int × Unit)) (n : Nat) (a0 : List UInt64) (i7 : Int) (carry8 : UInt64) (t41 : Int) (t42 : Int) (m1o : List UInt64) (r6o : List UInt64) : m52_11 N A_1000 (n + 1) a0 i7 carry8 t41 t42 m1o r6o = c52_11 N A_1000 (m52_11 N A_1000 n) a0 i7 carry8 t41 t42 m1o r6o := rfl
def c52_1000 (N : Nat) (A_1000 : (List UInt64) → Int → (List UInt64) → (List UInt64) → Option (List UInt64 × Int × Unit)) (a0 : List UInt64) (i7 : Int) (m1o : List UInt64) (r6o : List UInt64) : Option (List UInt64 × Int × Unit) :=
  cond ((ltI ((wr (i7 - (1 : Int)))) (0 : Int))) (Option.bind (q158 N r6o) fun r0 => some ((Prod.fst r0, (0 : Int), ()))) (must (leI (0 : Int) ((wr (Int.tdiv ((wr (i7 - (1 : Int)))) (64 : Int)))) && ltI ((wr (Int.tdiv ((wr (i7 - (1 : Int)))) (64 : Int)))) (↑(List.length a0) : Int)) (m52_11 N A_1000 N a0 ((wr (i7 - (1 : Int)))) (((shr64 (List.getD a0 (Int.toNat ((wr (Int.tdiv ((wr (i7 - (1 : Int)))) (64 : Int))))) (0 : UInt64)) (UInt64.toNat ((u64I ((Int.tmod ((wr (i7 - (1 : Int)))) (64 : Int))))))) &&& (1 : UInt64))) ((↑(List.length r6o) : Int)) ((0 : Int)) m1o r6o))
theorem b52_1000_t : b52_1000 = c52_1000 := by
  (repeat (apply funext; intro _))
  simp only [b52_1000, c52_1000, hide_eq, l52_11_t, p158_t]
def m52_1000 (N : Nat) (n : Nat) (a0 : List UInt64) (i7 : Int) (m1o : List UInt64) (r6o : List UInt64) : Option (List UInt64 × Int × Unit) :=
  loopN (fun A x => c52_1000 N (fun a0 i7 m1o r6o => A ((a0, ((), ((), (i7, ())))), (m1o, (r6o, ())))) x.1.1 x.1.2.2.2.1 x.2.1 x.2.2.1) n ((a0, ((), ((), (i7, ())))), (m1o, (r6o, ())))
theorem l52_1000_t : l52_1000 = m52_1000 := by
  (repeat (apply funext; intro _))
  simp only [l52_1000, m52_1000, b52_1000_t]
theorem m52_1000_succ (N : Nat) (n : Nat) (a0 : List UInt64) (i7 : Int) (m1o : List UInt64) (r6o : List UInt64) : m52_1000 N (n + 1) a0 i7 m1o r6o = c52_1000 N (m52_1000 N n) a0 i7 m1o r6o := rfl
def q52 (N : Nat) (a0 : List UInt64) (m1 : List UInt64) : Option (List UInt64 × Int × Unit) :=
  Option.bind (q158 N m1) fun r0 => cond ((eqI (↑(List.length (Prod.fst r0)) : Int) (0 : Int))) (some (([], (7 : Int), ()))) (must (leI (0 : Int) ((wr ((↑(List.length (Prod.fst r0)) : Int) + (1 : Int)))) && (eqI ((wr ((↑(List.length (Prod.fst r0)) : Int) + (1 : Int)))) ((wr ((↑(List.length (Prod.fst r0)) : Int) + (1 : Int)))) && leN (Int.toNat ((wr ((↑(List.length (Prod.fst r0)) : Int) + (1 : Int)))) * (8 : Nat)) (140737488355328 : Nat))) (m52_1000 N N a0 ((wr ((64 : Int) * (↑(List.length a0) : Int)))) (Prod.fst r0) (List.replicate (Int.toNat ((wr ((↑(List.length (Prod.fst r0)) : Int) + (1 : Int))))) (0 : UInt64))))
theorem p52_t : p52 = q52 := by
  (repeat (apply funext; intro _))
  simp only [p52, q52, hide_eq, l52_1000_t, p158_t]
def c57_9 (N : Nat) (A_6 : Int → Int → Int → (List UInt8) → (List UInt64) → Option (List UInt8 × Int × Unit)) (A_9 : Int → Int → UInt64 → Int → Int → Int → (List UInt8) → (List UInt64) → Option (List UInt8 × Int × Unit)) (n1 : Int) (i7 : Int) (x8 : UInt64) (t23 : Int) (t24 : Int) (t29 : Int) (out6o : List UInt8) (t22o : List UInt64) : Option (List UInt8 × Int × Unit) :=
  cond ((ltI t29 (8 : Int))) (cond ((ltI ((wr ((wr ((wr (n1 - (1 : Int))) - (wr ((8 : Int) * i7)))) - t29))) (0 : Int))) (cond (!(UInt8.ofNat (UInt64.toNat ((shr64 x8 (UInt64.toNat ((u64I ((wr ((8 : Int) * t29)))))))))) == (0 : UInt8)) (some (([], (8 : Int), ()))) (cond ((leI (0 : Int) ((wr ((wr ((wr (n1 - (1 : Int))) - (wr ((8 : Int) * i7)))) - t29))))) (must (leI (0 : Int) ((wr ((wr ((wr (n1 - (1 : Int))) - (wr ((8 : Int) * i7)))) - t29))) && ltI ((wr ((wr ((wr (n1 - (1 : Int))) - (wr ((8 : Int) * i7)))) - t29))) (↑(List.length out6o) : Int)) (A_9 n1 i7 x8 t23 t24 ((wr (t29 + (1 : Int)))) (setL out6o (Int.toNat ((wr ((wr ((wr (n1 - (1 : Int))) - (wr ((8 : Int) * i7)))) - t29)))) ((UInt8.ofNat (UInt64.toNat ((shr64 x8 (UInt64.toNat ((u64I ((wr ((8 : Int) * t29)))))))))))) t22o)) (A_9 n1 i7 x8 t23 t24 ((wr (t29 + (1 : Int)))) out6o t22o))) (cond ((leI (0 : Int) ((wr ((wr ((wr (n1 - (1 : Int))) - (wr ((8 : Int) * i7)))) - t29))))) (must (leI (0 : Int) ((wr ((wr ((wr (n1 - (1 : Int))) - (wr ((8 : Int) * i7)))) - t29))) && ltI ((wr ((wr ((wr (n1 - (1 : Int))) - (wr ((8 : Int) * i7)))) - t29))) (↑(List.length out6o) : Int)) (A_9 n1 i7 x8 t23 t24 ((wr (t29 + (1 : Int)))) (setL out6o (Int.toNat ((wr ((wr ((wr (n1 - (1 : Int))) - (wr ((8 : Int) * i7)))) - t29)))) ((UInt8.ofNat (UInt64.toNat ((shr64 x8 (UInt64.toNat ((u64I ((wr ((8 : Int) * t29)))))))))))) t22o)) (A_9 n1 i7 x8 t23 t24 ((wr (t29 + (1 : Int)))) out6o t22o))) (A_6 n1 t23 ((wr (t24 + (1 : Int)))) out6o t22o)
def m57_9 (N : Nat) (A_6 : Int → Int → Int → (List UInt8) → (List UInt64) → Option (List UInt8 × Int × Unit)) (n : Nat) (n1 : Int) (i7 : Int) (x8 : UInt64) (t23 : Int) (t24 : Int) (t29 : Int) (out6o : List UInt8) (t22o : List UInt64) : Option (List UInt8 × Int × Unit) :=
  loopN (fun A x => c57_9 N A_6 (fun n1 i7 x8 t23 t24 t29 out6o t22o => A ((n1, ((), (i7, (x8, ((), (t23, (t24, (t29, ())))))))), (out6o, (t22o, ())))) x.1.1 x.1.2.2.1 x.1.2.2.2.1 x.1.2.2.2.2.2.1 x.1.2.2.2.2.2.2.1 x.1.2.2.2.2.2.2.2.1 x.2.1 x.2.2.1) n ((n1, ((), (i7, (x8, ((), (t23, (t24, (t29, ())))))))), (out6o, (t22o, ())))
def c57_6 (N : Nat) (A_6 : Int → Int → Int → (List UInt8) → (List UInt64) → Option (List UInt8 × Int × Unit)) (n1 : Int) (t23 : Int) (t24 : Int) (out6o : List UInt8) (t22o : List UInt64) : Option (List UInt8 × Int × Unit) :=
  cond ((ltI t24 t23)) (must (leI (0 : Int) t24 && ltI t24 (↑(List.length t22o) : Int)) (m57_9 N A_6 N n1 t24 (List.getD t22o (Int.toNat t24) (0 : UInt64)) t23 t24 ((0 : Int)) out6o t22o)) (some ((out6o, (0 : Int), ())))
def m57_6 (N : Nat) (n : Nat) (n1 : Int) (t23 : Int) (t24 : Int) (out6o : List UInt8) (t22o : List UInt64) : Option (List UInt8 × Int × Unit) :=
  loopN (fun A x => c57_6 N (fun n1 t23 t24 out6o t22o => A ((n1, ((), ((), (t23, (t24, ()))))), (out6o, (t22o, ())))) x.1.1 x.1.2.2.2.1 x.1.2.2.2.2.1 x.2.1 x.2.2.1) n ((n1, ((), ((), (t23, (t24, ()))))), (out6o, (t22o, ())))
def q57 (N : Nat) (a0 : List UInt64) (n1 : Int) : Option (List UInt8 × Int × Unit) :=
  Option.bind (q158 N a0) fun r0 => cond ((ltI n1 (0 : Int))) (some (([], (8 : Int), ()))) (cond ((ltI (192 : Int) n1)) (some (([], (8 : Int), ()))) (must (leI (0 : Int) n1 && (eqI n1 n1 && leN (Int.toNat n1 * (1 : Nat)) (140737488355328 : Nat))) (m57_6 N N n1 ((↑(List.length (Prod.fst r0)) : Int)) ((0 : Int)) (List.replicate (Int.toNat n1) (0 : UInt8)) (Prod.fst r0))))
def c59_3 (N : Nat) (A_3 : (List UInt8) → (List UInt8) → Int → Int → (List UInt64) → Option (List UInt64 × Unit)) (b0 : List UInt8) (t12 : List UInt8) (t13 : Int) (t14 : Int) (out3o : List UInt64) : Option (List UInt64 × Unit) :=
  cond ((ltI t14 t13)) (must (leI (0 : Int) t14 && ltI t14 (↑(List.length t12) : Int)) (must (leI (0 : Int) ((wr (Int.tdiv ((wr ((wr ((↑(List.length b0) : Int) - (1 : Int))) - t14))) (8 : Int)))) && ltI ((wr (Int.tdiv ((wr ((wr ((↑(List.length b0) : Int) - (1 : Int))) - t14))) (8 : Int)))) (↑(List.length out3o) : Int)) (must (leI (0 : Int) ((wr (Int.tdiv ((wr ((wr ((↑(List.length b0) : Int) - (1 : Int))) - t14))) (8 : Int)))) && ltI ((wr (Int.tdiv ((wr ((wr ((↑(List.length b0) : Int) - (1 : Int))) - t14))) (8 : Int)))) (↑(List.length out3o) : Int)) (A_3 b0 t12 t13 ((wr (t14 + (1 : Int)))) (setL out3o (Int.toNat ((wr (Int.tdiv ((wr ((wr ((↑(List.length b0) : Int) - (1 : Int))) - t14))) (8 : Int))))) ((List.getD out3o (Int.toNat ((wr (Int.tdiv ((wr ((wr ((↑(List.length b0) : Int) - (1 : Int))) - t14))) (8 : Int))))) (0 : UInt64) ||| (shl64 ((UInt64.ofNat (UInt8.toNat (List.getD t12 (Int.toNat t14) (0 : UInt8))))) (UInt64.toNat ((u64I ((wr ((8 : Int) * (Int.tmod ((wr ((wr ((↑(List.length b0) : Int) - (1 : Int))) - t14))) (8 : Int)))))))))))))))) (Option.bind (q158 N out3o) fun r0 => some ((Prod.fst r0, ())))
theorem b59_3_t : b59_3 = c59_3 := by
  (repeat (apply funext; intro _))
  simp only [b59_3, c59_3, hide_eq, p158_t]
def m59_3 (N : Nat) (n : Nat) (b0 : List UInt8) (t12 : List UInt8) (t13 : Int) (t14 : Int) (out3o : List UInt64) : Option (List UInt64 × Unit) :=
  loopN (fun A x => c59_3 N (fun b0 t12 t13 t14 out3o => A ((b0, ((), (t12, (t13, (t14, ()))))), (out3o, ()))) x.1.1 x.1.2.2.1 x.1.2.2.2.1 x.1.2.2.2.2.1 x.2.1) n ((b0, ((), (t12, (t13, (t14, ()))))), (out3o, ()))
theorem l59_3_t : l59_3 = m59_3 := by
  (repeat (apply funext; intro _))
  simp only [l59_3, m59_3, b59_3_t]
theorem m59_3_succ (N : Nat) (n : Nat) (b0 : List UInt8) (t12 : List UInt8) (t13 : Int) (t14 : Int) (out3o : List UInt64) : m59_3 N (n + 1) b0 t12 t13 t14 out3o = c59_3 N (m59_3 N n) b0 t12 t13 t14 out3o := rfl
def q59 (N : Nat) (b0 : List UInt8) : Option (List UInt64 × Unit) :=
  must (leI (0 : Int) ((wr ((wr (Int.tdiv (↑(List.length b0) : Int) (8 : Int))) + (1 : Int)))) && (eqI ((wr ((wr (Int.tdiv (↑(List.length b0) : Int) (8 : Int))) + (1 : Int)))) ((wr ((wr (Int.tdiv (↑(List.length b0) : Int) (8 : Int))) + (1 : Int)))) && leN (Int.toNat ((wr ((wr (Int.tdiv (↑(List.length b0) : Int) (8 : Int))) + (1 : Int)))) * (8 : Nat)) (140737488355328 : Nat))) (m59_3 N N b0 b0 ((↑(List.length b0) : Int)) ((0 : Int)) (List.replicate (Int.toNat ((wr ((wr (Int.tdiv (↑(List.length b0) : Int) (8 : Int))) + (1 : Int))))) (0 : UInt64)))
theorem p59_t : p59 = q59 := by
  (repeat (apply funext; intro _))
  simp only [p59, q59, hide_eq, l59_3_t]
def c161_2 (N : Nat) (A_2 : (List UInt64) → Int → Option (List UInt64 × Unit)) (a0 : List UInt64) (n3 : Int) : Option (List UInt64 × Unit) :=
  cond ((ltI (0 : Int) n3)) (must (leI (0 : Int) ((wr (n3 - (1 : Int)))) && ltI ((wr (n3 - (1 : Int)))) (↑(List.length a0) : Int)) (cond ((List.getD a0 (Int.toNat ((wr (n3 - (1 : Int))))) (0 : UInt64) == (0 : UInt64))) (A_2 a0 ((wr (n3 - (1 : Int))))) (must (leI (0 : Int) n3 && leI n3 (↑(List.length a0) : Int)) (must (leN (((0 : Nat) + List.length (List.take (Int.toNat (n3 - (0 : Int))) a0)) * (8 : Nat)) (140737488355328 : Nat)) (some ((List.take (Int.toNat (n3 - (0 : Int))) a0, ()))))))) (must (leI (0 : Int) n3 && leI n3 (↑(List.length a0) : Int)) (must (leN (((0 : Nat) + List.length (List.take (Int.toNat (n3 - (0 : Int))) a0)) * (8 : Nat)) (140737488355328 : Nat)) (some ((List.take (Int.toNat (n3 - (0 : Int))) a0, ())))))
def m161_2 (N : Nat) (n : Nat) (a0 : List UInt64) (n3 : Int) : Option (List UInt64 × Unit) :=
  loopN (fun A x => c161_2 N (fun a0 n3 => A ((a0, (n3, ())), ())) x.1.1 x.1.2.1) n ((a0, (n3, ())), ())
def q161 (N : Nat) (a0 : List UInt64) : Option (List UInt64 × Unit) :=
  m161_2 N N a0 ((↑(List.length a0) : Int))
def q162 (N : Nat) (a0 : List UInt64) (i1 : Int) : Option (UInt64 × Unit) :=
  cond ((leI (↑(List.length a0) : Int) ((wr (Int.tdiv i1 (64 : Int)))))) (some (((0 : UInt64), ()))) (must (leI (0 : Int) ((wr (Int.tdiv i1 (64 : Int)))) && ltI ((wr (Int.tdiv i1 (64 : Int)))) (↑(List.length a0) : Int)) (must (leI (0 : Int) ((Int.tmod i1 (64 : Int)))) (must (ltI ((Int.tmod i1 (64 : Int))) (18446744073709551616 : Int)) (some ((((shr64 (List.getD a0 (Int.toNat ((wr (Int.tdiv i1 (64 : Int))))) (0 : UInt64)) (UInt64.toNat (UInt64.ofNat (Int.toNat ((Int.tmod i1 (64 : Int))))))) &&& (1 : UInt64)), ()))))))
def q165 (N : Nat) (a0 : List UInt64) (i1 : Int) : Option (UInt64 × Unit) :=
  cond ((ltI i1 (↑(List.length a0) : Int))) (must (leI (0 : Int) i1 && ltI i1 (↑(List.length a0) : Int)) (some ((List.getD a0 (Int.toNat i1) (0 : UInt64), ())))) (some (((0 : UInt64), ())))
def c65_7 (N : Nat) (A_7 : Int → (List UInt64) → (List UInt64) → Option (Int × Unit)) (i5 : Int) (a0o : List UInt64) (b1o : List UInt64) : Option (Int × Unit) :=
  cond ((leI (0 : Int) i5)) (must (leI (0 : Int) i5 && ltI i5 (↑(List.length a0o) : Int)) (must (leI (0 : Int) i5 && ltI i5 (↑(List.length b1o) : Int)) (cond ((ltN (UInt64.toNat (List.getD a0o (Int.toNat i5) (0 : UInt64))) (UInt64.toNat (List.getD b1o (Int.toNat i5) (0 : UInt64))))) (some (((-1 : Int), ()))) (must (leI (0 : Int) i5 && ltI i5 (↑(List.length a0o) : Int)) (must (leI (0 : Int) i5 && ltI i5 (↑(List.length b1o) : Int)) (cond ((ltN (UInt64.toNat (List.getD b1o (Int.toNat i5) (0 : UInt64))) (UInt64.toNat (List.getD a0o (Int.toNat i5) (0 : UInt64))))) (some (((1 : Int), ()))) (A_7 ((wr (i5 - (1 : Int)))) a0o b1o))))))) (some (((0 : Int), ())))
def m65_7 (N : Nat) (n : Nat) (i5 : Int) (a0o : List UInt64) (b1o : List UInt64) : Option (Int × Unit) :=
  loopN (fun A x => c65_7 N (fun i5 a0o b1o => A (((), ((), (i5, ()))), (a0o, (b1o, ())))) x.1.2.2.1 x.2.1 x.2.2.1) n (((), ((), (i5, ()))), (a0o, (b1o, ())))
def q65 (N : Nat) (a0 : List UInt64) (b1 : List UInt64) : Option (Int × Unit) :=
  Option.bind (q161 N a0) fun r0 => Option.bind (q161 N b1) fun r1 => cond (!eqI (↑(List.length (Prod.fst r0)) : Int) (↑(List.length (Prod.fst r1)) : Int)) (cond ((ltI (↑(List.length (Prod.fst r0)) : Int) (↑(List.length (Prod.fst r1)) : Int))) (some (((-1 : Int), ()))) (some (((1 : Int), ())))) (m65_7 N N ((wr ((↑(List.length (Prod.fst r0)) : Int) - (1 : Int)))) (Prod.fst r0) (Prod.fst r1))
def c66_4 (N : Nat) (A_4 : (List UInt64) → (List UInt64) → UInt64 → Int → (List UInt64) → Option (List UInt64 × Unit)) (a0 : List UInt64) (b1 : List UInt64) (c6 : UInt64) (i7 : Int) (out5o : List UInt64) : Option (List UInt64 × Unit) :=
  cond ((ltI i7 (mxI (↑(List.length a0) : Int) (↑(List.length b1) : Int)))) (Option.bind (q165 N a0 i7) fun r1 => Option.bind (q165 N b1 i7) fun r2 => Option.bind (kAdd (Prod.fst r1) (Prod.fst r2) c6) fun r3 => must (leN ((List.length out5o + List.length [Prod.fst r3]) * (8 : Nat)) (140737488355328 : Nat)) (A_4 a0 b1 (Prod.snd r3) ((wr (i7 + (1 : Int)))) (out5o ++ [Prod.fst r3]))) (must (leN ((List.length out5o + List.length [c6]) * (8 : Nat)) (140737488355328 : Nat)) (Option.bind (q161 N (out5o ++ [c6])) fun r0 => some ((Prod.fst r0, ()))))
def m66_4 (N : Nat) (n : Nat) (a0 : List UInt64) (b1 : List UInt64) (c6 : UInt64) (i7 : Int) (out5o : List UInt64) : Option (List UInt64 × Unit) :=
  loopN (fun A x => c66_4 N (fun a0 b1 c6 i7 out5o => A ((a0, (b1, ((), (c6, (i7, ()))))), (out5o, ()))) x.1.1 x.1.2.1 x.1.2.2.2.1 x.1.2.2.2.2.1 x.2.1) n ((a0, (b1, ((), (c6, (i7, ()))))), (out5o, ()))
def q66 (N : Nat) (a0 : List UInt64) (b1 : List UInt64) : Option (List UInt64 × Unit) :=
  m66_4 N N a0 b1 ((0 : UInt64)) ((0 : Int)) []
def c64_6 (N : Nat) (A_6 : (List UInt64) → (List UInt64) → UInt64 → Int → (List UInt64) → Option (List UInt64 × Int × Unit)) (a0 : List UInt64) (b1 : List UInt64) (c7 : UInt64) (i8 : Int) (out6o : List UInt64) : Option (List UInt64 × Int × Unit) :=
  cond ((ltI i8 (mxI (↑(List.length a0) : Int) (↑(List.length b1) : Int)))) (Option.bind (q165 N a0 i8) fun r1 => Option.bind (q165 N b1 i8) fun r2 => Option.bind (kSub (Prod.fst r1) (Prod.fst r2) c7) fun r3 => must (leN ((List.length out6o + List.length [Prod.fst r3]) * (8 : Nat)) (140737488355328 : Nat)) (A_6 a0 b1 (Prod.snd r3) ((wr (i8 + (1 : Int)))) (out6o ++ [Prod.fst r3]))) (Option.bind (q161 N out6o) fun r0 => some ((Prod.fst r0, (0 : Int), ())))
def m64_6 (N : Nat) (n : Nat) (a0 : List UInt64) (b1 : List UInt64) (c7 : UInt64) (i8 : Int) (out6o : List UInt64) : Option (List UInt64 × Int × Unit) :=
  loopN (fun A x => c64_6 N (fun a0 b1 c7 i8 out6o => A ((a0, (b1, ((), (c7, (i8, ()))))), (out6o, ()))) x.1.1 x.1.2.1 x.1.2.2.2.1 x.1.2.2.2.2.1 x.2.1) n ((a0, (b1, ((), (c7, (i8, ()))))), (out6o, ()))
def q64 (N : Nat) (a0 : List UInt64) (b1 : List UInt64) : Option (List UInt64 × Int × Unit) :=
  Option.bind (q65 N a0 b1) fun r0 => cond ((ltI (Prod.fst r0) (0 : Int))) (some (([], (1 : Int), ()))) (m64_6 N N a0 b1 ((0 : UInt64)) ((0 : Int)) [])
def c53_6 (N : Nat) (A_6 : (List UInt64) → Int → (List UInt64) → (List UInt64) → Option (List UInt64 × Int × Unit)) (a0 : List UInt64) (i7 : Int) (m1o : List UInt64) (r6o : List UInt64) : Option (List UInt64 × Int × Unit) :=
  cond ((leI (0 : Int) i7)) (Option.bind (q66 N r6o r6o) fun r1 => Option.bind (q162 N a0 i7) fun r2 => cond ((Prod.fst r2 == (1 : UInt64))) (Option.bind (q66 N (Prod.fst r1) ([(1 : UInt64)])) fun r5 => Option.bind (q65 N (Prod.fst r5) m1o) fun r6 => cond ((leI (0 : Int) (Prod.fst r6))) (Option.bind (q64 N (Prod.fst r5) m1o) fun r7 => A_6 a0 ((wr (i7 - (1 : Int)))) m1o (Prod.fst r7)) (A_6 a0 ((wr (i7 - (1 : Int)))) m1o (Prod.fst r5))) (Option.bind (q65 N (Prod.fst r1) m1o) fun r3 => cond ((leI (0 : Int) (Prod.fst r3))) (Option.bind (q64 N (Prod.fst r1) m1o) fun r4 => A_6 a0 ((wr (i7 - (1 : Int)))) m1o (Prod.fst r4)) (A_6 a0 ((wr (i7 - (1 : Int)))) m1o (Prod.fst r1)))) (Option.bind (q161 N r6o) fun r0 => some ((Prod.fst r0, (0 : Int), ())))
def m53_6 (N : Nat) (n : Nat) (a0 : List UInt64) (i7 : Int) (m1o : List UInt64) (r6o : List UInt64) : Option (List UInt64 × Int × Unit) :=
  loopN (fun A x => c53_6 N (fun a0 i7 m1o r6o => A ((a0, ((), ((), (i7, ())))), (m1o, (r6o, ())))) x.1.1 x.1.2.2.2.1 x.2.1 x.2.2.1) n ((a0, ((), ((), (i7, ())))), (m1o, (r6o, ())))
def q53 (N : Nat) (a0 : List UInt64) (m1 : List UInt64) : Option (List UInt64 × Int × Unit) :=
  Option.bind (q161 N m1) fun r0 => cond ((eqI (↑(List.length (Prod.fst r0)) : Int) (0 : Int))) (some (([], (7 : Int), ()))) (m53_6 N N a0 ((wr ((wr ((64 : Int) * (↑(List.length a0) : Int))) - (1 : Int)))) (Prod.fst r0) [])
def c54_4 (N : Nat) (A_4 : (List UInt64) → (List UInt64) → Int → Option (Bool × Unit)) (a0 : List UInt64) (b1 : List UInt64) (i5 : Int) : Option (Bool × Unit) :=
  cond ((ltI i5 (↑(List.length a0) : Int))) (must (leI (0 : Int) i5 && ltI i5 (↑(List.length a0) : Int)) (must (leI (0 : Int) i5 && ltI i5 (↑(List.length b1) : Int)) (cond (!List.getD a0 (Int.toNat i5) (0 : UInt64) == List.getD b1 (Int.toNat i5) (0 : UInt64)) (some ((false, ()))) (A_4 a0 b1 ((wr (i5 + (1 : Int)))))))) (some ((true, ())))
def m54_4 (N : Nat) (n : Nat) (a0 : List UInt64) (b1 : List UInt64) (i5 : Int) : Option (Bool × Unit) :=
  loopN (fun A x => c54_4 N (fun a0 b1 i5 => A ((a0, (b1, (i5, ()))), ())) x.1.1 x.1.2.1 x.1.2.2.1) n ((a0, (b1, (i5, ()))), ())
def q54 (N : Nat) (a0 : List UInt64) (b1 : List UInt64) : Option (Bool × Unit) :=
  cond (!eqI (↑(List.length a0) : Int) (↑(List.length b1) : Int)) (some ((false, ()))) (m54_4 N N a0 b1 ((0 : Int)))
def q51 (N : Nat) : Option (Bool × Unit) :=
  Option.bind (q52 N ([(7 : UInt64)]) ([(4 : UInt64)])) fun r0 => Option.bind (q57 N ([(258 : UInt64)]) ((2 : Int))) fun r1 => cond ((eqI (Prod.fst (Prod.snd r0)) (0 : Int))) (cond ((eqI (↑(List.length (Prod.fst r0)) : Int) (1 : Int))) (must (ltI (0 : Int) (↑(List.length (Prod.fst r0)) : Int)) (cond ((List.getD (Prod.fst r0) (0 : Nat) (0 : UInt64) == (3 : UInt64))) (cond ((eqI (Prod.fst (Prod.snd r1)) (0 : Int))) (cond ((eqB (Prod.fst r1) [(1 : UInt8), (2 : UInt8)])) (Option.bind (q62 N ([(1 : UInt64)]) []) fun r2 => cond ((eqI (↑(List.length (Prod.fst r2)) : Int) (1 : Int))) (Option.bind (q55 N ([(9223372036854775808 : UInt64)]) ([(2 : UInt64)])) fun r3 => cond ((eqI (↑(List.length (Prod.fst r3)) : Int) (2 : Int))) (Option.bind (q61 N ([(1 : UInt64)]) []) fun r4 => some (((eqI (Prod.fst r4) (1 : Int)), ()))) (some ((false, ())))) (some ((false, ())))) (some ((false, ())))) (some ((false, ())))) (some ((false, ()))))) (some ((false, ())))) (some ((false, ())))
end Go.Proofs.Ytgimohchocjgcaa.V
