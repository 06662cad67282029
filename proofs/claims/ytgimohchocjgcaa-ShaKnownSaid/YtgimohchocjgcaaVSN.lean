import Derived.Test.YtgimohchocjgcaaVSM
import Derived.Test.YtgimohchocjgcaaVUL
import Derived.KernelRfl
set_option linter.unusedVariables false
set_option linter.unusedSimpArgs false
namespace Go.Proofs.Ytgimohchocjgcaa.V
def q211 (N : Nat) (x0 : UInt32) (k1 : Int) : Option (UInt32 × Unit) :=
  some ((((shl32 x0 (UInt64.toNat (((u64I k1) &&& (31 : UInt64))))) ||| (shr32 x0 (UInt64.toNat (((32 : UInt64) - ((u64I k1) &&& (31 : UInt64))))))), ()))
theorem p211_t : p211 = q211 := by
  (repeat (apply funext; intro _))
  simp only [p211, q211, hide_eq]
def q155 (N : Nat) (x0 : UInt32) (a1 : Int) (b2 : Int) (c3 : Int) : Option (UInt32 × Unit) :=
  Option.bind (q211 N x0 ((wr ((0 : Int) - a1)))) fun r0 => Option.bind (q211 N x0 ((wr ((0 : Int) - b2)))) fun r1 => Option.bind (q211 N x0 ((wr ((0 : Int) - c3)))) fun r2 => some ((((Prod.fst r0 ^^^ Prod.fst r1) ^^^ Prod.fst r2), ()))
theorem p155_t : p155 = q155 := by
  (repeat (apply funext; intro _))
  simp only [p155, q155, hide_eq, p211_t]
def q210 (N : Nat) (x0 : UInt32) (a1 : Int) (b2 : Int) (c3 : Int) : Option (UInt32 × Unit) :=
  Option.bind (q211 N x0 ((wr ((0 : Int) - a1)))) fun r0 => Option.bind (q211 N x0 ((wr ((0 : Int) - b2)))) fun r1 => some ((((Prod.fst r0 ^^^ Prod.fst r1) ^^^ (shr32 x0 (UInt64.toNat ((u64I c3))))), ()))
theorem p210_t : p210 = q210 := by
  (repeat (apply funext; intro _))
  simp only [p210, q210, hide_eq, p211_t]
def q149 (N : Nat) : Option (List UInt32 × Unit) :=
  some (([(1779033703 : UInt32), (3144134277 : UInt32), (1013904242 : UInt32), (2773480762 : UInt32), (1359893119 : UInt32), (2600822924 : UInt32), (528734635 : UInt32), (1541459225 : UInt32)], ()))
theorem p149_t : p149 = q149 := by
  (repeat (apply funext; intro _))
  simp only [p149, q149, ]
def c150_6 (N : Nat) (A_6 : UInt64 → Int → (List UInt8) → Option (List UInt8 × Unit)) (n4 : UInt64) (shift5 : Int) (out3o : List UInt8) : Option (List UInt8 × Unit) :=
  cond ((leI (0 : Int) shift5)) (must (leN ((List.length out3o + List.length [(UInt8.ofNat (UInt64.toNat ((shr64 n4 (UInt64.toNat ((u64I shift5)))))))]) * (1 : Nat)) (140737488355328 : Nat)) (A_6 n4 ((wr (shift5 - (8 : Int)))) (out3o ++ [(UInt8.ofNat (UInt64.toNat ((shr64 n4 (UInt64.toNat ((u64I shift5)))))))]))) (some ((out3o, ())))
theorem b150_6_t : b150_6 = c150_6 := by
  (repeat (apply funext; intro _))
  simp only [b150_6, c150_6, hide_eq]
def m150_6 (N : Nat) (n : Nat) (n4 : UInt64) (shift5 : Int) (out3o : List UInt8) : Option (List UInt8 × Unit) :=
  loopN (fun A x => c150_6 N (fun n4 shift5 out3o => A (((), (n4, (shift5, ()))), (out3o, ()))) x.1.2.1 x.1.2.2.1 x.2.1) n (((), (n4, (shift5, ()))), (out3o, ()))
theorem l150_6_t : l150_6 = m150_6 := by
  (repeat (apply funext; intro _))
  simp only [l150_6, m150_6, b150_6_t]
def c150_2 (N : Nat) (A_2 : (List UInt8) → (List UInt8) → Option (List UInt8 × Unit)) (b0 : List UInt8) (out3o : List UInt8) : Option (List UInt8 × Unit) :=
  cond (!eqI ((Int.tmod (↑(List.length out3o) : Int) (64 : Int))) (56 : Int)) (must (leN ((List.length out3o + List.length [(0 : UInt8)]) * (1 : Nat)) (140737488355328 : Nat)) (A_2 b0 (out3o ++ [(0 : UInt8)]))) (m150_6 N N (((u64I (↑(List.length b0) : Int)) * (8 : UInt64))) ((56 : Int)) out3o)
theorem b150_2_t : b150_2 = c150_2 := by
  (repeat (apply funext; intro _))
  simp only [b150_2, c150_2, hide_eq, l150_6_t]
def m150_2 (N : Nat) (n : Nat) (b0 : List UInt8) (out3o : List UInt8) : Option (List UInt8 × Unit) :=
  loopN (fun A x => c150_2 N (fun b0 out3o => A ((b0, ((), ())), (out3o, ()))) x.1.1 x.2.1) n ((b0, ((), ())), (out3o, ()))
theorem l150_2_t : l150_2 = m150_2 := by
  (repeat (apply funext; intro _))
  simp only [l150_2, m150_2, b150_2_t]
def q150 (N : Nat) (b0 : List UInt8) : Option (List UInt8 × Unit) :=
  must (leN (((0 : Nat) + List.length b0) * (1 : Nat)) (140737488355328 : Nat)) (must (leN ((List.length b0 + List.length [(128 : UInt8)]) * (1 : Nat)) (140737488355328 : Nat)) (m150_2 N N b0 (b0 ++ [(128 : UInt8)])))
theorem p150_t : p150 = q150 := by
  (repeat (apply funext; intro _))
  simp only [p150, q150, l150_2_t]
def q154 (N : Nat) : Option (List UInt32 × Unit) :=
  some (([(1116352408 : UInt32), (1899447441 : UInt32), (3049323471 : UInt32), (3921009573 : UInt32), (961987163 : UInt32), (1508970993 : UInt32), (2453635748 : UInt32), (2870763221 : UInt32), (3624381080 : UInt32), (310598401 : UInt32), (607225278 : UInt32), (1426881987 : UInt32), (1925078388 : UInt32), (2162078206 : UInt32), (2614888103 : UInt32), (3248222580 : UInt32), (3835390401 : UInt32), (4022224774 : UInt32), (264347078 : UInt32), (604807628 : UInt32), (770255983 : UInt32), (1249150122 : UInt32), (1555081692 : UInt32), (1996064986 : UInt32), (2554220882 : UInt32), (2821834349 : UInt32), (2952996808 : UInt32), (3210313671 : UInt32), (3336571891 : UInt32), (3584528711 : UInt32), (113926993 : UInt32), (338241895 : UInt32), (666307205 : UInt32), (773529912 : UInt32), (1294757372 : UInt32), (1396182291 : UInt32), (1695183700 : UInt32), (1986661051 : UInt32), (2177026350 : UInt32), (2456956037 : UInt32), (2730485921 : UInt32), (2820302411 : UInt32), (3259730800 : UInt32), (3345764771 : UInt32), (3516065817 : UInt32), (3600352804 : UInt32), (4094571909 : UInt32), (275423344 : UInt32), (430227734 : UInt32), (506948616 : UInt32), (659060556 : UInt32), (883997877 : UInt32), (958139571 : UInt32), (1322822218 : UInt32), (1537002063 : UInt32), (1747873779 : UInt32), (1955562222 : UInt32), (2024104815 : UInt32), (2227730452 : UInt32), (2361852424 : UInt32), (2428436474 : UInt32), (2756734187 : UInt32), (3204031479 : UInt32), (3329325298 : UInt32)], ()))
theorem p154_t : p154 = q154 := by
  (repeat (apply funext; intro _))
  simp only [p154, q154, ]
def c153_12 (N : Nat) (A_12 : Int → (List UInt32) → (List UInt32) → Option (List UInt32 × Unit)) (i7 : Int) (ob0 : List UInt32) (ob1 : List UInt32) : Option (List UInt32 × Unit) :=
  cond ((ltI i7 (64 : Int))) (must (leI (0 : Int) ((wr (i7 - (16 : Int)))) && ltI ((wr (i7 - (16 : Int)))) (↑(64 : Nat) : Int)) (must (leI (0 : Int) ((wr (i7 - (15 : Int)))) && ltI ((wr (i7 - (15 : Int)))) (↑(64 : Nat) : Int)) (Option.bind (q210 N (List.getD ob1 (Int.toNat ((wr (i7 - (15 : Int))))) (0 : UInt32)) ((7 : Int)) ((18 : Int)) ((3 : Int))) fun r0 => must (leI (0 : Int) ((wr (i7 - (7 : Int)))) && ltI ((wr (i7 - (7 : Int)))) (↑(64 : Nat) : Int)) (must (leI (0 : Int) ((wr (i7 - (2 : Int)))) && ltI ((wr (i7 - (2 : Int)))) (↑(64 : Nat) : Int)) (Option.bind (q210 N (List.getD ob1 (Int.toNat ((wr (i7 - (2 : Int))))) (0 : UInt32)) ((17 : Int)) ((19 : Int)) ((10 : Int))) fun r1 => must (leI (0 : Int) i7 && ltI i7 (↑(64 : Nat) : Int)) (A_12 ((wr (i7 + (1 : Int)))) ob0 (setL ob1 (Int.toNat i7) ((((List.getD ob1 (Int.toNat ((wr (i7 - (16 : Int))))) (0 : UInt32) + Prod.fst r0) + List.getD ob1 (Int.toNat ((wr (i7 - (7 : Int))))) (0 : UInt32)) + Prod.fst r1))))))))) (must (Nat.beq (List.length ob1) (64 : Nat)) (some ((ob1, ()))))
theorem b153_12_t : b153_12 = c153_12 := by
  (repeat (apply funext; intro _))
  simp only [b153_12, c153_12, hide_eq, p210_t]
def m153_12 (N : Nat) (n : Nat) (i7 : Int) (ob0 : List UInt32) (ob1 : List UInt32) : Option (List UInt32 × Unit) :=
  loopN (fun A x => c153_12 N (fun i7 ob0 ob1 => A (((), ((), (i7, ()))), (ob0, (ob1, ())))) x.1.2.2.1 x.2.1 x.2.2.1) n (((), ((), (i7, ()))), (ob0, (ob1, ())))
theorem l153_12_t : l153_12 = m153_12 := by
  (repeat (apply funext; intro _))
  simp only [l153_12, m153_12, b153_12_t]
def c153_6 (N : Nat) (A_3 : Int → (List UInt8) → (List UInt32) → (List UInt32) → Option (List UInt32 × Unit)) (A_6 : Int → Int → Nat → Nat → Int → Int → (List UInt8) → (List UInt32) → (List UInt32) → Option (List UInt32 × Unit)) (i4 : Int) (t8 : Int) (t16f : Nat) (t16n : Nat) (t17 : Int) (t18 : Int) (t16o : List UInt8) (ob1 : List UInt32) (ob2 : List UInt32) : Option (List UInt32 × Unit) :=
  cond ((ltI t18 t17)) (must (leI (0 : Int) t18 && ltI t18 (↑t16n : Int)) (must (leI (0 : Int) i4 && ltI i4 (↑(64 : Nat) : Int)) (must (leI (0 : Int) i4 && ltI i4 (↑(64 : Nat) : Int)) (A_6 i4 t8 t16f t16n t17 ((wr (t18 + (1 : Int)))) t16o ob1 (setL ob2 (Int.toNat i4) (((shl32 (List.getD ob2 (Int.toNat i4) (0 : UInt32)) (UInt64.toNat (8 : UInt64))) ||| (UInt32.ofNat (UInt8.toNat (List.getD t16o (t16f + Int.toNat t18) (0 : UInt8))))))))))) (A_3 ((wr (t8 + (1 : Int)))) t16o ob1 ob2)
theorem b153_6_t : b153_6 = c153_6 := by
  (repeat (apply funext; intro _))
  simp only [b153_6, c153_6, hide_eq]
def m153_6 (N : Nat) (A_3 : Int → (List UInt8) → (List UInt32) → (List UInt32) → Option (List UInt32 × Unit)) (n : Nat) (i4 : Int) (t8 : Int) (t16f : Nat) (t16n : Nat) (t17 : Int) (t18 : Int) (t16o : List UInt8) (ob1 : List UInt32) (ob2 : List UInt32) : Option (List UInt32 × Unit) :=
  loopN (fun A x => c153_6 N A_3 (fun i4 t8 t16f t16n t17 t18 t16o ob1 ob2 => A (((), ((), ((), (i4, (t8, ((t16f, t16n), (t17, (t18, ())))))))), (t16o, (ob1, (ob2, ()))))) x.1.2.2.2.1 x.1.2.2.2.2.1 x.1.2.2.2.2.2.1.1 x.1.2.2.2.2.2.1.2 x.1.2.2.2.2.2.2.1 x.1.2.2.2.2.2.2.2.1 x.2.1 x.2.2.1 x.2.2.2.1) n (((), ((), ((), (i4, (t8, ((t16f, t16n), (t17, (t18, ())))))))), (t16o, (ob1, (ob2, ()))))
theorem l153_6_t : l153_6 = m153_6 := by
  (repeat (apply funext; intro _))
  simp only [l153_6, m153_6, b153_6_t]
def c153_3 (N : Nat) (A_3 : Int → (List UInt8) → (List UInt32) → (List UInt32) → Option (List UInt32 × Unit)) (t8 : Int) (ob0 : List UInt8) (ob1 : List UInt32) (ob2 : List UInt32) : Option (List UInt32 × Unit) :=
  cond ((ltI t8 (16 : Int))) (must (leI (0 : Int) ((wr ((4 : Int) * t8))) && (leI ((wr ((4 : Int) * t8))) ((wr ((wr ((4 : Int) * t8)) + (4 : Int)))) && leI ((wr ((wr ((4 : Int) * t8)) + (4 : Int)))) (↑(64 : Nat) : Int))) (m153_6 N A_3 N t8 t8 (Int.toNat ((wr ((4 : Int) * t8)))) (Int.toNat ((wr ((wr ((4 : Int) * t8)) + (4 : Int))) - (wr ((4 : Int) * t8)))) ((↑(Int.toNat ((wr ((wr ((4 : Int) * t8)) + (4 : Int))) - (wr ((4 : Int) * t8)))) : Int)) ((0 : Int)) ob0 ob1 ob2)) (m153_12 N N ((16 : Int)) ob1 ob2)
theorem b153_3_t : b153_3 = c153_3 := by
  (repeat (apply funext; intro _))
  simp only [b153_3, c153_3, hide_eq, l153_12_t, l153_6_t]
def m153_3 (N : Nat) (n : Nat) (t8 : Int) (ob0 : List UInt8) (ob1 : List UInt32) (ob2 : List UInt32) : Option (List UInt32 × Unit) :=
  loopN (fun A x => c153_3 N (fun t8 ob0 ob1 ob2 => A (((), ((), ((), (t8, ())))), (ob0, (ob1, (ob2, ()))))) x.1.2.2.2.1 x.2.1 x.2.2.1 x.2.2.2.1) n (((), ((), ((), (t8, ())))), (ob0, (ob1, (ob2, ()))))
theorem l153_3_t : l153_3 = m153_3 := by
  (repeat (apply funext; intro _))
  simp only [l153_3, m153_3, b153_3_t]
def q153 (N : Nat) (b0 : List UInt8) : Option (List UInt32 × Unit) :=
  must (Nat.beq (List.length b0) (64 : Nat)) (m153_3 N N ((0 : Int)) b0 ([(0 : UInt32), (0 : UInt32), (0 : UInt32), (0 : UInt32), (0 : UInt32), (0 : UInt32), (0 : UInt32), (0 : UInt32), (0 : UInt32), (0 : UInt32), (0 : UInt32), (0 : UInt32), (0 : UInt32), (0 : UInt32), (0 : UInt32), (0 : UInt32), (0 : UInt32), (0 : UInt32), (0 : UInt32), (0 : UInt32), (0 : UInt32), (0 : UInt32), (0 : UInt32), (0 : UInt32), (0 : UInt32), (0 : UInt32), (0 : UInt32), (0 : UInt32), (0 : UInt32), (0 : UInt32), (0 : UInt32), (0 : UInt32), (0 : UInt32), (0 : UInt32), (0 : UInt32), (0 : UInt32), (0 : UInt32), (0 : UInt32), (0 : UInt32), (0 : UInt32), (0 : UInt32), (0 : UInt32), (0 : UInt32), (0 : UInt32), (0 : UInt32), (0 : UInt32), (0 : UInt32), (0 : UInt32), (0 : UInt32), (0 : UInt32), (0 : UInt32), (0 : UInt32), (0 : UInt32), (0 : UInt32), (0 : UInt32), (0 : UInt32), (0 : UInt32), (0 : UInt32), (0 : UInt32), (0 : UInt32), (0 : UInt32), (0 : UInt32), (0 : UInt32), (0 : UInt32)]) ([(0 : UInt32), (0 : UInt32), (0 : UInt32), (0 : UInt32), (0 : UInt32), (0 : UInt32), (0 : UInt32), (0 : UInt32), (0 : UInt32), (0 : UInt32), (0 : UInt32), (0 : UInt32), (0 : UInt32), (0 : UInt32), (0 : UInt32), (0 : UInt32), (0 : UInt32), (0 : UInt32), (0 : UInt32), (0 : UInt32), (0 : UInt32), (0 : UInt32), (0 : UInt32), (0 : UInt32), (0 : UInt32), (0 : UInt32), (0 : UInt32), (0 : UInt32), (0 : UInt32), (0 : UInt32), (0 : UInt32), (0 : UInt32), (0 : UInt32), (0 : UInt32), (0 : UInt32), (0 : UInt32), (0 : UInt32), (0 : UInt32), (0 : UInt32), (0 : UInt32), (0 : UInt32), (0 : UInt32), (0 : UInt32), (0 : UInt32), (0 : UInt32), (0 : UInt32), (0 : UInt32), (0 : UInt32), (0 : UInt32), (0 : UInt32), (0 : UInt32), (0 : UInt32), (0 : UInt32), (0 : UInt32), (0 : UInt32), (0 : UInt32), (0 : UInt32), (0 : UInt32), (0 : UInt32), (0 : UInt32), (0 : UInt32), (0 : UInt32), (0 : UInt32), (0 : UInt32)]))
theorem p153_t : p153 = q153 := by
  (repeat (apply funext; intro _))
  simp only [p153, q153, l153_3_t]
def c48_9 (N : Nat) (A_9 : (List UInt32) → Int → (List UInt32) → (List UInt32) → Option (List UInt32 × Unit)) (t89 : List UInt32) (t90 : Int) (ob0 : List UInt32) (ob1 : List UInt32) : Option (List UInt32 × Unit) :=
  cond ((ltI t90 (8 : Int))) (must (leI (0 : Int) t90 && (ltI t90 (↑(8 : Nat) : Int) && ltI t90 (↑(List.length t89) : Int))) (must (leI (0 : Int) t90 && ltI t90 (↑(8 : Nat) : Int)) (must (leI (0 : Int) t90 && ltI t90 (↑(8 : Nat) : Int)) (A_9 t89 ((wr (t90 + (1 : Int)))) (setL ob0 (Int.toNat t90) ((List.getD ob0 (Int.toNat t90) (0 : UInt32) + List.getD t89 (Int.toNat t90) (0 : UInt32)))) ob1)))) (must (Nat.beq (List.length ob0) (8 : Nat)) (some ((ob0, ()))))
theorem b48_9_t : b48_9 = c48_9 := by
  (repeat (apply funext; intro _))
  simp only [b48_9, c48_9, hide_eq]
def m48_9 (N : Nat) (n : Nat) (t89 : List UInt32) (t90 : Int) (ob0 : List UInt32) (ob1 : List UInt32) : Option (List UInt32 × Unit) :=
  loopN (fun A x => c48_9 N (fun t89 t90 ob0 ob1 => A (((), ((), (t89, (t90, ())))), (ob0, (ob1, ())))) x.1.2.2.1 x.1.2.2.2.1 x.2.1 x.2.2.1) n (((), ((), (t89, (t90, ())))), (ob0, (ob1, ())))
theorem l48_9_t : l48_9 = m48_9 := by
  (repeat (apply funext; intro _))
  simp only [l48_9, m48_9, b48_9_t]
def c48_1000 (N : Nat) (A_1000 : Int → (List UInt32) → (List UInt32) → (List UInt32) → (List UInt32) → (List UInt32) → Option (List UInt32 × Unit)) (i8 : Int) (ob0 : List UInt32) (ob1 : List UInt32) (ob2 : List UInt32) (ob3 : List UInt32) (ob4 : List UInt32) : Option (List UInt32 × Unit) :=
  Option.bind (q155 N (List.getD ob4 (4 : Nat) (0 : UInt32)) ((6 : Int)) ((11 : Int)) ((25 : Int))) fun r0 => must (leI (0 : Int) i8 && ltI i8 (↑(64 : Nat) : Int)) (must (leI (0 : Int) i8 && ltI i8 (↑(64 : Nat) : Int)) (Option.bind (q155 N (List.getD ob4 (0 : Nat) (0 : UInt32)) ((2 : Int)) ((13 : Int)) ((22 : Int))) fun r1 => cond ((ltI ((wr (i8 + (1 : Int)))) (64 : Int))) (A_1000 ((wr (i8 + (1 : Int)))) ob0 ob1 ob2 ob3 ([(((((List.getD ob4 (7 : Nat) (0 : UInt32) + Prod.fst r0) + ((List.getD ob4 (4 : Nat) (0 : UInt32) &&& List.getD ob4 (5 : Nat) (0 : UInt32)) ^^^ ((~~~List.getD ob4 (4 : Nat) (0 : UInt32)) &&& List.getD ob4 (6 : Nat) (0 : UInt32)))) + List.getD ob3 (Int.toNat i8) (0 : UInt32)) + List.getD ob2 (Int.toNat i8) (0 : UInt32)) + (Prod.fst r1 + (((List.getD ob4 (0 : Nat) (0 : UInt32) &&& List.getD ob4 (1 : Nat) (0 : UInt32)) ^^^ (List.getD ob4 (0 : Nat) (0 : UInt32) &&& List.getD ob4 (2 : Nat) (0 : UInt32))) ^^^ (List.getD ob4 (1 : Nat) (0 : UInt32) &&& List.getD ob4 (2 : Nat) (0 : UInt32))))), List.getD ob4 (0 : Nat) (0 : UInt32), List.getD ob4 (1 : Nat) (0 : UInt32), List.getD ob4 (2 : Nat) (0 : UInt32), (List.getD ob4 (3 : Nat) (0 : UInt32) + ((((List.getD ob4 (7 : Nat) (0 : UInt32) + Prod.fst r0) + ((List.getD ob4 (4 : Nat) (0 : UInt32) &&& List.getD ob4 (5 : Nat) (0 : UInt32)) ^^^ ((~~~List.getD ob4 (4 : Nat) (0 : UInt32)) &&& List.getD ob4 (6 : Nat) (0 : UInt32)))) + List.getD ob3 (Int.toNat i8) (0 : UInt32)) + List.getD ob2 (Int.toNat i8) (0 : UInt32))), List.getD ob4 (4 : Nat) (0 : UInt32), List.getD ob4 (5 : Nat) (0 : UInt32), List.getD ob4 (6 : Nat) (0 : UInt32)])) (m48_9 N N ([(((((List.getD ob4 (7 : Nat) (0 : UInt32) + Prod.fst r0) + ((List.getD ob4 (4 : Nat) (0 : UInt32) &&& List.getD ob4 (5 : Nat) (0 : UInt32)) ^^^ ((~~~List.getD ob4 (4 : Nat) (0 : UInt32)) &&& List.getD ob4 (6 : Nat) (0 : UInt32)))) + List.getD ob3 (Int.toNat i8) (0 : UInt32)) + List.getD ob2 (Int.toNat i8) (0 : UInt32)) + (Prod.fst r1 + (((List.getD ob4 (0 : Nat) (0 : UInt32) &&& List.getD ob4 (1 : Nat) (0 : UInt32)) ^^^ (List.getD ob4 (0 : Nat) (0 : UInt32) &&& List.getD ob4 (2 : Nat) (0 : UInt32))) ^^^ (List.getD ob4 (1 : Nat) (0 : UInt32) &&& List.getD ob4 (2 : Nat) (0 : UInt32))))), List.getD ob4 (0 : Nat) (0 : UInt32), List.getD ob4 (1 : Nat) (0 : UInt32), List.getD ob4 (2 : Nat) (0 : UInt32), (List.getD ob4 (3 : Nat) (0 : UInt32) + ((((List.getD ob4 (7 : Nat) (0 : UInt32) + Prod.fst r0) + ((List.getD ob4 (4 : Nat) (0 : UInt32) &&& List.getD ob4 (5 : Nat) (0 : UInt32)) ^^^ ((~~~List.getD ob4 (4 : Nat) (0 : UInt32)) &&& List.getD ob4 (6 : Nat) (0 : UInt32)))) + List.getD ob3 (Int.toNat i8) (0 : UInt32)) + List.getD ob2 (Int.toNat i8) (0 : UInt32))), List.getD ob4 (4 : Nat) (0 : UInt32), List.getD ob4 (5 : Nat) (0 : UInt32), List.getD ob4 (6 : Nat) (0 : UInt32)]) ((0 : Int)) ob0 ob1)))
theorem b48_1000_t : b48_1000 = c48_1000 := by
  (repeat (apply funext; intro _))
  simp only [b48_1000, c48_1000, hide_eq, l48_9_t, p155_t]
def m48_1000 (N : Nat) (n : Nat) (i8 : Int) (ob0 : List UInt32) (ob1 : List UInt32) (ob2 : List UInt32) (ob3 : List UInt32) (ob4 : List UInt32) : Option (List UInt32 × Unit) :=
  loopN (fun A x => c48_1000 N (fun i8 ob0 ob1 ob2 ob3 ob4 => A (((), ((), ((), ((), ((), (i8, ())))))), (ob0, (ob1, (ob2, (ob3, (ob4, ()))))))) x.1.2.2.2.2.2.1 x.2.1 x.2.2.1 x.2.2.2.1 x.2.2.2.2.1 x.2.2.2.2.2.1) n (((), ((), ((), ((), ((), (i8, ())))))), (ob0, (ob1, (ob2, (ob3, (ob4, ()))))))
theorem l48_1000_t : l48_1000 = m48_1000 := by
  (repeat (apply funext; intro _))
  simp only [l48_1000, m48_1000, b48_1000_t]
def q48 (N : Nat) (h0 : List UInt32) (b1 : List UInt8) : Option (List UInt32 × Unit) :=
  must (Nat.beq (List.length h0) (8 : Nat)) (must (Nat.beq (List.length b1) (64 : Nat)) (Option.bind (q153 N b1) fun r0 => Option.bind (q154 N) fun r1 => must (Nat.beq (List.length (Prod.fst r0)) (64 : Nat)) (must (Nat.beq (List.length (Prod.fst r1)) (64 : Nat)) (must (Nat.beq (List.length h0) (8 : Nat)) (m48_1000 N N ((0 : Int)) h0 ([(0 : UInt32), (0 : UInt32), (0 : UInt32), (0 : UInt32), (0 : UInt32), (0 : UInt32), (0 : UInt32), (0 : UInt32)]) (Prod.fst r0) (Prod.fst r1) h0)))))
theorem p48_t : p48 = q48 := by
  (repeat (apply funext; intro _))
  simp only [p48, q48, l48_1000_t, p153_t, p154_t]
def c42_11 (N : Nat) (A_8 : (List UInt32) → Int → (List UInt8) → (List UInt8) → Option (List UInt8 × Unit)) (A_11 : Int → UInt32 → (List UInt32) → Int → Int → (List UInt8) → (List UInt8) → Option (List UInt8 × Unit)) (i6 : Int) (v7 : UInt32) (t23 : List UInt32) (t24 : Int) (t28 : Int) (ob0 : List UInt8) (ob1 : List UInt8) : Option (List UInt8 × Unit) :=
  cond ((ltI t28 (4 : Int))) (must (leI (0 : Int) ((wr ((wr ((4 : Int) * i6)) + t28))) && ltI ((wr ((wr ((4 : Int) * i6)) + t28))) (↑(32 : Nat) : Int)) (A_11 i6 v7 t23 t24 ((wr (t28 + (1 : Int)))) ob0 (setL ob1 (Int.toNat ((wr ((wr ((4 : Int) * i6)) + t28)))) ((UInt8.ofNat (UInt32.toNat ((shr32 v7 (UInt64.toNat ((u64I ((wr ((24 : Int) - (wr ((8 : Int) * t28)))))))))))))))) (A_8 t23 ((wr (t24 + (1 : Int)))) ob0 ob1)
theorem b42_11_t : b42_11 = c42_11 := by
  (repeat (apply funext; intro _))
  simp only [b42_11, c42_11, hide_eq]
def m42_11 (N : Nat) (A_8 : (List UInt32) → Int → (List UInt8) → (List UInt8) → Option (List UInt8 × Unit)) (n : Nat) (i6 : Int) (v7 : UInt32) (t23 : List UInt32) (t24 : Int) (t28 : Int) (ob0 : List UInt8) (ob1 : List UInt8) : Option (List UInt8 × Unit) :=
  loopN (fun A x => c42_11 N A_8 (fun i6 v7 t23 t24 t28 ob0 ob1 => A (((), ((), (i6, (v7, (t23, (t24, (t28, ()))))))), (ob0, (ob1, ())))) x.1.2.2.1 x.1.2.2.2.1 x.1.2.2.2.2.1 x.1.2.2.2.2.2.1 x.1.2.2.2.2.2.2.1 x.2.1 x.2.2.1) n (((), ((), (i6, (v7, (t23, (t24, (t28, ()))))))), (ob0, (ob1, ())))
theorem l42_11_t : l42_11 = m42_11 := by
  (repeat (apply funext; intro _))
  simp only [l42_11, m42_11, b42_11_t]
def c42_8 (N : Nat) (A_8 : (List UInt32) → Int → (List UInt8) → (List UInt8) → Option (List UInt8 × Unit)) (t23 : List UInt32) (t24 : Int) (ob0 : List UInt8) (ob1 : List UInt8) : Option (List UInt8 × Unit) :=
  cond ((ltI t24 (8 : Int))) (must (leI (0 : Int) t24 && (ltI t24 (↑(8 : Nat) : Int) && ltI t24 (↑(List.length t23) : Int))) (m42_11 N A_8 N t24 (List.getD t23 (Int.toNat t24) (0 : UInt32)) t23 t24 ((0 : Int)) ob0 ob1)) (must (Nat.beq (List.length ob1) (32 : Nat)) (some ((ob1, ()))))
theorem b42_8_t : b42_8 = c42_8 := by
  (repeat (apply funext; intro _))
  simp only [b42_8, c42_8, hide_eq, l42_11_t]
def m42_8 (N : Nat) (n : Nat) (t23 : List UInt32) (t24 : Int) (ob0 : List UInt8) (ob1 : List UInt8) : Option (List UInt8 × Unit) :=
  loopN (fun A x => c42_8 N (fun t23 t24 ob0 ob1 => A (((), ((), (t23, (t24, ())))), (ob0, (ob1, ())))) x.1.2.2.1 x.1.2.2.2.1 x.2.1 x.2.2.1) n (((), ((), (t23, (t24, ())))), (ob0, (ob1, ())))
theorem l42_8_t : l42_8 = m42_8 := by
  (repeat (apply funext; intro _))
  simp only [l42_8, m42_8, b42_8_t]
def c42_3 (N : Nat) (A_3 : Nat → Nat → (List UInt8) → (List UInt32) → (List UInt8) → Option (List UInt8 × Unit)) (l4f : Nat) (l4n : Nat) (ob0 : List UInt8) (ob1 : List UInt32) (l4o : List UInt8) : Option (List UInt8 × Unit) :=
  cond ((ltI (0 : Int) (↑l4n : Int))) (must (leI (64 : Int) (↑l4n : Int)) (must (leN (l4f + Int.toNat (0 : Int) + (64 : Nat)) (List.length l4o)) (Option.bind (q48 N ob1 (List.take (64 : Nat) (List.drop (l4f + Int.toNat (0 : Int)) l4o))) fun r0 => must (Nat.beq (List.length (Prod.fst r0)) (8 : Nat)) (must (leI (64 : Int) (↑l4n : Int) && leI (↑l4n : Int) (↑l4n : Int)) (A_3 (l4f + Int.toNat (64 : Int)) (Int.toNat ((↑l4n : Int) - (64 : Int))) ob0 (Prod.fst r0) l4o))))) (m42_8 N N ob1 ((0 : Int)) ob0 ([(0 : UInt8), (0 : UInt8), (0 : UInt8), (0 : UInt8), (0 : UInt8), (0 : UInt8), (0 : UInt8), (0 : UInt8), (0 : UInt8), (0 : UInt8), (0 : UInt8), (0 : UInt8), (0 : UInt8), (0 : UInt8), (0 : UInt8), (0 : UInt8), (0 : UInt8), (0 : UInt8), (0 : UInt8), (0 : UInt8), (0 : UInt8), (0 : UInt8), (0 : UInt8), (0 : UInt8), (0 : UInt8), (0 : UInt8), (0 : UInt8), (0 : UInt8), (0 : UInt8), (0 : UInt8), (0 : UInt8), (0 : UInt8)]))
theorem b42_3_t : b42_3 = c42_3 := by
  (repeat (apply funext; intro _))
  simp only [b42_3, c42_3, hide_eq, l42_8_t, p48_t]
def m42_3 (N : Nat) (n : Nat) (l4f : Nat) (l4n : Nat) (ob0 : List UInt8) (ob1 : List UInt32) (l4o : List UInt8) : Option (List UInt8 × Unit) :=
  loopN (fun A x => c42_3 N (fun l4f l4n ob0 ob1 l4o => A (((), ((), ((l4f, l4n), ()))), (ob0, (ob1, (l4o, ()))))) x.1.2.2.1.1 x.1.2.2.1.2 x.2.1 x.2.2.1 x.2.2.2.1) n (((), ((), ((l4f, l4n), ()))), (ob0, (ob1, (l4o, ()))))
theorem l42_3_t : l42_3 = m42_3 := by
  (repeat (apply funext; intro _))
  simp only [l42_3, m42_3, b42_3_t]
def q42 (N : Nat) (b0 : List UInt8) : Option (List UInt8 × Unit) :=
  Option.bind (q149 N) fun r0 => must (Nat.beq (List.length (Prod.fst r0)) (8 : Nat)) (Option.bind (q150 N b0) fun r1 => m42_3 N N ((0 : Nat)) (List.length (Prod.fst r1)) ([(0 : UInt8), (0 : UInt8), (0 : UInt8), (0 : UInt8), (0 : UInt8), (0 : UInt8), (0 : UInt8), (0 : UInt8), (0 : UInt8), (0 : UInt8), (0 : UInt8), (0 : UInt8), (0 : UInt8), (0 : UInt8), (0 : UInt8), (0 : UInt8), (0 : UInt8), (0 : UInt8), (0 : UInt8), (0 : UInt8), (0 : UInt8), (0 : UInt8), (0 : UInt8), (0 : UInt8), (0 : UInt8), (0 : UInt8), (0 : UInt8), (0 : UInt8), (0 : UInt8), (0 : UInt8), (0 : UInt8), (0 : UInt8)]) (Prod.fst r0) (Prod.fst r1))
theorem p42_t : p42 = q42 := by
  (repeat (apply funext; intro _))
  simp only [p42, q42, l42_3_t, p149_t, p150_t]
def q212 (N : Nat) (v0 : UInt64) (n1 : UInt64) (cube2 : Bool) : Option (Bool × Unit) :=
  Option.bind (q163 N v0 v0) fun r0 => cond (!cube2) (cond ((ltN (UInt64.toNat (Prod.fst r0)) (UInt64.toNat n1))) (some ((true, ()))) (cond ((Prod.fst r0 == n1)) (some (((Prod.fst (Prod.snd r0) == (0 : UInt64)), ()))) (some ((false, ()))))) (Option.bind (q163 N (Prod.fst (Prod.snd r0)) v0) fun r1 => Option.bind (q163 N (Prod.fst r0) v0) fun r2 => Option.bind (kAdd (Prod.fst r1) (Prod.fst (Prod.snd r2)) ((0 : UInt64))) fun r3 => Option.bind (q163 N (Prod.fst r0) v0) fun r4 => cond (!(Prod.fst r4 + Prod.snd r3) == (0 : UInt64)) (some ((false, ()))) (cond ((ltN (UInt64.toNat (Prod.fst r3)) (UInt64.toNat ((shl64 n1 (UInt64.toNat (32 : UInt64))))))) (some ((true, ()))) (cond ((Prod.fst r3 == (shl64 n1 (UInt64.toNat (32 : UInt64))))) (some (((Prod.fst (Prod.snd r1) == (0 : UInt64)), ()))) (some ((false, ()))))))
def c156_7 (N : Nat) (A_3 : UInt64 → (List UInt64) → Option (List UInt64 × Unit)) (A_7 : UInt64 → Bool → Int → (List UInt64) → Option (List UInt64 × Unit)) (n2 : UInt64) (is3 : Bool) (i4 : Int) (l1o : List UInt64) : Option (List UInt64 × Unit) :=
  cond ((ltI i4 (↑(List.length l1o) : Int))) (cond is3 (must (leI (0 : Int) i4 && ltI i4 (↑(List.length l1o) : Int)) (must (!List.getD l1o (Int.toNat i4) (0 : UInt64) == (0 : UInt64)) (A_7 n2 (!(n2 % List.getD l1o (Int.toNat i4) (0 : UInt64)) == (0 : UInt64)) ((wr (i4 + (1 : Int)))) l1o))) (A_7 n2 false ((wr (i4 + (1 : Int)))) l1o)) (cond is3 (must (leN ((List.length l1o + List.length [n2]) * (8 : Nat)) (140737488355328 : Nat)) (A_3 ((n2 + (1 : UInt64))) (l1o ++ [n2]))) (A_3 ((n2 + (1 : UInt64))) l1o))
def m156_7 (N : Nat) (A_3 : UInt64 → (List UInt64) → Option (List UInt64 × Unit)) (n : Nat) (n2 : UInt64) (is3 : Bool) (i4 : Int) (l1o : List UInt64) : Option (List UInt64 × Unit) :=
  loopN (fun A x => c156_7 N A_3 (fun n2 is3 i4 l1o => A (((), (n2, (is3, (i4, ())))), (l1o, ()))) x.1.2.1 x.1.2.2.1 x.1.2.2.2.1 x.2.1) n (((), (n2, (is3, (i4, ())))), (l1o, ()))
def c156_3 (N : Nat) (A_3 : UInt64 → (List UInt64) → Option (List UInt64 × Unit)) (n2 : UInt64) (l1o : List UInt64) : Option (List UInt64 × Unit) :=
  cond ((ltI (↑(List.length l1o) : Int) (64 : Int))) (m156_7 N A_3 N n2 true ((0 : Int)) l1o) (some ((l1o, ())))
def m156_3 (N : Nat) (n : Nat) (n2 : UInt64) (l1o : List UInt64) : Option (List UInt64 × Unit) :=
  loopN (fun A x => c156_3 N (fun n2 l1o => A (((), (n2, ())), (l1o, ()))) x.1.2.1 x.2.1) n (((), (n2, ())), (l1o, ()))
def q156 (N : Nat) : Option (List UInt64 × Unit) :=
  m156_3 N N ((2 : UInt64)) []
def c157_3 (N : Nat) (A_3 : UInt64 → Bool → UInt64 → Int → Option (UInt32 × Unit)) (n0 : UInt64) (cube1 : Bool) (v5 : UInt64) (i6 : Int) : Option (UInt32 × Unit) :=
  cond ((leI (0 : Int) i6)) (must (leI (0 : Int) i6) (must (ltI i6 (18446744073709551616 : Int)) (Option.bind (q212 N ((v5 + (shl64 (1 : UInt64) (UInt64.toNat (UInt64.ofNat (Int.toNat i6)))))) n0 cube1) fun r0 => cond (Prod.fst r0) (A_3 n0 cube1 ((v5 + (shl64 (1 : UInt64) (UInt64.toNat (UInt64.ofNat (Int.toNat i6)))))) ((wr (i6 - (1 : Int))))) (A_3 n0 cube1 v5 ((wr (i6 - (1 : Int)))))))) (some (((UInt32.ofNat (UInt64.toNat v5)), ())))
def m157_3 (N : Nat) (n : Nat) (n0 : UInt64) (cube1 : Bool) (v5 : UInt64) (i6 : Int) : Option (UInt32 × Unit) :=
  loopN (fun A x => c157_3 N (fun n0 cube1 v5 i6 => A ((n0, (cube1, (v5, (i6, ())))), ())) x.1.1 x.1.2.1 x.1.2.2.1 x.1.2.2.2.1) n ((n0, (cube1, (v5, (i6, ())))), ())
def q157 (N : Nat) (n0 : UInt64) (cube1 : Bool) : Option (UInt32 × Unit) :=
  m157_3 N N n0 cube1 ((0 : UInt64)) ((36 : Int))
def c50_4 (N : Nat) (A_4 : Int → (List UInt32) → (List UInt32) → (List UInt64) → Option (List UInt32 × Unit)) (i3 : Int) (ob0 : List UInt32) (ob1 : List UInt32) (p2o : List UInt64) : Option (List UInt32 × Unit) :=
  cond ((ltI i3 (8 : Int))) (must (leI (0 : Int) i3 && ltI i3 (↑(List.length p2o) : Int)) (Option.bind (q157 N (List.getD p2o (Int.toNat i3) (0 : UInt64)) false) fun r0 => must (leI (0 : Int) i3 && ltI i3 (↑(8 : Nat) : Int)) (A_4 ((wr (i3 + (1 : Int)))) ob0 (setL ob1 (Int.toNat i3) (Prod.fst r0)) p2o))) (must (Nat.beq (List.length ob1) (8 : Nat)) (some ((ob1, ()))))
def m50_4 (N : Nat) (n : Nat) (i3 : Int) (ob0 : List UInt32) (ob1 : List UInt32) (p2o : List UInt64) : Option (List UInt32 × Unit) :=
  loopN (fun A x => c50_4 N (fun i3 ob0 ob1 p2o => A (((), ((), ((), (i3, ())))), (ob0, (ob1, (p2o, ()))))) x.1.2.2.2.1 x.2.1 x.2.2.1 x.2.2.2.1) n (((), ((), ((), (i3, ())))), (ob0, (ob1, (p2o, ()))))
def q50 (N : Nat) : Option (List UInt32 × Unit) :=
  Option.bind (q156 N) fun r0 => m50_4 N N ((0 : Int)) ([(0 : UInt32), (0 : UInt32), (0 : UInt32), (0 : UInt32), (0 : UInt32), (0 : UInt32), (0 : UInt32), (0 : UInt32)]) ([(0 : UInt32), (0 : UInt32), (0 : UInt32), (0 : UInt32), (0 : UInt32), (0 : UInt32), (0 : UInt32), (0 : UInt32)]) (Prod.fst r0)
def q43 (N : Nat) : Option (Bool × Unit) :=
  Option.bind (q42 N []) fun r0 => must (Nat.beq (List.length (Prod.fst r0)) (32 : Nat)) (cond ((List.getD (Prod.fst r0) (0 : Nat) (0 : UInt8) == (227 : UInt8))) (cond ((List.getD (Prod.fst r0) (1 : Nat) (0 : UInt8) == (176 : UInt8))) (some (((List.getD (Prod.fst r0) (31 : Nat) (0 : UInt8) == (85 : UInt8)), ()))) (some ((false, ())))) (some ((false, ()))))
theorem p43_t : p43 = q43 := by
  (repeat (apply funext; intro _))
  simp only [p43, q43, hide_eq, p42_t]
def c44_3 (N : Nat) (A_3 : Int → (List UInt8) → (List UInt8) → Option (List UInt8 × Unit)) (i4 : Int) (ob0 : List UInt8) (s3o : List UInt8) : Option (List UInt8 × Unit) :=
  cond ((ltI i4 (32 : Int))) (must (leI (0 : Int) i4 && ltI i4 (↑(32 : Nat) : Int)) (must (ltI (↑(UInt8.toNat ((List.getD ob0 (Int.toNat i4) (0 : UInt8) / (16 : UInt8)))) : Int) (↑(List.length [(48 : UInt8), (49 : UInt8), (50 : UInt8), (51 : UInt8), (52 : UInt8), (53 : UInt8), (54 : UInt8), (55 : UInt8), (56 : UInt8), (57 : UInt8), (97 : UInt8), (98 : UInt8), (99 : UInt8), (100 : UInt8), (101 : UInt8), (102 : UInt8)]) : Int)) (must (leI (0 : Int) i4 && ltI i4 (↑(32 : Nat) : Int)) (must (ltI (↑(UInt8.toNat ((List.getD ob0 (Int.toNat i4) (0 : UInt8) % (16 : UInt8)))) : Int) (↑(List.length [(48 : UInt8), (49 : UInt8), (50 : UInt8), (51 : UInt8), (52 : UInt8), (53 : UInt8), (54 : UInt8), (55 : UInt8), (56 : UInt8), (57 : UInt8), (97 : UInt8), (98 : UInt8), (99 : UInt8), (100 : UInt8), (101 : UInt8), (102 : UInt8)]) : Int)) (must (leN ((List.length s3o + List.length [List.getD [(48 : UInt8), (49 : UInt8), (50 : UInt8), (51 : UInt8), (52 : UInt8), (53 : UInt8), (54 : UInt8), (55 : UInt8), (56 : UInt8), (57 : UInt8), (97 : UInt8), (98 : UInt8), (99 : UInt8), (100 : UInt8), (101 : UInt8), (102 : UInt8)] (Int.toNat (↑(UInt8.toNat ((List.getD ob0 (Int.toNat i4) (0 : UInt8) / (16 : UInt8)))) : Int)) (0 : UInt8), List.getD [(48 : UInt8), (49 : UInt8), (50 : UInt8), (51 : UInt8), (52 : UInt8), (53 : UInt8), (54 : UInt8), (55 : UInt8), (56 : UInt8), (57 : UInt8), (97 : UInt8), (98 : UInt8), (99 : UInt8), (100 : UInt8), (101 : UInt8), (102 : UInt8)] (Int.toNat (↑(UInt8.toNat ((List.getD ob0 (Int.toNat i4) (0 : UInt8) % (16 : UInt8)))) : Int)) (0 : UInt8)]) * (1 : Nat)) (140737488355328 : Nat)) (A_3 ((wr (i4 + (1 : Int)))) ob0 (s3o ++ [List.getD [(48 : UInt8), (49 : UInt8), (50 : UInt8), (51 : UInt8), (52 : UInt8), (53 : UInt8), (54 : UInt8), (55 : UInt8), (56 : UInt8), (57 : UInt8), (97 : UInt8), (98 : UInt8), (99 : UInt8), (100 : UInt8), (101 : UInt8), (102 : UInt8)] (Int.toNat (↑(UInt8.toNat ((List.getD ob0 (Int.toNat i4) (0 : UInt8) / (16 : UInt8)))) : Int)) (0 : UInt8), List.getD [(48 : UInt8), (49 : UInt8), (50 : UInt8), (51 : UInt8), (52 : UInt8), (53 : UInt8), (54 : UInt8), (55 : UInt8), (56 : UInt8), (57 : UInt8), (97 : UInt8), (98 : UInt8), (99 : UInt8), (100 : UInt8), (101 : UInt8), (102 : UInt8)] (Int.toNat (↑(UInt8.toNat ((List.getD ob0 (Int.toNat i4) (0 : UInt8) % (16 : UInt8)))) : Int)) (0 : UInt8)]))))))) (some ((s3o, ())))
theorem b44_3_t : b44_3 = c44_3 := by
  (repeat (apply funext; intro _))
  simp only [b44_3, c44_3, hide_eq]
def m44_3 (N : Nat) (n : Nat) (i4 : Int) (ob0 : List UInt8) (s3o : List UInt8) : Option (List UInt8 × Unit) :=
  loopN (fun A x => c44_3 N (fun i4 ob0 s3o => A (((), ((), (i4, ()))), (ob0, (s3o, ())))) x.1.2.2.1 x.2.1 x.2.2.1) n (((), ((), (i4, ()))), (ob0, (s3o, ())))
theorem l44_3_t : l44_3 = m44_3 := by
  (repeat (apply funext; intro _))
  simp only [l44_3, m44_3, b44_3_t]
def q44 (N : Nat) (d0 : List UInt8) : Option (List UInt8 × Unit) :=
  must (Nat.beq (List.length d0) (32 : Nat)) (m44_3 N N ((0 : Int)) d0 [])
theorem p44_t : p44 = q44 := by
  (repeat (apply funext; intro _))
  simp only [p44, q44, l44_3_t]
def c5_19 (N : Nat) (A_19 : Int → (List UInt32) → (List UInt8) → Option (Bool × Unit)) (i9 : Int) (ob0 : List UInt32) (ob1 : List UInt8) : Option (Bool × Unit) :=
  cond ((ltI i9 (32 : Int))) (must (leI (0 : Int) i9 && ltI i9 (↑(32 : Nat) : Int)) (must (leI (0 : Int) ((wr (Int.tdiv i9 (4 : Int)))) && ltI ((wr (Int.tdiv i9 (4 : Int)))) (↑(8 : Nat) : Int)) (must (leI (0 : Int) ((wr ((24 : Int) - (wr ((8 : Int) * (Int.tmod i9 (4 : Int)))))))) (must (ltI ((wr ((24 : Int) - (wr ((8 : Int) * (Int.tmod i9 (4 : Int))))))) (18446744073709551616 : Int)) (cond (!List.getD ob1 (Int.toNat i9) (0 : UInt8) == (UInt8.ofNat (UInt32.toNat ((shr32 (List.getD ob0 (Int.toNat ((wr (Int.tdiv i9 (4 : Int))))) (0 : UInt32)) (UInt64.toNat (UInt64.ofNat (Int.toNat ((wr ((24 : Int) - (wr ((8 : Int) * (Int.tmod i9 (4 : Int))))))))))))))) (some ((false, ()))) (A_19 ((wr (i9 + (1 : Int)))) ob0 ob1)))))) (some ((true, ())))
def m5_19 (N : Nat) (n : Nat) (i9 : Int) (ob0 : List UInt32) (ob1 : List UInt8) : Option (Bool × Unit) :=
  loopN (fun A x => c5_19 N (fun i9 ob0 ob1 => A (((), ((), (i9, ()))), (ob0, (ob1, ())))) x.1.2.2.1 x.2.1 x.2.2.1) n (((), ((), (i9, ()))), (ob0, (ob1, ())))
def c5_12 (N : Nat) (A_12 : (List UInt8) → Int → (List UInt8) → (List UInt32) → Option (Bool × Unit)) (b0 : List UInt8) (i6 : Int) (x3o : List UInt8) (ob1 : List UInt32) : Option (Bool × Unit) :=
  cond ((ltI i6 (↑(List.length x3o) : Int))) (must (leI (0 : Int) i6 && (leI i6 ((wr (i6 + (64 : Int)))) && leI ((wr (i6 + (64 : Int)))) (↑(List.length x3o) : Int))) (Option.bind (q48 N ob1 (splice [(0 : UInt8), (0 : UInt8), (0 : UInt8), (0 : UInt8), (0 : UInt8), (0 : UInt8), (0 : UInt8), (0 : UInt8), (0 : UInt8), (0 : UInt8), (0 : UInt8), (0 : UInt8), (0 : UInt8), (0 : UInt8), (0 : UInt8), (0 : UInt8), (0 : UInt8), (0 : UInt8), (0 : UInt8), (0 : UInt8), (0 : UInt8), (0 : UInt8), (0 : UInt8), (0 : UInt8), (0 : UInt8), (0 : UInt8), (0 : UInt8), (0 : UInt8), (0 : UInt8), (0 : UInt8), (0 : UInt8), (0 : UInt8), (0 : UInt8), (0 : UInt8), (0 : UInt8), (0 : UInt8), (0 : UInt8), (0 : UInt8), (0 : UInt8), (0 : UInt8), (0 : UInt8), (0 : UInt8), (0 : UInt8), (0 : UInt8), (0 : UInt8), (0 : UInt8), (0 : UInt8), (0 : UInt8), (0 : UInt8), (0 : UInt8), (0 : UInt8), (0 : UInt8), (0 : UInt8), (0 : UInt8), (0 : UInt8), (0 : UInt8), (0 : UInt8), (0 : UInt8), (0 : UInt8), (0 : UInt8), (0 : UInt8), (0 : UInt8), (0 : UInt8), (0 : UInt8)] (Int.toNat (0 : Int)) (List.take (Int.toNat ((↑(64 : Nat) : Int) - (0 : Int))) (List.take (Int.toNat ((wr (i6 + (64 : Int))) - i6)) (List.drop (Int.toNat i6) x3o))))) fun r1 => must (Nat.beq (List.length (Prod.fst r1)) (8 : Nat)) (A_12 b0 ((wr (i6 + (64 : Int)))) x3o (Prod.fst r1)))) (Option.bind (q42 N b0) fun r0 => must (Nat.beq (List.length (Prod.fst r0)) (32 : Nat)) (m5_19 N N ((0 : Int)) ob1 (Prod.fst r0)))
def m5_12 (N : Nat) (n : Nat) (b0 : List UInt8) (i6 : Int) (x3o : List UInt8) (ob1 : List UInt32) : Option (Bool × Unit) :=
  loopN (fun A x => c5_12 N (fun b0 i6 x3o ob1 => A ((b0, ((), ((), (i6, ())))), (x3o, (ob1, ())))) x.1.1 x.1.2.2.2.1 x.2.1 x.2.2.1) n ((b0, ((), ((), (i6, ())))), (x3o, (ob1, ())))
def c5_6 (N : Nat) (A_6 : (List UInt8) → (List UInt8) → Option (Bool × Unit)) (b0 : List UInt8) (x3o : List UInt8) : Option (Bool × Unit) :=
  cond (!eqI ((Int.tmod (↑(List.length x3o) : Int) (64 : Int))) (56 : Int)) (must (leN ((List.length x3o + List.length [(0 : UInt8)]) * (1 : Nat)) (140737488355328 : Nat)) (A_6 b0 (x3o ++ [(0 : UInt8)]))) (must (leN ((List.length x3o + List.length [(0 : UInt8), (0 : UInt8), (0 : UInt8), (0 : UInt8), (0 : UInt8), (0 : UInt8), (u8I ((shrI ((wr ((↑(List.length b0) : Int) * (8 : Int)))) (UInt64.toNat (8 : UInt64))))), (u8I ((wr ((↑(List.length b0) : Int) * (8 : Int)))))]) * (1 : Nat)) (140737488355328 : Nat)) (Option.bind (q50 N) fun r0 => must (Nat.beq (List.length (Prod.fst r0)) (8 : Nat)) (m5_12 N N b0 ((0 : Int)) (x3o ++ [(0 : UInt8), (0 : UInt8), (0 : UInt8), (0 : UInt8), (0 : UInt8), (0 : UInt8), (u8I ((shrI ((wr ((↑(List.length b0) : Int) * (8 : Int)))) (UInt64.toNat (8 : UInt64))))), (u8I ((wr ((↑(List.length b0) : Int) * (8 : Int)))))]) (Prod.fst r0))))
def m5_6 (N : Nat) (n : Nat) (b0 : List UInt8) (x3o : List UInt8) : Option (Bool × Unit) :=
  loopN (fun A x => c5_6 N (fun b0 x3o => A ((b0, ((), ())), (x3o, ()))) x.1.1 x.2.1) n ((b0, ((), ())), (x3o, ()))
def q5 (N : Nat) (b0 : List UInt8) : Option (Bool × Unit) :=
  Option.bind (q43 N) fun r0 => cond (!Prod.fst r0) (some ((false, ()))) (cond ((ltI (400 : Int) (↑(List.length b0) : Int))) (some ((true, ()))) (must (leN (((0 : Nat) + List.length b0) * (1 : Nat)) (140737488355328 : Nat)) (must (leN ((List.length b0 + List.length [(128 : UInt8)]) * (1 : Nat)) (140737488355328 : Nat)) (m5_6 N N b0 (b0 ++ [(128 : UInt8)])))))
end Go.Proofs.Ytgimohchocjgcaa.V
