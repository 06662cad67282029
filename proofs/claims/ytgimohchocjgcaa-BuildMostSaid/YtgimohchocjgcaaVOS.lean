import Derived.Test.YtgimohchocjgcaaVBP2
import Derived.Test.YtgimohchocjgcaaVPA3
import Derived.KernelRfl
import Derived.Test.YtgimohchocjgcaaVME
import Derived.WalkKit
import Derived.ProofKit
import Derived.OpenShut
import Derived.Carry
import Derived.ChangeSlices
import Derived.Test.YtgimohchocjgcaaVRW
import Derived.Test.YtgimohchocjgcaaVFM
set_option linter.unusedVariables false
set_option linter.unusedSimpArgs false
namespace Go.Proofs.Ytgimohchocjgcaa.V
section
def zlv (N : Nat) (A_2 : (List Row) -> Int -> Int -> Option (Bool × Unit)) (A_5 : (List Row) -> Int -> Int -> (List Fr) -> Int -> Option (Bool × Unit)) (t8 : List Row) (t9 t10 : Int) (t15 : List Fr) (t16 : Int) : Option (Bool × Unit) :=
  cond ((ltI t16 (8 : Int))) (must (leI (0 : Int) t16 && (ltI t16 (↑(8 : Nat) : Int) && ltI t16 (↑t15.length : Int))) (Option.bind (q79 N ((List.getD t15 t16.toNat (Fr.zero)))) fun r0 => cond (!r0.1) (some ((false, ()))) (A_5 t8 t9 t10 t15 ((wr (t16 + (1 : Int))))))) (A_2 t8 t9 ((wr (t10 + (1 : Int)))))
theorem zmM : zk1 = zlv := by
  (repeat (apply funext; intro _))
  simp only [zk1, zlv, hide_eq, zpG, zaj, zal, zam, zak]
def zlw (N : Nat) (A_2 : (List Row) -> Int -> Int -> Option (Bool × Unit)) (n : Nat) (t8 : List Row) (t9 t10 : Int) (t15 : List Fr) (t16 : Int) : Option (Bool × Unit) :=
  zap (fun A x => zlv N A_2 (fun t8 t9 t10 t15 t16 => A ((t8, (t9, (t10, (t15, (t16, ()))))), ())) x.1.1 x.1.2.1 x.1.2.2.1 x.1.2.2.2.1 x.1.2.2.2.2.1) n ((t8, (t9, (t10, (t15, (t16, ()))))), ())
theorem zmN : zk2 = zlw := by
  (repeat (apply funext; intro _))
  simp only [zk2, zlw, zmM, zaj, zal, zam, zak]
def zlx (N : Nat) (A_2 : (List Row) -> Int -> Int -> Option (Bool × Unit)) (t8 : List Row) (t9 t10 : Int) : Option (Bool × Unit) :=
  cond ((ltI t10 t9)) (must (leI (0 : Int) t10 && ltI t10 (↑t8.length : Int)) (zlw N A_2 N t8 t9 t10 ([(Row.q0 (List.getD t8 t10.toNat zrow)), (Row.q1 (List.getD t8 t10.toNat zrow)), (Row.q2 (List.getD t8 t10.toNat zrow)), (Row.q3 (List.getD t8 t10.toNat zrow)), (Row.q4 (List.getD t8 t10.toNat zrow)), (Row.q5 (List.getD t8 t10.toNat zrow)), (Row.q6 (List.getD t8 t10.toNat zrow)), (Row.q7 (List.getD t8 t10.toNat zrow))]) (0 : Int))) (some ((true, ())))
theorem zmO : zk3 = zlx := by
  (repeat (apply funext; intro _))
  simp only [zk3, zlx, hide_eq, zmN, zaj, zal, zam, zak]
def zly (N n : Nat) (t8 : List Row) (t9 t10 : Int) : Option (Bool × Unit) :=
  zap (fun A x => zlx N (fun t8 t9 t10 => A ((t8, (t9, (t10, ()))), ())) x.1.1 x.1.2.1 x.1.2.2.1) n ((t8, (t9, (t10, ()))), ())
theorem zmP : zk4 = zly := by
  (repeat (apply funext; intro _))
  simp only [zk4, zly, zmO, zaj, zal, zam, zak]
def q200 (N : Nat) (c0 v1 : Int) (v2 : List Row) (v3 : List Pr) : Option (Bool × Unit) :=
  zly N N v2 ((↑v2.length : Int)) (0 : Int)
theorem zpK : p200 = q200 := by
  (repeat (apply funext; intro _))
  simp only [p200, q200, zmP, zaj, zal, zam, zak]
def zh6 (N : Nat) (A_12 : (List Pr) -> Int -> Int -> Int -> Int -> (List Row) -> (List Pr) -> Option (Bool × Unit)) (t28 : List Pr) (t29 t30 ob0_0 ob0_1 : Int) (ob0_2 : List Row) (ob0_3 : List Pr) : Option (Bool × Unit) :=
  cond ((ltI t30 t29)) (must (leI (0 : Int) t30 && ltI t30 (↑t28.length : Int)) (cond ((ltI (mnI (Pr.x (List.getD t28 t30.toNat (Pr.mk (0 : Int) (0 : Int)))) (Pr.y (List.getD t28 t30.toNat (Pr.mk (0 : Int) (0 : Int))))) (0 : Int))) (some ((false, ()))) (cond ((leI ob0_1 (mxI (Pr.x (List.getD t28 t30.toNat (Pr.mk (0 : Int) (0 : Int)))) (Pr.y (List.getD t28 t30.toNat (Pr.mk (0 : Int) (0 : Int))))))) (some ((false, ()))) (A_12 t28 t29 ((wr (t30 + (1 : Int)))) ob0_0 ob0_1 ob0_2 ob0_3)))) (some ((true, ())))
theorem zlz : zh1 = zh6 := by
  (repeat (apply funext; intro _))
  simp only [zh1, zh6, hide_eq, zaj, zal, zam, zak]
def zh7 (N n : Nat) (t28 : List Pr) (t29 t30 ob0_0 ob0_1 : Int) (ob0_2 : List Row) (ob0_3 : List Pr) : Option (Bool × Unit) :=
  zap (fun A x => zh6 N (fun t28 t29 t30 ob0_0 ob0_1 ob0_2 ob0_3 => A (((), (t28, (t29, (t30, ())))), ((ob0_0, (ob0_1, (ob0_2, (ob0_3, ())))), ()))) x.1.2.1 x.1.2.2.1 x.1.2.2.2.1 x.2.1.1 x.2.1.2.1 x.2.1.2.2.1 x.2.1.2.2.2.1) n (((), (t28, (t29, (t30, ())))), ((ob0_0, (ob0_1, (ob0_2, (ob0_3, ())))), ()))
theorem zlA : zh2 = zh7 := by
  (repeat (apply funext; intro _))
  simp only [zh2, zh7, zlz, zaj, zal, zam, zak]
def zlB (N : Nat) (A_2 : (List Row) -> Int -> Int -> Int -> Int -> (List Row) -> (List Pr) -> Option (Bool × Unit)) (A_5 : (List Row) -> Int -> Int -> (List Int) -> Int -> Int -> Int -> (List Row) -> (List Pr) -> Option (Bool × Unit)) (t10 : List Row) (t11 t12 : Int) (t17 : List Int) (t18 ob0_0 ob0_1 : Int) (ob0_2 : List Row) (ob0_3 : List Pr) : Option (Bool × Unit) :=
  cond ((ltI t18 (3 : Int))) (must (leI (0 : Int) t18 && (ltI t18 (↑(3 : Nat) : Int) && ltI t18 (↑t17.length : Int))) (cond ((leI ob0_1 (List.getD t17 t18.toNat (0 : Int)))) (some ((false, ()))) (A_5 t10 t11 t12 t17 ((wr (t18 + (1 : Int)))) ob0_0 ob0_1 ob0_2 ob0_3))) (A_2 t10 t11 ((wr (t12 + (1 : Int)))) ob0_0 ob0_1 ob0_2 ob0_3)
theorem zmQ : zk6 = zlB := by
  (repeat (apply funext; intro _))
  simp only [zk6, zlB, hide_eq, zaj, zal, zam, zak]
def zlC (N : Nat) (A_2 : (List Row) -> Int -> Int -> Int -> Int -> (List Row) -> (List Pr) -> Option (Bool × Unit)) (n : Nat) (t10 : List Row) (t11 t12 : Int) (t17 : List Int) (t18 ob0_0 ob0_1 : Int) (ob0_2 : List Row) (ob0_3 : List Pr) : Option (Bool × Unit) :=
  zap (fun A x => zlB N A_2 (fun t10 t11 t12 t17 t18 ob0_0 ob0_1 ob0_2 ob0_3 => A (((), (t10, (t11, (t12, (t17, (t18, ())))))), ((ob0_0, (ob0_1, (ob0_2, (ob0_3, ())))), ()))) x.1.2.1 x.1.2.2.1 x.1.2.2.2.1 x.1.2.2.2.2.1 x.1.2.2.2.2.2.1 x.2.1.1 x.2.1.2.1 x.2.1.2.2.1 x.2.1.2.2.2.1) n (((), (t10, (t11, (t12, (t17, (t18, ())))))), ((ob0_0, (ob0_1, (ob0_2, (ob0_3, ())))), ()))
theorem zmR : zk7 = zlC := by
  (repeat (apply funext; intro _))
  simp only [zk7, zlC, zmQ, zaj, zal, zam, zak]
def zlD (N : Nat) (A_2 : (List Row) -> Int -> Int -> Int -> Int -> (List Row) -> (List Pr) -> Option (Bool × Unit)) (t10 : List Row) (t11 t12 ob0_0 ob0_1 : Int) (ob0_2 : List Row) (ob0_3 : List Pr) : Option (Bool × Unit) :=
  cond ((ltI t12 t11)) (must (leI (0 : Int) t12 && ltI t12 (↑t10.length : Int)) (zlC N A_2 N t10 t11 t12 ([Row.w0 (List.getD t10 t12.toNat zrow), Row.w1 (List.getD t10 t12.toNat zrow), Row.w2 (List.getD t10 t12.toNat zrow)]) (0 : Int) ob0_0 ob0_1 ob0_2 ob0_3)) (zh7 N N ob0_3 ((↑ob0_3.length : Int)) (0 : Int) ob0_0 ob0_1 ob0_2 ob0_3)
theorem zmS : zk8 = zlD := by
  (repeat (apply funext; intro _))
  simp only [zk8, zlD, hide_eq, zlA, zmR, zaj, zal, zam, zak]
def zlE (N n : Nat) (t10 : List Row) (t11 t12 ob0_0 ob0_1 : Int) (ob0_2 : List Row) (ob0_3 : List Pr) : Option (Bool × Unit) :=
  zap (fun A x => zlD N (fun t10 t11 t12 ob0_0 ob0_1 ob0_2 ob0_3 => A (((), (t10, (t11, (t12, ())))), ((ob0_0, (ob0_1, (ob0_2, (ob0_3, ())))), ()))) x.1.2.1 x.1.2.2.1 x.1.2.2.2.1 x.2.1.1 x.2.1.2.1 x.2.1.2.2.1 x.2.1.2.2.2.1) n (((), (t10, (t11, (t12, ())))), ((ob0_0, (ob0_1, (ob0_2, (ob0_3, ())))), ()))
theorem zmT : zk9 = zlE := by
  (repeat (apply funext; intro _))
  simp only [zk9, zlE, zmS, zaj, zal, zam, zak]
def q201 (N : Nat) (c0 v1 : Int) (v2 : List Row) (v3 : List Pr) : Option (Bool × Unit) :=
  zlE N N v2 ((↑v2.length : Int)) (0 : Int) c0 v1 v2 v3
theorem zpL : p201 = q201 := by
  (repeat (apply funext; intro _))
  simp only [p201, q201, zmT, zaj, zal, zam, zak]
def q220 (N : Nat) (r0 : Row) : Option (Bool × Unit) :=
  Option.bind (q108 N (Stp.mk (7 : Int) r0.w0 (0 : Int) (0 : Int) (Fr.zero) (Fr.zero) (Fr.zero) (Fr.zero) (Fr.zero))) fun rr0 => cond ((leI (0 : Int) r0.w0)) (must (ltI (0 : Int) (↑rr0.1.length : Int)) (some (((zci r0 (List.getD rr0.1 (0 : Nat) zrow)), ())))) (some ((false, ())))
theorem zpM : p220 = q220 := by
  (repeat (apply funext; intro _))
  simp only [p220, q220, hide_eq, znh, zaj, zal, zam, zak]
def zlF (N : Nat) (A_2 : (List Row) -> Int -> Int -> Int -> Int -> (List Row) -> (List Pr) -> Option (Bool × Unit)) (t6 : List Row) (t7 t8 ob0_0 ob0_1 : Int) (ob0_2 : List Row) (ob0_3 : List Pr) : Option (Bool × Unit) :=
  cond ((ltI t8 t7)) (must (leI (0 : Int) t8 && ltI t8 (↑t6.length : Int)) (cond ((ltI t8 ob0_0)) (Option.bind (q220 N (Row.mk ((Row.q0 (List.getD t6 t8.toNat zrow))) ((Row.q1 (List.getD t6 t8.toNat zrow))) ((Row.q2 (List.getD t6 t8.toNat zrow))) ((Row.q3 (List.getD t6 t8.toNat zrow))) ((Row.q4 (List.getD t6 t8.toNat zrow))) ((Row.q5 (List.getD t6 t8.toNat zrow))) ((Row.q6 (List.getD t6 t8.toNat zrow))) ((Row.q7 (List.getD t6 t8.toNat zrow))) (Row.w0 (List.getD t6 t8.toNat zrow)) (Row.w1 (List.getD t6 t8.toNat zrow)) (Row.w2 (List.getD t6 t8.toNat zrow)))) fun r0 => cond (!r0.1) (some ((false, ()))) (cond ((ltI (mnI (mnI (Row.w0 (List.getD t6 t8.toNat zrow)) (Row.w1 (List.getD t6 t8.toNat zrow))) (Row.w2 (List.getD t6 t8.toNat zrow))) (-1 : Int))) (some ((false, ()))) (A_2 t6 t7 ((wr (t8 + (1 : Int)))) ob0_0 ob0_1 ob0_2 ob0_3))) (cond ((ltI (mnI (mnI (Row.w0 (List.getD t6 t8.toNat zrow)) (Row.w1 (List.getD t6 t8.toNat zrow))) (Row.w2 (List.getD t6 t8.toNat zrow))) (-1 : Int))) (some ((false, ()))) (A_2 t6 t7 ((wr (t8 + (1 : Int)))) ob0_0 ob0_1 ob0_2 ob0_3)))) (some ((true, ())))
theorem zmU : zlc = zlF := by
  (repeat (apply funext; intro _))
  simp only [zlc, zlF, hide_eq, zpM, zaj, zal, zam, zak]
def zlG (N n : Nat) (t6 : List Row) (t7 t8 ob0_0 ob0_1 : Int) (ob0_2 : List Row) (ob0_3 : List Pr) : Option (Bool × Unit) :=
  zap (fun A x => zlF N (fun t6 t7 t8 ob0_0 ob0_1 ob0_2 ob0_3 => A (((), (t6, (t7, (t8, ())))), ((ob0_0, (ob0_1, (ob0_2, (ob0_3, ())))), ()))) x.1.2.1 x.1.2.2.1 x.1.2.2.2.1 x.2.1.1 x.2.1.2.1 x.2.1.2.2.1 x.2.1.2.2.2.1) n (((), (t6, (t7, (t8, ())))), ((ob0_0, (ob0_1, (ob0_2, (ob0_3, ())))), ()))
theorem zmV : zld = zlG := by
  (repeat (apply funext; intro _))
  simp only [zld, zlG, zmU, zaj, zal, zam, zak]
def q202 (N : Nat) (c0 v1 : Int) (v2 : List Row) (v3 : List Pr) : Option (Bool × Unit) :=
  zlG N N v2 ((↑v2.length : Int)) (0 : Int) c0 v1 v2 v3
theorem zpN : p202 = q202 := by
  (repeat (apply funext; intro _))
  simp only [p202, q202, zmV, zaj, zal, zam, zak]
def q119 (N : Nat) (c0 v1 : Int) (v2 : List Row) (v3 : List Pr) : Option (Int × Unit) :=
  cond ((ltI (8 : Int) c0)) (cond ((ltI (8 : Int) c0)) (some (((8 : Int), ()))) (cond ((ltI c0 (0 : Int))) (cond ((ltI c0 (0 : Int))) (some (((1 : Int), ()))) (Option.bind (q200 N c0 v1 v2 v3) fun r33 => cond (!r33.1) (some (((4 : Int), ()))) (Option.bind (q201 N c0 v1 v2 v3) fun r34 => cond (!r34.1) (some (((10 : Int), ()))) (Option.bind (q202 N c0 v1 v2 v3) fun r35 => cond (!r35.1) (some (((3 : Int), ()))) (some (((0 : Int), ()))))))) (cond ((ltI v1 (0 : Int))) (cond ((ltI v1 (0 : Int))) (some (((1 : Int), ()))) (Option.bind (q200 N c0 v1 v2 v3) fun r30 => cond (!r30.1) (some (((4 : Int), ()))) (Option.bind (q201 N c0 v1 v2 v3) fun r31 => cond (!r31.1) (some (((10 : Int), ()))) (Option.bind (q202 N c0 v1 v2 v3) fun r32 => cond (!r32.1) (some (((3 : Int), ()))) (some (((0 : Int), ()))))))) (cond ((ltI (↑v2.length : Int) c0)) (some (((1 : Int), ()))) (Option.bind (q200 N c0 v1 v2 v3) fun r27 => cond (!r27.1) (some (((4 : Int), ()))) (Option.bind (q201 N c0 v1 v2 v3) fun r28 => cond (!r28.1) (some (((10 : Int), ()))) (Option.bind (q202 N c0 v1 v2 v3) fun r29 => cond (!r29.1) (some (((3 : Int), ()))) (some (((0 : Int), ())))))))))) (cond ((ltI (200 : Int) v1)) (cond ((ltI (200 : Int) v1)) (some (((8 : Int), ()))) (cond ((ltI c0 (0 : Int))) (cond ((ltI c0 (0 : Int))) (some (((1 : Int), ()))) (Option.bind (q200 N c0 v1 v2 v3) fun r24 => cond (!r24.1) (some (((4 : Int), ()))) (Option.bind (q201 N c0 v1 v2 v3) fun r25 => cond (!r25.1) (some (((10 : Int), ()))) (Option.bind (q202 N c0 v1 v2 v3) fun r26 => cond (!r26.1) (some (((3 : Int), ()))) (some (((0 : Int), ()))))))) (cond ((ltI v1 (0 : Int))) (cond ((ltI v1 (0 : Int))) (some (((1 : Int), ()))) (Option.bind (q200 N c0 v1 v2 v3) fun r21 => cond (!r21.1) (some (((4 : Int), ()))) (Option.bind (q201 N c0 v1 v2 v3) fun r22 => cond (!r22.1) (some (((10 : Int), ()))) (Option.bind (q202 N c0 v1 v2 v3) fun r23 => cond (!r23.1) (some (((3 : Int), ()))) (some (((0 : Int), ()))))))) (cond ((ltI (↑v2.length : Int) c0)) (some (((1 : Int), ()))) (Option.bind (q200 N c0 v1 v2 v3) fun r18 => cond (!r18.1) (some (((4 : Int), ()))) (Option.bind (q201 N c0 v1 v2 v3) fun r19 => cond (!r19.1) (some (((10 : Int), ()))) (Option.bind (q202 N c0 v1 v2 v3) fun r20 => cond (!r20.1) (some (((3 : Int), ()))) (some (((0 : Int), ())))))))))) (cond ((ltI (64 : Int) (↑v2.length : Int))) (cond ((ltI (64 : Int) (↑v2.length : Int))) (some (((8 : Int), ()))) (cond ((ltI c0 (0 : Int))) (cond ((ltI c0 (0 : Int))) (some (((1 : Int), ()))) (Option.bind (q200 N c0 v1 v2 v3) fun r15 => cond (!r15.1) (some (((4 : Int), ()))) (Option.bind (q201 N c0 v1 v2 v3) fun r16 => cond (!r16.1) (some (((10 : Int), ()))) (Option.bind (q202 N c0 v1 v2 v3) fun r17 => cond (!r17.1) (some (((3 : Int), ()))) (some (((0 : Int), ()))))))) (cond ((ltI v1 (0 : Int))) (cond ((ltI v1 (0 : Int))) (some (((1 : Int), ()))) (Option.bind (q200 N c0 v1 v2 v3) fun r12 => cond (!r12.1) (some (((4 : Int), ()))) (Option.bind (q201 N c0 v1 v2 v3) fun r13 => cond (!r13.1) (some (((10 : Int), ()))) (Option.bind (q202 N c0 v1 v2 v3) fun r14 => cond (!r14.1) (some (((3 : Int), ()))) (some (((0 : Int), ()))))))) (cond ((ltI (↑v2.length : Int) c0)) (some (((1 : Int), ()))) (Option.bind (q200 N c0 v1 v2 v3) fun r9 => cond (!r9.1) (some (((4 : Int), ()))) (Option.bind (q201 N c0 v1 v2 v3) fun r10 => cond (!r10.1) (some (((10 : Int), ()))) (Option.bind (q202 N c0 v1 v2 v3) fun r11 => cond (!r11.1) (some (((3 : Int), ()))) (some (((0 : Int), ())))))))))) (cond ((ltI (200 : Int) (↑v3.length : Int))) (some (((8 : Int), ()))) (cond ((ltI c0 (0 : Int))) (cond ((ltI c0 (0 : Int))) (some (((1 : Int), ()))) (Option.bind (q200 N c0 v1 v2 v3) fun r6 => cond (!r6.1) (some (((4 : Int), ()))) (Option.bind (q201 N c0 v1 v2 v3) fun r7 => cond (!r7.1) (some (((10 : Int), ()))) (Option.bind (q202 N c0 v1 v2 v3) fun r8 => cond (!r8.1) (some (((3 : Int), ()))) (some (((0 : Int), ()))))))) (cond ((ltI v1 (0 : Int))) (cond ((ltI v1 (0 : Int))) (some (((1 : Int), ()))) (Option.bind (q200 N c0 v1 v2 v3) fun r3 => cond (!r3.1) (some (((4 : Int), ()))) (Option.bind (q201 N c0 v1 v2 v3) fun r4 => cond (!r4.1) (some (((10 : Int), ()))) (Option.bind (q202 N c0 v1 v2 v3) fun r5 => cond (!r5.1) (some (((3 : Int), ()))) (some (((0 : Int), ()))))))) (cond ((ltI (↑v2.length : Int) c0)) (some (((1 : Int), ()))) (Option.bind (q200 N c0 v1 v2 v3) fun r0 => cond (!r0.1) (some (((4 : Int), ()))) (Option.bind (q201 N c0 v1 v2 v3) fun r1 => cond (!r1.1) (some (((10 : Int), ()))) (Option.bind (q202 N c0 v1 v2 v3) fun r2 => cond (!r2.1) (some (((3 : Int), ()))) (some (((0 : Int), ()))))))))))))
theorem zni : p119 = q119 := by
  (repeat (apply funext; intro _))
  simp only [p119, q119, hide_eq, zpK, zpL, zpN, zaj, zal, zam, zak]
end
section
def smI : List Int -> Nat
  | [] => 0
  | x :: l => x.toNat + smI l
inductive Alike2 (S : List Pr) : Int -> Int -> Prop
  | refl (a : Int) : Alike2 S a a
  | pair {p : Pr} : p ∈ S -> Alike2 S p.x p.y
  | symm {a b : Int} : Alike2 S a b -> Alike2 S b a
  | trans {a b c : Int} : Alike2 S a b -> Alike2 S b c -> Alike2 S a c
structure GoodC (S : List Pr) (V : Nat) (l : List Int) : Prop where
  len : l.length = V
  nn : ∀ i : Nat, i < V -> 0 <= l.getD i 0
  le : ∀ i : Nat, i < V -> l.getD i 0 <= (i : Int)
  al : ∀ i : Nat, i < V -> Alike2 S (i : Int) (l.getD i 0)
end
section
def Turn (ag ag' : Bool) (l l' : List Int) : Prop := (ag' = ag /\ l' = l) \/ (ag' = true /\ smI l' < smI l)
theorem Turn.le {ag ag' : Bool} {l l' : List Int} (h : Turn ag ag' l l') : smI l' <= smI l := by
  rcases h with ⟨_, rfl⟩ | ⟨_, h⟩
  . exact Nat.le_refl _
  . omega
theorem Turn.trans {a b c : Bool} {l m k : List Int} (h1 : Turn a b l m) (h2 : Turn b c m k) : Turn a c l k := by
  rcases h2 with ⟨rfl, rfl⟩ | ⟨h, hlt⟩
  . exact h1
  . exact .inr ⟨h, by have := h1.le; omega⟩
end
section
theorem zaA (r : Row) : Row.mk r.q0 r.q1 r.q2 r.q3 r.q4 r.q5 r.q6 r.q7 r.w0 r.w1 r.w2 = r := rfl
theorem zaB (s : Stp) : Stp.mk s.kind s.v0 s.v1 s.v2 s.q0 s.q1 s.q2 s.q3 s.q4 = s := rfl
theorem zaN : Row.mk Fr.zero Fr.zero Fr.zero Fr.zero Fr.zero Fr.zero Fr.zero Fr.zero 0 0 0 = zrow := rfl
end
section
def zcV (N : Nat) (A_11 : Int -> Int -> (List Row) -> (List Row) -> (List Row) -> Option (List Row × Unit)) (t26 t27 : Int) (ob0_0 ob0_1 newslice6o : List Row) : Option (List Row × Unit) :=
  cond ((ltI t27 t26)) (cond (eqI t27 (↑(0 : Nat) : Int)) (must (leN ((List.length newslice6o + List.length ob0_0) * (280 : Nat)) (140737488355328 : Nat)) (A_11 t26 ((wr ((↑(0 : Nat) : Int) + (1 : Int)))) ob0_0 ob0_1 (newslice6o ++ ob0_0))) (must (eqI t27 (↑((0 : Nat) + (1 : Nat)) : Int)) (must (leN ((List.length newslice6o + List.length ob0_1) * (280 : Nat)) (140737488355328 : Nat)) (A_11 t26 ((wr ((↑((0 : Nat) + (1 : Nat)) : Int) + (1 : Int)))) ob0_0 ob0_1 (newslice6o ++ ob0_1))))) (some ((newslice6o, ())))
theorem zf5 : zcT = zcV := by
  (repeat (apply funext; intro _))
  simp only [zcT, zcV, hide_eq, zaj, zal, zam, zak, zaA, zaB, zci, zaN]
def zcW (N n : Nat) (t26 t27 : Int) (ob0_0 ob0_1 newslice6o : List Row) : Option (List Row × Unit) :=
  zap (fun A x => zcV N (fun t26 t27 ob0_0 ob0_1 newslice6o => A (((), ((), (t26, (t27, ())))), ((ob0_0, (ob0_1, ())), (newslice6o, ())))) x.1.2.2.1 x.1.2.2.2.1 x.2.1.1 x.2.1.2.1 x.2.2.1) n (((), ((), (t26, (t27, ())))), ((ob0_0, (ob0_1, ())), (newslice6o, ())))
theorem zf6 : zcU = zcW := by
  (repeat (apply funext; intro _))
  simp only [zcU, zcW, zf5, zaj, zal, zam, zak, zaA, zaB, zci, zaN]
def zdD (N : Nat) (A_3 : Int -> Int -> Int -> (List Row) -> (List Row) -> Option (List Row × Unit)) (size3 t10 t11 : Int) (ob0_0 ob0_1 : List Row) : Option (List Row × Unit) :=
  cond ((ltI t11 t10)) (cond (eqI t11 (↑(0 : Nat) : Int)) (cond ((ltI ((wr (size3 + (↑ob0_0.length : Int)))) (0 : Int))) (none) (A_3 ((wr (size3 + (↑ob0_0.length : Int)))) t10 ((wr ((↑(0 : Nat) : Int) + (1 : Int)))) ob0_0 ob0_1)) (must (eqI t11 (↑((0 : Nat) + (1 : Nat)) : Int)) (cond ((ltI ((wr (size3 + (↑ob0_1.length : Int)))) (0 : Int))) (none) (A_3 ((wr (size3 + (↑ob0_1.length : Int)))) t10 ((wr ((↑((0 : Nat) + (1 : Nat)) : Int) + (1 : Int)))) ob0_0 ob0_1)))) (Option.bind (ziM N size3) fun rr0 => zcW N N ((↑(2 : Nat) : Int)) (0 : Int) ob0_0 ob0_1 rr0.1)
theorem zg4 : zdB = zdD := by
  (repeat (apply funext; intro _))
  simp only [zdB, zdD, hide_eq, zf6, zjx, zaj, zal, zam, zak, zaA, zaB, zci, zaN]
def zdE (N n : Nat) (size3 t10 t11 : Int) (ob0_0 ob0_1 : List Row) : Option (List Row × Unit) :=
  zap (fun A x => zdD N (fun size3 t10 t11 ob0_0 ob0_1 => A (((), (size3, ((), (t10, (t11, ()))))), ((ob0_0, (ob0_1, ())), ()))) x.1.2.1 x.1.2.2.2.1 x.1.2.2.2.2.1 x.2.1.1 x.2.1.2.1) n (((), (size3, ((), (t10, (t11, ()))))), ((ob0_0, (ob0_1, ())), ()))
theorem zg5 : zdC = zdE := by
  (repeat (apply funext; intro _))
  simp only [zdC, zdE, zg4, zaj, zal, zam, zak, zaA, zaB, zci, zaN]
def zf7 (N : Nat) (slices0 v1 : List Row) : Option (List Row × Unit) :=
  zdE N N (0 : Int) ((↑(List.length [C.ro El.row slices0, C.ro El.row v1]) : Int)) (0 : Int) slices0 v1
theorem zjC : zd0 = zf7 := by
  (repeat (apply funext; intro _))
  simp only [zd0, zf7, zg5, zaj, zal, zam, zak, zaA, zaB, zci, zaN]
def q113 (N : Nat) : Option (Unit × (Int × List Row × List Row × List Pr × Unit) × Unit) :=
  some (((), ((0 : Int), [], [], [], ()), ()))
theorem znj : p113 = q113 := by
  (repeat (apply funext; intro _))
  simp only [p113, q113, zaj, zal, zam, zak, zaA, zaB, zci, zaN]
def q114 (N : Nat) (b0 : Int) (s1 v2 : List Row) (v3 : List Pr) (v4 : Stp) : Option ((Int × List Row × List Row × List Pr × Unit) × Int × Int × Unit) :=
  cond (false) (some (((b0, s1, v2, v3, ()), (0 : Int), (1 : Int), ()))) (Option.bind (q192 N (v4) b0) fun rr0 => cond (!eqI rr0.1 (0 : Int)) (some (((b0, s1, v2, v3, ()), (0 : Int), Prod.fst rr0, ()))) (Option.bind (q108 N (v4)) fun rr1 => cond (!eqI (rr1.2.1) (0 : Int)) (some (((b0, s1, v2, v3, ()), (0 : Int), Prod.fst rr1.2, ()))) (cond ((ltI (64 : Int) ((wr ((wr ((↑s1.length : Int) + (↑v2.length : Int))) + (↑rr1.1.length : Int)))))) (some (((b0, s1, v2, v3, ()), (0 : Int), (8 : Int), ()))) (cond ((eqI v4.kind (1 : Int))) (cond ((eqI b0 (200 : Int))) (some (((b0, s1, v2, v3, ()), (0 : Int), (8 : Int), ()))) (some ((((wr (b0 + (1 : Int))), s1, v2, v3, ()), (wr ((wr (b0 + (1 : Int))) - (1 : Int))), (0 : Int), ())))) (cond ((eqI v4.kind (6 : Int))) (cond ((eqI (↑v3.length : Int) (200 : Int))) (some (((b0, s1, v2, v3, ()), (0 : Int), (8 : Int), ()))) (must (leN ((List.length v3 + List.length [Pr.mk v4.v0 v4.v1]) * (16 : Nat)) (140737488355328 : Nat)) (some (((b0, s1, v2, v3 ++ [Pr.mk v4.v0 v4.v1], ()), (0 : Int), (0 : Int), ()))))) (cond ((eqI v4.kind (7 : Int))) (cond ((eqI (↑s1.length : Int) (8 : Int))) (some (((b0, s1, v2, v3, ()), (0 : Int), (8 : Int), ()))) (must (leN ((List.length s1 + List.length rr1.1) * (280 : Nat)) (140737488355328 : Nat)) (some (((b0, s1 ++ Prod.fst rr1, v2, v3, ()), (0 : Int), (0 : Int), ()))))) (must (leN ((List.length v2 + List.length rr1.1) * (280 : Nat)) (140737488355328 : Nat)) (some (((b0, s1, v2 ++ Prod.fst rr1, v3, ()), (0 : Int), (0 : Int), ()))))))))))
theorem zlH : p114 = q114 := by
  (repeat (apply funext; intro _))
  simp only [p114, q114, hide_eq, znh, zpJ, zaj, zal, zam, zak, zaA, zaB, zci, zaN]
def q117 (N : Nat) (b0 : Int) (v1 v2 : List Row) (v3 : List Pr) : Option ((Int × List Row × List Row × List Pr × Unit) × (Int × Int × List Row × List Pr × Unit) × Unit) :=
  cond (false) (some (((b0, v1, v2, v3, ()), ((0 : Int), (0 : Int), [], [], ()), ()))) (Option.bind (zf7 N v1 v2) fun rr0 => Option.bind (q199 N v3) fun rr1 => some (((b0, v1, v2, v3, ()), ((↑v1.length : Int), b0, Prod.fst rr0, Prod.fst rr1, ()), ())))
theorem znk : p117 = q117 := by
  (repeat (apply funext; intro _))
  simp only [p117, q117, hide_eq, zoO, zjC, zaj, zal, zam, zak, zaA, zaB, zci, zaN]
def zeO (N : Nat) (A_1000 : Int -> Int -> Int -> (List Row) -> (List Pr) -> Option (Int × Unit)) (log3 ob0_0 ob0_1 : Int) (ob0_2 : List Row) (ob0_3 : List Pr) : Option (Int × Unit) :=
  cond ((ltI log3 (6 : Int))) (cond ((ltI ((shlI (1 : Int) (UInt64.toNat ((u64I log3))))) (↑ob0_2.length : Int))) (A_1000 ((wr (log3 + (1 : Int)))) ob0_0 ob0_1 ob0_2 ob0_3) (some ((log3, ())))) (some ((log3, ())))
theorem zh8 : zeM = zeO := by
  (repeat (apply funext; intro _))
  simp only [zeM, zeO, hide_eq, zaj, zal, zam, zak, zaA, zaB, zci, zaN]
def zeP (N n : Nat) (log3 ob0_0 ob0_1 : Int) (ob0_2 : List Row) (ob0_3 : List Pr) : Option (Int × Unit) :=
  zap (fun A x => zeO N (fun log3 ob0_0 ob0_1 ob0_2 ob0_3 => A (((), (log3, ())), ((ob0_0, (ob0_1, (ob0_2, (ob0_3, ())))), ()))) x.1.2.1 x.2.1.1 x.2.1.2.1 x.2.1.2.2.1 x.2.1.2.2.2.1) n (((), (log3, ())), ((ob0_0, (ob0_1, (ob0_2, (ob0_3, ())))), ()))
theorem zh9 : zeN = zeP := by
  (repeat (apply funext; intro _))
  simp only [zeN, zeP, zh8, zaj, zal, zam, zak, zaA, zaB, zci, zaN]
def q120 (N : Nat) (c0 v1 : Int) (v2 : List Row) (v3 : List Pr) : Option (Int × Unit) :=
  zeP N N (1 : Int) c0 v1 v2 v3
theorem zpO : p120 = q120 := by
  (repeat (apply funext; intro _))
  simp only [p120, q120, zh9, zaj, zal, zam, zak, zaA, zaB, zci, zaN]
def q112 (N : Nat) : Option (Bool × Unit) :=
  Option.bind (q113 N) fun rr0 => Option.bind (q114 N (Prod.fst (rr0.2.1)) (Prod.fst (Prod.snd (rr0.2.1))) (Prod.fst (Prod.snd (Prod.snd (rr0.2.1)))) (Prod.fst (Prod.snd (Prod.snd (Prod.snd (rr0.2.1))))) (Stp.mk (1 : Int) (0 : Int) (0 : Int) (0 : Int) (Fr.zero) (Fr.zero) (Fr.zero) (Fr.zero) (Fr.zero))) fun rr1 => Option.bind (q114 N (rr1.1.1) (Prod.fst (rr1.1.2)) (Prod.fst (Prod.snd (rr1.1.2))) (Prod.fst (Prod.snd (Prod.snd (rr1.1.2)))) (Stp.mk (1 : Int) (0 : Int) (0 : Int) (0 : Int) (Fr.zero) (Fr.zero) (Fr.zero) (Fr.zero) (Fr.zero))) fun rr2 => Option.bind (q114 N (rr2.1.1) (Prod.fst (rr2.1.2)) (Prod.fst (Prod.snd (rr2.1.2))) (Prod.fst (Prod.snd (Prod.snd (rr2.1.2)))) (Stp.mk (3 : Int) (0 : Int) (0 : Int) (0 : Int) (Fr.zero) (Fr.zero) (Fr.zero) (Fr.zero) (Fr.zero))) fun rr3 => Option.bind (q117 N (rr3.1.1) (Prod.fst (rr3.1.2)) (Prod.fst (Prod.snd (rr3.1.2))) (Prod.fst (Prod.snd (Prod.snd (rr3.1.2))))) fun rr4 => cond ((eqI (Prod.fst (rr1.2.2)) (0 : Int))) (cond ((eqI (rr1.2.1) (0 : Int))) (cond ((eqI (Prod.fst (rr2.2.2)) (0 : Int))) (cond ((eqI (rr2.2.1) (1 : Int))) (cond ((eqI (Prod.fst (rr3.2.2)) (0 : Int))) (cond ((eqI (Prod.fst (Prod.snd (rr4.2.1))) (2 : Int))) (cond ((eqI (↑(List.length (Prod.fst (Prod.snd (Prod.snd (rr4.2.1))))) : Int) (1 : Int))) (Option.bind (q120 N (Prod.fst (rr4.2.1)) (Prod.fst (Prod.snd (rr4.2.1))) (Prod.fst (Prod.snd (Prod.snd (rr4.2.1)))) (Prod.fst (Prod.snd (Prod.snd (Prod.snd (rr4.2.1)))))) fun rr5 => cond ((eqI rr5.1 (1 : Int))) (Option.bind (q119 N (Prod.fst (rr4.2.1)) (Prod.fst (Prod.snd (rr4.2.1))) (Prod.fst (Prod.snd (Prod.snd (rr4.2.1)))) (Prod.fst (Prod.snd (Prod.snd (Prod.snd (rr4.2.1)))))) fun rr6 => some (((eqI rr6.1 (0 : Int)), ()))) (some ((false, ())))) (some ((false, ())))) (some ((false, ())))) (some ((false, ())))) (some ((false, ())))) (some ((false, ())))) (some ((false, ())))) (some ((false, ())))
theorem zpP : p112 = q112 := by
  (repeat (apply funext; intro _))
  simp only [p112, q112, hide_eq, znj, zlH, znk, zni, zpO, zaj, zal, zam, zak, zaA, zaB, zci, zaN]
end
section
def zlI (N : Nat) (A_12 : Int -> Int -> Int -> (List Int) -> (List Int) -> (List Row) -> (List Row) -> (List Pr) -> Option (Bool × Unit)) (k7 i8 ob0_0 : Int) (most5o kinds6o : List Int) (ob3 ob4 : List Row) (ob5 : List Pr) : Option (Bool × Unit) :=
  must (leI (0 : Int) k7 && ltI k7 (↑most5o.length : Int)) (cond ((ltI i8 (List.getD most5o k7.toNat (0 : Int)))) (must (leI (0 : Int) k7 && ltI k7 (↑kinds6o.length : Int)) (Option.bind (q114 N ob0_0 ob3 ob4 ob5 (Stp.mk (List.getD kinds6o k7.toNat (0 : Int)) (0 : Int) (1 : Int) (2 : Int) (Fr.zero) (Fr.zero) (Fr.zero) (Fr.zero) (Fr.zero))) fun rr3 => cond (!eqI (Prod.fst (rr3.2.2)) (0 : Int)) (some ((false, ()))) (A_12 k7 ((wr (i8 + (1 : Int)))) (rr3.1.1) most5o kinds6o (Prod.fst (rr3.1.2)) (Prod.fst (Prod.snd (rr3.1.2))) (Prod.fst (Prod.snd (Prod.snd (rr3.1.2))))))) (must (leI (0 : Int) k7 && ltI k7 (↑kinds6o.length : Int)) (Option.bind (q114 N ob0_0 ob3 ob4 ob5 (Stp.mk (List.getD kinds6o k7.toNat (0 : Int)) (0 : Int) (1 : Int) (2 : Int) (Fr.zero) (Fr.zero) (Fr.zero) (Fr.zero) (Fr.zero))) fun rr0 => Option.bind (q117 N (rr0.1.1) (Prod.fst (rr0.1.2)) (Prod.fst (Prod.snd (rr0.1.2))) (Prod.fst (Prod.snd (Prod.snd (rr0.1.2))))) fun rr1 => cond ((eqI (Prod.fst (rr0.2.2)) (8 : Int))) (Option.bind (q119 N (Prod.fst (rr1.2.1)) (Prod.fst (Prod.snd (rr1.2.1))) (Prod.fst (Prod.snd (Prod.snd (rr1.2.1)))) (Prod.fst (Prod.snd (Prod.snd (Prod.snd (rr1.2.1)))))) fun rr2 => some (((eqI rr2.1 (0 : Int)), ()))) (some ((false, ()))))))
theorem zmW : zlp = zlI := by
  (repeat (apply funext; intro _))
  simp only [zlp, zlI, hide_eq, zlH, znk, zni, zaj, zal, zam, zak, zaA, zaB, zci, zaN]
def zcJ (N n : Nat) (k7 i8 ob0_0 : Int) (most5o kinds6o : List Int) (ob3 ob4 : List Row) (ob5 : List Pr) : Option (Bool × Unit) :=
  zap (fun A x => zlI N (fun k7 i8 ob0_0 most5o kinds6o ob3 ob4 ob5 => A (((), ((), ((), (k7, (i8, ()))))), ((ob0_0, ((), ((), ((), ())))), (most5o, (kinds6o, (ob3, (ob4, (ob5, ())))))))) x.1.2.2.2.1 x.1.2.2.2.2.1 x.2.1.1 x.2.2.1 x.2.2.2.1 x.2.2.2.2.1 x.2.2.2.2.2.1 x.2.2.2.2.2.2.1) n (((), ((), ((), (k7, (i8, ()))))), ((ob0_0, ((), ((), ((), ())))), (most5o, (kinds6o, (ob3, (ob4, (ob5, ())))))))
theorem zmX : zlq = zcJ := by
  (repeat (apply funext; intro _))
  simp only [zlq, zcJ, zmW, zaj, zal, zam, zak, zaA, zaB, zci, zaN]
def zom (N : Nat) (A_5 : UInt8 -> Int -> Int -> (List Row) -> (List Row) -> (List Pr) -> Option (Bool × Unit)) (kind0 : UInt8) (i4 ob0_0 : Int) (ob1 ob2 : List Row) (ob3 : List Pr) : Option (Bool × Unit) :=
  cond ((ltI i4 (3 : Int))) (Option.bind (q114 N ob0_0 ob1 ob2 ob3 (Stp.mk (1 : Int) (0 : Int) (0 : Int) (0 : Int) (Fr.zero) (Fr.zero) (Fr.zero) (Fr.zero) (Fr.zero))) fun rr0 => A_5 kind0 ((wr (i4 + (1 : Int)))) (rr0.1.1) (Prod.fst (rr0.1.2)) (Prod.fst (Prod.snd (rr0.1.2))) (Prod.fst (Prod.snd (Prod.snd (rr0.1.2))))) (zcJ N N ((↑(UInt8.toNat ((kind0 % (6 : UInt8)))) : Int)) (0 : Int) ob0_0 ([(197 : Int), (64 : Int), (64 : Int), (32 : Int), (200 : Int), (8 : Int)]) ([(1 : Int), (2 : Int), (4 : Int), (5 : Int), (6 : Int), (7 : Int)]) ob1 ob2 ob3)
theorem zon : zoj = zom := by
  (repeat (apply funext; intro _))
  simp only [zoj, zom, hide_eq, zmX, zlH, zaj, zal, zam, zak, zaA, zaB, zci, zaN]
def zoo (N n : Nat) (kind0 : UInt8) (i4 ob0_0 : Int) (ob1 ob2 : List Row) (ob3 : List Pr) : Option (Bool × Unit) :=
  zap (fun A x => zom N (fun kind0 i4 ob0_0 ob1 ob2 ob3 => A ((kind0, ((), (i4, ()))), ((ob0_0, ((), ((), ((), ())))), (ob1, (ob2, (ob3, ())))))) x.1.1 x.1.2.2.1 x.2.1.1 x.2.2.1 x.2.2.2.1 x.2.2.2.2.1) n ((kind0, ((), (i4, ()))), ((ob0_0, ((), ((), ((), ())))), (ob1, (ob2, (ob3, ())))))
theorem zop : zok = zoo := by
  (repeat (apply funext; intro _))
  simp only [zok, zoo, zon, zaj, zal, zam, zak, zaA, zaB, zci, zaN]
def q28 (N : Nat) (kind0 : UInt8) : Option (Bool × Unit) :=
  Option.bind (q112 N) fun rr0 => cond (!rr0.1) (some ((false, ()))) (Option.bind (q113 N) fun rr1 => zoo N N kind0 (0 : Int) (Prod.fst (rr1.2.1)) (Prod.fst (Prod.snd (rr1.2.1))) (Prod.fst (Prod.snd (Prod.snd (rr1.2.1)))) (Prod.fst (Prod.snd (Prod.snd (Prod.snd (rr1.2.1))))))
theorem zqZ : p28 = q28 := by
  (repeat (apply funext; intro _))
  simp only [p28, q28, hide_eq, zop, zpP, znj, zaj, zal, zam, zak, zaA, zaB, zci, zaN]
end
section
theorem zpQ : zcJ 2000 2000 ((0 : Nat) : Int) 0 3 [197, 64, 64, 32, 200, 8] [1, 2, 4, 5, 6, 7] [] [] [] = some (true, ()) := by kernel_rfl
theorem zpR : zcJ 2000 2000 ((1 : Nat) : Int) 0 3 [197, 64, 64, 32, 200, 8] [1, 2, 4, 5, 6, 7] [] [] [] = some (true, ()) := by kernel_rfl
theorem zpS : zcJ 2000 2000 ((2 : Nat) : Int) 0 3 [197, 64, 64, 32, 200, 8] [1, 2, 4, 5, 6, 7] [] [] [] = some (true, ()) := by kernel_rfl
theorem zpT : zcJ 2000 2000 ((3 : Nat) : Int) 0 3 [197, 64, 64, 32, 200, 8] [1, 2, 4, 5, 6, 7] [] [] [] = some (true, ()) := by kernel_rfl
theorem zpU : zcJ 2000 2000 ((4 : Nat) : Int) 0 3 [197, 64, 64, 32, 200, 8] [1, 2, 4, 5, 6, 7] [] [] [] = some (true, ()) := by kernel_rfl
theorem zpV : zcJ 2000 2000 ((5 : Nat) : Int) 0 3 [197, 64, 64, 32, 200, 8] [1, 2, 4, 5, 6, 7] [] [] [] = some (true, ()) := by kernel_rfl
theorem zjD (kind : UInt8) : q28 2000 kind = zcJ 2000 2000 (((kind % 6).toNat : Nat) : Int) 0 3 [197, 64, 64, 32, 200, 8] [1, 2, 4, 5, 6, 7] [] [] [] := by kernel_rfl
theorem zoq (kind : UInt8) : q28 2000 kind = some (true, ()) := by
  rw [zjD]
  have h : (kind % 6).toNat < 6 := by
    rw [UInt8.toNat_mod]
    exact Nat.mod_lt _ (by decide)
  generalize (kind % 6).toNat = k at h
  have hk : k = 0 \/ k = 1 \/ k = 2 \/ k = 3 \/ k = 4 \/ k = 5 := by omega
  rcases hk with rfl | rfl | rfl | rfl | rfl | rfl
  . exact zpQ
  . exact zpR
  . exact zpS
  . exact zpT
  . exact zpU
  . exact zpV
end
section
open Go.ChangeShapes Go.WideShapes Go.ChangeAt Go.RowKit
def zor (P : Program) (k : K) (t : TypeId) : Prop :=
  ∀ (H : Type) (enc : TypeId × Value -> H) (W : World) (base : Nat) (v : Value) (d : DataW H) (p : List MemPlace), Value.okWide P W .any base t v -> DataW.Trod enc P W 0 (fun _ => true) true t v d p ->
    ∃ x : k.T, ze7 W (fun b => b < W.heap.size) (k.enc x) v
theorem zeQ {P : Program} {H : Type} {enc : TypeId × Value -> H} {W : World} {base : Nat} {sp : Nat -> Bool} {hd : Bool} : ∀ {ts : List TypeId} {vs : List Value} {ds : List (DataW H)} {p : List MemPlace}, DataW.TrodAll enc P W base sp hd ts vs ds p -> ds.length = ts.length
  | [], [], [], _, _ => rfl
  | _ :: _, _ :: _, _ :: _, _, ⟨_, _, _, h, _⟩ => by simp [zeQ h]
  | [], _ :: _, _, _, h => by cases h
  | [], [], _ :: _, _, h => by cases h
  | _ :: _, [], _, _, h => by cases h
  | _ :: _, _ :: _, [], _, h => by cases h
theorem zpW {k : IntKind} {n : Int} {P : Program} {W : World} {t : TypeId} {v : Value} {base : Nat} {H : Type} {enc : TypeId × Value -> H} {d : DataW H} {p : List MemPlace} (ht : P.underlying t = some (.int k)) (hv : Value.okWide P W .any base t v) (h : DataW.Trod enc P W 0 (fun _ => true) true t v d p) :
    ∃ n, v = .int k n /\ (Lit.int k n).wf = true := by
  obtain ⟨n, h1, _, _, h4⟩ := open_int ht hv h
  exact ⟨n, h1, h4⟩
theorem zmY {P : Program} {t : TypeId} (ht : P.underlying t = some (.int .u8)) : zor P K.u8 t := fun H enc W base v d p hv h => by
  obtain ⟨n, rfl, hw⟩ := zpW (n := 0) ht hv h
  have := bounds_u8 hw
  refine ⟨UInt8.ofNat n.toNat, .sc ?_⟩
  simp only [C.val, Option.some.injEq, Value.int.injEq, true_and]
  rw [UInt8.toNat_ofNat']
  omega
structure NumEl where
  e : El
  k : IntKind
  of : Int -> e.T
  one : e.size = 1
  val : ∀ n, (Lit.int k n).wf = true -> ∃ c, e.toC (of n) = [c] /\ c.val = some (.int k n)
theorem zmZ {P : Program} (hlaid : laidOutB P = true) {H : Type} {enc : TypeId × Value -> H} {fn : Func} {s : ChangeSpec} {apart fresh : Bool} {W W' : World} {args : Array Value} {ds gs : List (DataW H)} {before : List MemPlace} {tb : TypeId}
    (hread : ∀ t ∈ fn.params.toList, P.readableRec t = true /\ t < P.types.size) (hvars : s.vars = []) (hres : fn.resultTypes = #[tb]) (htb : P.underlying tb = some .bool)
    (hspec : s.fn H (ds ++ []) = { results := [.lit (.bool true)], args := ds })
    (hW : DataW.Whole enc P fn.params.toList s.vars apart W args.toList ds gs before) (hk : Kept W W') : s.post enc P fn apart fresh false false W args (.bool true) W' := by
  have hW' := hW
  obtain ⟨p, q, hA, hV, rfl, hz, hn⟩ := hW'
  rw [hvars] at hV
  obtain ⟨rfl, rfl⟩ := trodVars_none hV
  have hlt : ∀ x ∈ p, x.block < W.heap.size := fun x hx => hW.lt x (by simp [hx])
  have hbelow : Below W.heap.size W W' := ⟨hk.os, hk.tape, hk.output, hk.size, hk.block⟩
  have hargs : ∀ {ts : List TypeId} {vs : List Value} {ds : List (DataW H)} {p : List MemPlace}, (∀ t ∈ ts, P.readableRec t = true /\ t < P.types.size) -> DataW.TrodAll enc P W 0 (fun _ => true) true ts vs ds p -> (∀ x ∈ p, x.block < W.heap.size) ->
      DataW.TrodAll enc P W' 0 (fun b => decide (b < W.heap.size)) true ts vs ds p := by
    intro ts
    induction ts with
    | nil => intro vs ds p _ h _; cases vs <;> cases ds <;> first | exact h | exact h.elim
    | cons t ts ih =>
      intro vs ds p hr h hl
      cases vs with
      | nil => cases ds <;> exact h.elim
      | cons v vs => cases ds with
        | nil => exact h.elim
        | cons d ds =>
          obtain ⟨p1, q1, h1, h2, rfl⟩ := h
          exact ⟨p1, q1, Below.trod hlaid (hr t (by simp)).1 (hr t (by simp)).2 h1 hbelow (fun x hx => hl x (by simp [hx])), ih (fun t ht => hr t (by simp [ht])) h2 (fun x hx => hl x (by simp [hx])), rfl⟩
  have hkeep : W.keptBut W' (fun _ => False) := by
    refine ⟨hk.os, hk.output, fun i hi => ?_⟩
    rw [hk.block i hi]
    cases hb : W.heap[i]? with
    | none => trivial
    | some o => cases o <;> simp
  refine ⟨ds, [], p ++ [], [], p, [], hW, ?_, ?_, ?_, World.keptBut_mono (fun _ h => h.elim) hkeep, fun h => by cases h⟩
  . rw [hspec, hres]
    refine ⟨[], [], ⟨1, ?_⟩, rfl, rfl⟩
    simp [DataW.trod, htb, Value.cells, Value.resultList]
  . rw [hspec]
    exact hargs hread hA hlt
  . rw [hspec, hvars]
    rfl
end
section
open Go.ChangeShapes Go.WideShapes Go.ChangeAt Go.RowKit
theorem own : ownKnob Try.prog.godebug = none := by kernel_rfl
theorem laid : laidOutB Try.pinned.checked.prog = true := by kernel_rfl
theorem zq0 : mapsRowed Try.pinned.checked.prog = true := by kernel_rfl
theorem zq1 : Try.pinned.checked.prog.stopsHeard = true := by kernel_rfl
theorem zjE : Try.pinned.checked.prog.mayEnter = true := zjI
theorem zpX : zor Try.prog K.u8 5 := zmY Try.underlying5
end
section
open Go.ChangeShapes Go.WideShapes Go.ChangeAt Go.RowKit
deriving instance DecidableEq for CS
section
variable {P : Program} {els : List (Nat × El)} {W : World} {H : Type} {enc : TypeId × Value -> H}
end
structure KQ where
  k : K
  q : k.T -> Prop
def TKQ : (l : List KQ) -> TKs (l.map KQ.k) -> Prop
  | [], _ => True
  | a :: l, x => a.q x.1 /\ TKQ l x.2
def zlJ (P : Program) (a : KQ) (t : TypeId) : Prop :=
  ∀ (H : Type) (enc : TypeId × Value -> H) (W : World) (base : Nat) (v : Value) (d : DataW H) (p : List MemPlace), Value.okWide P W .any base t v -> DataW.Trod enc P W 0 (fun _ => true) true t v d p ->
    ∃ x : a.k.T, a.q x /\ ze7 W (fun b => b < W.heap.size) (a.k.enc x) v
def zg6 (P : Program) : List KQ -> List TypeId -> Prop
  | [], [] => True
  | k :: ks, t :: ts => zlJ P k t /\ zg6 P ks ts
  | _, _ => False
theorem zeR {P : Program} {H : Type} {enc : TypeId × Value -> H} {W : World} {base : Nat} : ∀ {ks : List KQ} {ts : List TypeId} {vs : List Value} {ds : List (DataW H)} {p : List MemPlace}, zg6 P ks ts -> DataW.TrodAll enc P W 0 (fun _ => true) true ts vs ds p ->
    (∀ (j : Nat) t v, ts[j]? = some t -> vs[j]? = some v -> Value.okWide P W .any base t v) -> ∃ x : TKs (ks.map KQ.k), TKQ ks x /\ zaM W (fun b => b < W.heap.size) (zdA (ks.map KQ.k) x) vs
  | [], [], [], [], _, _, _, _ => ⟨(), trivial, trivial⟩
  | k :: ks, t :: ts, v :: vs, d :: ds, p, ho, ht, hv => by
    obtain ⟨p1, q1, h1, h2, _⟩ := ht
    obtain ⟨x, hx0, hx⟩ := ho.1 H enc W base v d p1 (hv 0 t v rfl rfl) h1
    obtain ⟨y, hy0, hy⟩ := zeR ho.2 h2 fun j t v hj hw => hv (j + 1) t v (by simpa using hj) (by simpa using hw)
    exact ⟨(x, y), ⟨hx0, hy0⟩, hx, hy⟩
  | [], _ :: _, _, _, _, ho, _, _ => ho.elim
  | _ :: _, [], _, _, _, ho, _, _ => ho.elim
  | [], [], _ :: _, _, _, _, ht, _ => by cases ht
  | [], [], [], _ :: _, _, _, ht, _ => by cases ht
  | _ :: _, _ :: _, [], _, _, _, ht, _ => by cases ht
  | _ :: _, _ :: _, _ :: _, [], _, _, ht, _ => by cases ht
def KQ.any (k : K) : KQ := ⟨k, fun _ => True⟩
theorem zlK {P : Program} {k : K} {t : TypeId} (h : zor P k t) : zlJ P (KQ.any k) t := fun H enc W base v d p hv ht => by
  obtain ⟨x, hx⟩ := h H enc W base v d p hv ht
  exact ⟨x, trivial, hx⟩
def isAgg : TypeDesc -> Bool
  | .struct _ => true
  | .array _ _ => true
  | _ => false
def KQ.vec (e : El) (n : Nat) : KQ := ⟨K.vec e, fun l => l.length = n⟩
theorem zjF {P : Program} {pd : PD} (hp : PDok P pd) {env : Nat -> Option Sg} (henv : ∀ f g, env f = some g -> SgOK P pd.els f g) {n : FuncId} {fn : Func} (hf : P.funcs[n]? = some fn) (hname : fn.name ≠ "runtime.NumGoroutine")
    (ps : List K) (f : TKs ps -> Option (TKs [K.bool])) (N : Nat) (tab : List (Nat × Head)) (d : Nat)
    (hrun : ∀ x, zgg pd env fn (zbJ [K.bool]) (mkLp pd env (zbg pd fn (zbJ [K.bool])) N tab d) (zdA ps x) = f x)
    (x : TKs ps) (hx : f x = some (true, ())) (w : World) (vs : List Value) (ok : Nat -> Prop) (hok : ∀ b, ok b -> b < w.heap.size) (hh : zaM w ok (zdA ps x) vs) :
    Calls P n vs.toArray w fun e w' => e = .returned (.bool true) /\ Kept w w' := by
  have h := zmu (P := P) (pd := pd) hp henv hf hname ⟨TKs [K.bool], 0, fun us => zgg pd env fn (zbJ [K.bool]) (mkLp pd env (zbg pd fn (zbJ [K.bool])) N tab d) us, fun r => zjp (zdA [K.bool] r)⟩ rfl (zbJ [K.bool])
    (fun us r h => by rw [zbs h]) N tab d (fun us r h => h) (us := zdA ps x) (r := (true, ())) ((hrun x).trans hx) w vs ok hok hh
  refine h.mono fun e w' he => ?_
  cases e with
  | returned v =>
    obtain ⟨⟨gs, cs, h1, h2⟩, h3⟩ := he
    refine ⟨?_, h3⟩
    cases h1 with
    | c h4 =>
      cases h4
      cases h2 with
      | sc h5 _ => simp only [C.val, Option.some.injEq] at h5; subst h5; rfl
  | panicked ch => exact he.elim
  | outgrown => exact he.elim
end
section
open Go.ChangeShapes Go.WideShapes Go.ChangeAt Go.RowKit
theorem oq5 : zlJ Try.prog (KQ.any K.u8) 5 := zlK zpX
end
section
def KQ.ro (e : El) : KQ := ⟨K.ro e, fun l => (show List e.T from l).length < 9223372036854775808⟩
end
end Go.Proofs.Ytgimohchocjgcaa.V
