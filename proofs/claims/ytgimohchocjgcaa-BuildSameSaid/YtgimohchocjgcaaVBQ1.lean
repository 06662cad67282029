import Derived.Test.YtgimohchocjgcaaVWA1
import Derived.Test.YtgimohchocjgcaaVPA3
import Derived.KernelRfl
import Derived.Test.YtgimohchocjgcaaVWC1
set_option linter.unusedVariables false
set_option linter.unusedSimpArgs false
namespace Go.Proofs.Ytgimohchocjgcaa.V
section
def zpU (N : Nat) (A_2 : (List Row) -> Int -> Int -> Option (Bool × Unit)) (A_5 : (List Row) -> Int -> Int -> (List Fr) -> Int -> Option (Bool × Unit)) (t8 : List Row) (t9 t10 : Int) (t15 : List Fr) (t16 : Int) : Option (Bool × Unit) :=
  cond ((ltI t16 (8 : Int))) (must (leI (0 : Int) t16 && (ltI t16 (↑(8 : Nat) : Int) && ltI t16 (↑t15.length : Int))) (Option.bind (q79 N ((List.getD t15 t16.toNat (Fr.zero)))) fun r0 => cond (!r0.1) (some ((false, ()))) (A_5 t8 t9 t10 t15 ((wr (t16 + (1 : Int))))))) (A_2 t8 t9 ((wr (t10 + (1 : Int)))))
theorem zrY : zoT = zpU := by
  (repeat (apply funext; intro _))
  simp only [zoT, zpU, hide_eq, zxc, zae, zag, zah, zaf]
def zpV (N : Nat) (A_2 : (List Row) -> Int -> Int -> Option (Bool × Unit)) (n : Nat) (t8 : List Row) (t9 t10 : Int) (t15 : List Fr) (t16 : Int) : Option (Bool × Unit) :=
  zap (fun A x => zpU N A_2 (fun t8 t9 t10 t15 t16 => A ((t8, (t9, (t10, (t15, (t16, ()))))), ())) x.1.1 x.1.2.1 x.1.2.2.1 x.1.2.2.2.1 x.1.2.2.2.2.1) n ((t8, (t9, (t10, (t15, (t16, ()))))), ())
theorem zrZ : zoU = zpV := by
  (repeat (apply funext; intro _))
  simp only [zoU, zpV, zrY, zae, zag, zah, zaf]
def zpW (N : Nat) (A_2 : (List Row) -> Int -> Int -> Option (Bool × Unit)) (t8 : List Row) (t9 t10 : Int) : Option (Bool × Unit) :=
  cond ((ltI t10 t9)) (must (leI (0 : Int) t10 && ltI t10 (↑t8.length : Int)) (zpV N A_2 N t8 t9 t10 ([(Row.q0 (List.getD t8 t10.toNat zrow)), (Row.q1 (List.getD t8 t10.toNat zrow)), (Row.q2 (List.getD t8 t10.toNat zrow)), (Row.q3 (List.getD t8 t10.toNat zrow)), (Row.q4 (List.getD t8 t10.toNat zrow)), (Row.q5 (List.getD t8 t10.toNat zrow)), (Row.q6 (List.getD t8 t10.toNat zrow)), (Row.q7 (List.getD t8 t10.toNat zrow))]) (0 : Int))) (some ((true, ())))
theorem zr0 : zoV = zpW := by
  (repeat (apply funext; intro _))
  simp only [zoV, zpW, hide_eq, zrZ, zae, zag, zah, zaf]
def zpX (N n : Nat) (t8 : List Row) (t9 t10 : Int) : Option (Bool × Unit) :=
  zap (fun A x => zpW N (fun t8 t9 t10 => A ((t8, (t9, (t10, ()))), ())) x.1.1 x.1.2.1 x.1.2.2.1) n ((t8, (t9, (t10, ()))), ())
theorem zr1 : zoW = zpX := by
  (repeat (apply funext; intro _))
  simp only [zoW, zpX, zr0, zae, zag, zah, zaf]
def q200 (N : Nat) (c0 v1 : Int) (v2 : List Row) (v3 : List Pr) : Option (Bool × Unit) :=
  zpX N N v2 ((↑v2.length : Int)) (0 : Int)
theorem zxw : p200 = q200 := by
  (repeat (apply funext; intro _))
  simp only [p200, q200, zr1, zae, zag, zah, zaf]
def zkR (N : Nat) (A_12 : (List Pr) -> Int -> Int -> Int -> Int -> (List Row) -> (List Pr) -> Option (Bool × Unit)) (t28 : List Pr) (t29 t30 ob0_0 ob0_1 : Int) (ob0_2 : List Row) (ob0_3 : List Pr) : Option (Bool × Unit) :=
  cond ((ltI t30 t29)) (must (leI (0 : Int) t30 && ltI t30 (↑t28.length : Int)) (cond ((ltI (mnI (Pr.x (List.getD t28 t30.toNat (Pr.mk (0 : Int) (0 : Int)))) (Pr.y (List.getD t28 t30.toNat (Pr.mk (0 : Int) (0 : Int))))) (0 : Int))) (some ((false, ()))) (cond ((leI ob0_1 (mxI (Pr.x (List.getD t28 t30.toNat (Pr.mk (0 : Int) (0 : Int)))) (Pr.y (List.getD t28 t30.toNat (Pr.mk (0 : Int) (0 : Int))))))) (some ((false, ()))) (A_12 t28 t29 ((wr (t30 + (1 : Int)))) ob0_0 ob0_1 ob0_2 ob0_3)))) (some ((true, ())))
theorem zpY : zkA = zkR := by
  (repeat (apply funext; intro _))
  simp only [zkA, zkR, hide_eq, zae, zag, zah, zaf]
def zkS (N n : Nat) (t28 : List Pr) (t29 t30 ob0_0 ob0_1 : Int) (ob0_2 : List Row) (ob0_3 : List Pr) : Option (Bool × Unit) :=
  zap (fun A x => zkR N (fun t28 t29 t30 ob0_0 ob0_1 ob0_2 ob0_3 => A (((), (t28, (t29, (t30, ())))), ((ob0_0, (ob0_1, (ob0_2, (ob0_3, ())))), ()))) x.1.2.1 x.1.2.2.1 x.1.2.2.2.1 x.2.1.1 x.2.1.2.1 x.2.1.2.2.1 x.2.1.2.2.2.1) n (((), (t28, (t29, (t30, ())))), ((ob0_0, (ob0_1, (ob0_2, (ob0_3, ())))), ()))
theorem zpZ : zkB = zkS := by
  (repeat (apply funext; intro _))
  simp only [zkB, zkS, zpY, zae, zag, zah, zaf]
def zp0 (N : Nat) (A_2 : (List Row) -> Int -> Int -> Int -> Int -> (List Row) -> (List Pr) -> Option (Bool × Unit)) (A_5 : (List Row) -> Int -> Int -> (List Int) -> Int -> Int -> Int -> (List Row) -> (List Pr) -> Option (Bool × Unit)) (t10 : List Row) (t11 t12 : Int) (t17 : List Int) (t18 ob0_0 ob0_1 : Int) (ob0_2 : List Row) (ob0_3 : List Pr) : Option (Bool × Unit) :=
  cond ((ltI t18 (3 : Int))) (must (leI (0 : Int) t18 && (ltI t18 (↑(3 : Nat) : Int) && ltI t18 (↑t17.length : Int))) (cond ((leI ob0_1 (List.getD t17 t18.toNat (0 : Int)))) (some ((false, ()))) (A_5 t10 t11 t12 t17 ((wr (t18 + (1 : Int)))) ob0_0 ob0_1 ob0_2 ob0_3))) (A_2 t10 t11 ((wr (t12 + (1 : Int)))) ob0_0 ob0_1 ob0_2 ob0_3)
theorem zr2 : zoY = zp0 := by
  (repeat (apply funext; intro _))
  simp only [zoY, zp0, hide_eq, zae, zag, zah, zaf]
def zp1 (N : Nat) (A_2 : (List Row) -> Int -> Int -> Int -> Int -> (List Row) -> (List Pr) -> Option (Bool × Unit)) (n : Nat) (t10 : List Row) (t11 t12 : Int) (t17 : List Int) (t18 ob0_0 ob0_1 : Int) (ob0_2 : List Row) (ob0_3 : List Pr) : Option (Bool × Unit) :=
  zap (fun A x => zp0 N A_2 (fun t10 t11 t12 t17 t18 ob0_0 ob0_1 ob0_2 ob0_3 => A (((), (t10, (t11, (t12, (t17, (t18, ())))))), ((ob0_0, (ob0_1, (ob0_2, (ob0_3, ())))), ()))) x.1.2.1 x.1.2.2.1 x.1.2.2.2.1 x.1.2.2.2.2.1 x.1.2.2.2.2.2.1 x.2.1.1 x.2.1.2.1 x.2.1.2.2.1 x.2.1.2.2.2.1) n (((), (t10, (t11, (t12, (t17, (t18, ())))))), ((ob0_0, (ob0_1, (ob0_2, (ob0_3, ())))), ()))
theorem zr3 : zoZ = zp1 := by
  (repeat (apply funext; intro _))
  simp only [zoZ, zp1, zr2, zae, zag, zah, zaf]
def zp2 (N : Nat) (A_2 : (List Row) -> Int -> Int -> Int -> Int -> (List Row) -> (List Pr) -> Option (Bool × Unit)) (t10 : List Row) (t11 t12 ob0_0 ob0_1 : Int) (ob0_2 : List Row) (ob0_3 : List Pr) : Option (Bool × Unit) :=
  cond ((ltI t12 t11)) (must (leI (0 : Int) t12 && ltI t12 (↑t10.length : Int)) (zp1 N A_2 N t10 t11 t12 ([Row.w0 (List.getD t10 t12.toNat zrow), Row.w1 (List.getD t10 t12.toNat zrow), Row.w2 (List.getD t10 t12.toNat zrow)]) (0 : Int) ob0_0 ob0_1 ob0_2 ob0_3)) (zkS N N ob0_3 ((↑ob0_3.length : Int)) (0 : Int) ob0_0 ob0_1 ob0_2 ob0_3)
theorem zr4 : zo0 = zp2 := by
  (repeat (apply funext; intro _))
  simp only [zo0, zp2, hide_eq, zpZ, zr3, zae, zag, zah, zaf]
def zp3 (N n : Nat) (t10 : List Row) (t11 t12 ob0_0 ob0_1 : Int) (ob0_2 : List Row) (ob0_3 : List Pr) : Option (Bool × Unit) :=
  zap (fun A x => zp2 N (fun t10 t11 t12 ob0_0 ob0_1 ob0_2 ob0_3 => A (((), (t10, (t11, (t12, ())))), ((ob0_0, (ob0_1, (ob0_2, (ob0_3, ())))), ()))) x.1.2.1 x.1.2.2.1 x.1.2.2.2.1 x.2.1.1 x.2.1.2.1 x.2.1.2.2.1 x.2.1.2.2.2.1) n (((), (t10, (t11, (t12, ())))), ((ob0_0, (ob0_1, (ob0_2, (ob0_3, ())))), ()))
theorem zr5 : zo1 = zp3 := by
  (repeat (apply funext; intro _))
  simp only [zo1, zp3, zr4, zae, zag, zah, zaf]
def q201 (N : Nat) (c0 v1 : Int) (v2 : List Row) (v3 : List Pr) : Option (Bool × Unit) :=
  zp3 N N v2 ((↑v2.length : Int)) (0 : Int) c0 v1 v2 v3
theorem zxx : p201 = q201 := by
  (repeat (apply funext; intro _))
  simp only [p201, q201, zr5, zae, zag, zah, zaf]
def q220 (N : Nat) (r0 : Row) : Option (Bool × Unit) :=
  Option.bind (q108 N (Stp.mk (7 : Int) r0.w0 (0 : Int) (0 : Int) (Fr.zero) (Fr.zero) (Fr.zero) (Fr.zero) (Fr.zero))) fun rr0 => cond ((leI (0 : Int) r0.w0)) (must (ltI (0 : Int) (↑rr0.1.length : Int)) (some (((zaS r0 (List.getD rr0.1 (0 : Nat) zrow)), ())))) (some ((false, ())))
theorem zxy : p220 = q220 := by
  (repeat (apply funext; intro _))
  simp only [p220, q220, hide_eq, zs1, zae, zag, zah, zaf]
def zp4 (N : Nat) (A_2 : (List Row) -> Int -> Int -> Int -> Int -> (List Row) -> (List Pr) -> Option (Bool × Unit)) (t6 : List Row) (t7 t8 ob0_0 ob0_1 : Int) (ob0_2 : List Row) (ob0_3 : List Pr) : Option (Bool × Unit) :=
  cond ((ltI t8 t7)) (must (leI (0 : Int) t8 && ltI t8 (↑t6.length : Int)) (cond ((ltI t8 ob0_0)) (Option.bind (q220 N (Row.mk ((Row.q0 (List.getD t6 t8.toNat zrow))) ((Row.q1 (List.getD t6 t8.toNat zrow))) ((Row.q2 (List.getD t6 t8.toNat zrow))) ((Row.q3 (List.getD t6 t8.toNat zrow))) ((Row.q4 (List.getD t6 t8.toNat zrow))) ((Row.q5 (List.getD t6 t8.toNat zrow))) ((Row.q6 (List.getD t6 t8.toNat zrow))) ((Row.q7 (List.getD t6 t8.toNat zrow))) (Row.w0 (List.getD t6 t8.toNat zrow)) (Row.w1 (List.getD t6 t8.toNat zrow)) (Row.w2 (List.getD t6 t8.toNat zrow)))) fun r0 => cond (!r0.1) (some ((false, ()))) (cond ((ltI (mnI (mnI (Row.w0 (List.getD t6 t8.toNat zrow)) (Row.w1 (List.getD t6 t8.toNat zrow))) (Row.w2 (List.getD t6 t8.toNat zrow))) (-1 : Int))) (some ((false, ()))) (A_2 t6 t7 ((wr (t8 + (1 : Int)))) ob0_0 ob0_1 ob0_2 ob0_3))) (cond ((ltI (mnI (mnI (Row.w0 (List.getD t6 t8.toNat zrow)) (Row.w1 (List.getD t6 t8.toNat zrow))) (Row.w2 (List.getD t6 t8.toNat zrow))) (-1 : Int))) (some ((false, ()))) (A_2 t6 t7 ((wr (t8 + (1 : Int)))) ob0_0 ob0_1 ob0_2 ob0_3)))) (some ((true, ())))
theorem zr6 : zo4 = zp4 := by
  (repeat (apply funext; intro _))
  simp only [zo4, zp4, hide_eq, zxy, zae, zag, zah, zaf]
def zp5 (N n : Nat) (t6 : List Row) (t7 t8 ob0_0 ob0_1 : Int) (ob0_2 : List Row) (ob0_3 : List Pr) : Option (Bool × Unit) :=
  zap (fun A x => zp4 N (fun t6 t7 t8 ob0_0 ob0_1 ob0_2 ob0_3 => A (((), (t6, (t7, (t8, ())))), ((ob0_0, (ob0_1, (ob0_2, (ob0_3, ())))), ()))) x.1.2.1 x.1.2.2.1 x.1.2.2.2.1 x.2.1.1 x.2.1.2.1 x.2.1.2.2.1 x.2.1.2.2.2.1) n (((), (t6, (t7, (t8, ())))), ((ob0_0, (ob0_1, (ob0_2, (ob0_3, ())))), ()))
theorem zr7 : zo5 = zp5 := by
  (repeat (apply funext; intro _))
  simp only [zo5, zp5, zr6, zae, zag, zah, zaf]
def q202 (N : Nat) (c0 v1 : Int) (v2 : List Row) (v3 : List Pr) : Option (Bool × Unit) :=
  zp5 N N v2 ((↑v2.length : Int)) (0 : Int) c0 v1 v2 v3
theorem zxz : p202 = q202 := by
  (repeat (apply funext; intro _))
  simp only [p202, q202, zr7, zae, zag, zah, zaf]
def q119 (N : Nat) (c0 v1 : Int) (v2 : List Row) (v3 : List Pr) : Option (Int × Unit) :=
  cond ((ltI (8 : Int) c0)) (cond ((ltI (8 : Int) c0)) (some (((8 : Int), ()))) (cond ((ltI c0 (0 : Int))) (cond ((ltI c0 (0 : Int))) (some (((1 : Int), ()))) (Option.bind (q200 N c0 v1 v2 v3) fun r33 => cond (!r33.1) (some (((4 : Int), ()))) (Option.bind (q201 N c0 v1 v2 v3) fun r34 => cond (!r34.1) (some (((10 : Int), ()))) (Option.bind (q202 N c0 v1 v2 v3) fun r35 => cond (!r35.1) (some (((3 : Int), ()))) (some (((0 : Int), ()))))))) (cond ((ltI v1 (0 : Int))) (cond ((ltI v1 (0 : Int))) (some (((1 : Int), ()))) (Option.bind (q200 N c0 v1 v2 v3) fun r30 => cond (!r30.1) (some (((4 : Int), ()))) (Option.bind (q201 N c0 v1 v2 v3) fun r31 => cond (!r31.1) (some (((10 : Int), ()))) (Option.bind (q202 N c0 v1 v2 v3) fun r32 => cond (!r32.1) (some (((3 : Int), ()))) (some (((0 : Int), ()))))))) (cond ((ltI (↑v2.length : Int) c0)) (some (((1 : Int), ()))) (Option.bind (q200 N c0 v1 v2 v3) fun r27 => cond (!r27.1) (some (((4 : Int), ()))) (Option.bind (q201 N c0 v1 v2 v3) fun r28 => cond (!r28.1) (some (((10 : Int), ()))) (Option.bind (q202 N c0 v1 v2 v3) fun r29 => cond (!r29.1) (some (((3 : Int), ()))) (some (((0 : Int), ())))))))))) (cond ((ltI (200 : Int) v1)) (cond ((ltI (200 : Int) v1)) (some (((8 : Int), ()))) (cond ((ltI c0 (0 : Int))) (cond ((ltI c0 (0 : Int))) (some (((1 : Int), ()))) (Option.bind (q200 N c0 v1 v2 v3) fun r24 => cond (!r24.1) (some (((4 : Int), ()))) (Option.bind (q201 N c0 v1 v2 v3) fun r25 => cond (!r25.1) (some (((10 : Int), ()))) (Option.bind (q202 N c0 v1 v2 v3) fun r26 => cond (!r26.1) (some (((3 : Int), ()))) (some (((0 : Int), ()))))))) (cond ((ltI v1 (0 : Int))) (cond ((ltI v1 (0 : Int))) (some (((1 : Int), ()))) (Option.bind (q200 N c0 v1 v2 v3) fun r21 => cond (!r21.1) (some (((4 : Int), ()))) (Option.bind (q201 N c0 v1 v2 v3) fun r22 => cond (!r22.1) (some (((10 : Int), ()))) (Option.bind (q202 N c0 v1 v2 v3) fun r23 => cond (!r23.1) (some (((3 : Int), ()))) (some (((0 : Int), ()))))))) (cond ((ltI (↑v2.length : Int) c0)) (some (((1 : Int), ()))) (Option.bind (q200 N c0 v1 v2 v3) fun r18 => cond (!r18.1) (some (((4 : Int), ()))) (Option.bind (q201 N c0 v1 v2 v3) fun r19 => cond (!r19.1) (some (((10 : Int), ()))) (Option.bind (q202 N c0 v1 v2 v3) fun r20 => cond (!r20.1) (some (((3 : Int), ()))) (some (((0 : Int), ())))))))))) (cond ((ltI (64 : Int) (↑v2.length : Int))) (cond ((ltI (64 : Int) (↑v2.length : Int))) (some (((8 : Int), ()))) (cond ((ltI c0 (0 : Int))) (cond ((ltI c0 (0 : Int))) (some (((1 : Int), ()))) (Option.bind (q200 N c0 v1 v2 v3) fun r15 => cond (!r15.1) (some (((4 : Int), ()))) (Option.bind (q201 N c0 v1 v2 v3) fun r16 => cond (!r16.1) (some (((10 : Int), ()))) (Option.bind (q202 N c0 v1 v2 v3) fun r17 => cond (!r17.1) (some (((3 : Int), ()))) (some (((0 : Int), ()))))))) (cond ((ltI v1 (0 : Int))) (cond ((ltI v1 (0 : Int))) (some (((1 : Int), ()))) (Option.bind (q200 N c0 v1 v2 v3) fun r12 => cond (!r12.1) (some (((4 : Int), ()))) (Option.bind (q201 N c0 v1 v2 v3) fun r13 => cond (!r13.1) (some (((10 : Int), ()))) (Option.bind (q202 N c0 v1 v2 v3) fun r14 => cond (!r14.1) (some (((3 : Int), ()))) (some (((0 : Int), ()))))))) (cond ((ltI (↑v2.length : Int) c0)) (some (((1 : Int), ()))) (Option.bind (q200 N c0 v1 v2 v3) fun r9 => cond (!r9.1) (some (((4 : Int), ()))) (Option.bind (q201 N c0 v1 v2 v3) fun r10 => cond (!r10.1) (some (((10 : Int), ()))) (Option.bind (q202 N c0 v1 v2 v3) fun r11 => cond (!r11.1) (some (((3 : Int), ()))) (some (((0 : Int), ())))))))))) (cond ((ltI (200 : Int) (↑v3.length : Int))) (some (((8 : Int), ()))) (cond ((ltI c0 (0 : Int))) (cond ((ltI c0 (0 : Int))) (some (((1 : Int), ()))) (Option.bind (q200 N c0 v1 v2 v3) fun r6 => cond (!r6.1) (some (((4 : Int), ()))) (Option.bind (q201 N c0 v1 v2 v3) fun r7 => cond (!r7.1) (some (((10 : Int), ()))) (Option.bind (q202 N c0 v1 v2 v3) fun r8 => cond (!r8.1) (some (((3 : Int), ()))) (some (((0 : Int), ()))))))) (cond ((ltI v1 (0 : Int))) (cond ((ltI v1 (0 : Int))) (some (((1 : Int), ()))) (Option.bind (q200 N c0 v1 v2 v3) fun r3 => cond (!r3.1) (some (((4 : Int), ()))) (Option.bind (q201 N c0 v1 v2 v3) fun r4 => cond (!r4.1) (some (((10 : Int), ()))) (Option.bind (q202 N c0 v1 v2 v3) fun r5 => cond (!r5.1) (some (((3 : Int), ()))) (some (((0 : Int), ()))))))) (cond ((ltI (↑v2.length : Int) c0)) (some (((1 : Int), ()))) (Option.bind (q200 N c0 v1 v2 v3) fun r0 => cond (!r0.1) (some (((4 : Int), ()))) (Option.bind (q201 N c0 v1 v2 v3) fun r1 => cond (!r1.1) (some (((10 : Int), ()))) (Option.bind (q202 N c0 v1 v2 v3) fun r2 => cond (!r2.1) (some (((3 : Int), ()))) (some (((0 : Int), ()))))))))))))
theorem zxA : p119 = q119 := by
  (repeat (apply funext; intro _))
  simp only [p119, q119, hide_eq, zxw, zxx, zxz, zae, zag, zah, zaf]
end
section
def smI : List Int -> Nat
  | [] => 0
  | x :: l => x.toNat + smI l
inductive Alike2 (S : List Pr) : Int -> Int -> Prop
  | refl (a : Int) : Alike2 S a a
  | pair {p : Pr} : p ∈ S -> Alike2 S p.x p.y
  | symm {a b : Int} : Alike2 S a b -> Alike2 S b a
  | trans {a b c : Int} : Alike2 S a b -> Alike2 S b c -> Alike2 S a c
def zuU (S : List Pr) (V : Nat) : Prop := ∀ p ∈ S, (0 <= p.x /\ p.x < (V : Int)) /\ 0 <= p.y /\ p.y < (V : Int)
structure GoodC (S : List Pr) (V : Nat) (l : List Int) : Prop where
  len : l.length = V
  nn : ∀ i : Nat, i < V -> 0 <= l.getD i 0
  le : ∀ i : Nat, i < V -> l.getD i 0 <= (i : Int)
  al : ∀ i : Nat, i < V -> Alike2 S (i : Int) (l.getD i 0)
end
section
def Turn (ag ag' : Bool) (l l' : List Int) : Prop := (ag' = ag /\ l' = l) \/ (ag' = true /\ smI l' < smI l)
theorem Turn.le {ag ag' : Bool} {l l' : List Int} (h : Turn ag ag' l l') : smI l' <= smI l := by
  rcases h with ⟨_, rfl⟩ | ⟨_, h⟩
  . exact Nat.le_refl _
  . omega
theorem Turn.trans {a b c : Bool} {l m k : List Int} (h1 : Turn a b l m) (h2 : Turn b c m k) : Turn a c l k := by
  rcases h2 with ⟨rfl, rfl⟩ | ⟨h, hlt⟩
  . exact h1
  . exact .inr ⟨h, by have := h1.le; omega⟩
end
section
theorem zas (r : Row) : Row.mk r.q0 r.q1 r.q2 r.q3 r.q4 r.q5 r.q6 r.q7 r.w0 r.w1 r.w2 = r := rfl
theorem zat (s : Stp) : Stp.mk s.kind s.v0 s.v1 s.v2 s.q0 s.q1 s.q2 s.q3 s.q4 = s := rfl
theorem zaw : Row.mk Fr.zero Fr.zero Fr.zero Fr.zero Fr.zero Fr.zero Fr.zero Fr.zero 0 0 0 = zrow := rfl
def q218 (N : Nat) : Option (Fr × Unit) :=
  Option.bind (q173 N (1 : UInt64)) fun rr0 => some ((rr0.1, ()))
theorem zxB : p218 = q218 := by
  (repeat (apply funext; intro _))
  simp only [p218, q218, zlX, zae, zag, zah, zaf, zas, zat, zaS, zaw]
def zkT (N : Nat) (A_14 : Int -> Row -> (List Int) -> Option (List Row × Int × Unit)) (i7 : Int) (ob0 : Row) (ob1 : List Int) : Option (List Row × Int × Unit) :=
  cond ((ltI i7 (3 : Int))) (must (leI (0 : Int) i7 && ltI i7 (↑(3 : Nat) : Int)) (cond (eqI i7 (↑(0 : Nat) : Int)) (must (eqI i7 (↑(0 : Nat) : Int)) (A_14 ((wr ((↑(0 : Nat) : Int) + (1 : Int)))) (Row.mk (ob0.q0) (ob0.q1) (ob0.q2) (ob0.q3) (ob0.q4) (ob0.q5) (ob0.q6) (ob0.q7) (mxI (List.getD ob1 i7.toNat (0 : Int)) (-1 : Int)) ob0.w1 ob0.w2) ob1)) (cond (eqI i7 (↑((0 : Nat) + (1 : Nat)) : Int)) (must (eqI i7 (↑((0 : Nat) + (1 : Nat)) : Int)) (A_14 ((wr ((↑((0 : Nat) + (1 : Nat)) : Int) + (1 : Int)))) (Row.mk (ob0.q0) (ob0.q1) (ob0.q2) (ob0.q3) (ob0.q4) (ob0.q5) (ob0.q6) (ob0.q7) ob0.w0 (mxI (List.getD ob1 i7.toNat (0 : Int)) (-1 : Int)) ob0.w2) ob1)) (must (eqI i7 (↑((0 : Nat) + (1 : Nat) + (1 : Nat)) : Int)) (must (eqI i7 (↑((0 : Nat) + (1 : Nat) + (1 : Nat)) : Int)) (A_14 ((wr ((↑((0 : Nat) + (1 : Nat) + (1 : Nat)) : Int) + (1 : Int)))) (Row.mk (ob0.q0) (ob0.q1) (ob0.q2) (ob0.q3) (ob0.q4) (ob0.q5) (ob0.q6) (ob0.q7) ob0.w0 ob0.w1 (mxI (List.getD ob1 i7.toNat (0 : Int)) (-1 : Int))) ob1)))))) (some (([ob0], (0 : Int), ())))
theorem zp6 : zkD = zkT := by
  (repeat (apply funext; intro _))
  simp only [zkD, zkT, hide_eq, zae, zag, zah, zaf, zas, zat, zaS, zaw]
def zkU (N n : Nat) (i7 : Int) (ob0 : Row) (ob1 : List Int) : Option (List Row × Int × Unit) :=
  zap (fun A x => zkT N (fun i7 ob0 ob1 => A (((), ((), (i7, ()))), (ob0, (ob1, ())))) x.1.2.2.1 x.2.1 x.2.2.1) n (((), ((), (i7, ()))), (ob0, (ob1, ())))
theorem zp7 : zkE = zkU := by
  (repeat (apply funext; intro _))
  simp only [zkE, zkU, zp6, zae, zag, zah, zaf, zas, zat, zaS, zaw]
def zkV (N : Nat) (A_10 : Int -> Stp -> Row -> (List Int) -> Option (List Row × Int × Unit)) (i6 : Int) (ob0 : Stp) (ob1 : Row) (ob2 : List Int) : Option (List Row × Int × Unit) :=
  cond ((ltI i6 (5 : Int))) (cond (eqI i6 (↑(0 : Nat) : Int)) (must (eqI i6 (↑(0 : Nat) : Int)) (cond (eqI i6 (↑(0 : Nat) : Int)) (A_10 ((wr ((↑(0 : Nat) : Int) + (1 : Int)))) (ob0) (Row.mk (ob0.q0) (ob1.q1) (ob1.q2) (ob1.q3) (ob1.q4) (ob1.q5) (ob1.q6) (ob1.q7) ob1.w0 ob1.w1 ob1.w2) ob2) (cond (eqI i6 (↑((0 : Nat) + (1 : Nat)) : Int)) (none) (cond (eqI i6 (↑((0 : Nat) + (1 : Nat) + (1 : Nat)) : Int)) (none) (cond (eqI i6 (↑((0 : Nat) + (1 : Nat) + (1 : Nat) + (1 : Nat)) : Int)) (none) (cond (eqI i6 (↑((0 : Nat) + (1 : Nat) + (1 : Nat) + (1 : Nat) + (1 : Nat)) : Int)) (none) (cond (eqI i6 (↑((0 : Nat) + (1 : Nat) + (1 : Nat) + (1 : Nat) + (1 : Nat) + (1 : Nat)) : Int)) (none) (cond (eqI i6 (↑((0 : Nat) + (1 : Nat) + (1 : Nat) + (1 : Nat) + (1 : Nat) + (1 : Nat) + (1 : Nat)) : Int)) (none) (must (eqI i6 (↑((0 : Nat) + (1 : Nat) + (1 : Nat) + (1 : Nat) + (1 : Nat) + (1 : Nat) + (1 : Nat) + (1 : Nat)) : Int)) (none)))))))))) (cond (eqI i6 (↑((0 : Nat) + (1 : Nat)) : Int)) (must (eqI i6 (↑((0 : Nat) + (1 : Nat)) : Int)) (cond (eqI i6 (↑(0 : Nat) : Int)) (none) (cond (eqI i6 (↑((0 : Nat) + (1 : Nat)) : Int)) (A_10 ((wr ((↑((0 : Nat) + (1 : Nat)) : Int) + (1 : Int)))) (ob0) (Row.mk (ob1.q0) (ob0.q1) (ob1.q2) (ob1.q3) (ob1.q4) (ob1.q5) (ob1.q6) (ob1.q7) ob1.w0 ob1.w1 ob1.w2) ob2) (cond (eqI i6 (↑((0 : Nat) + (1 : Nat) + (1 : Nat)) : Int)) (none) (cond (eqI i6 (↑((0 : Nat) + (1 : Nat) + (1 : Nat) + (1 : Nat)) : Int)) (none) (cond (eqI i6 (↑((0 : Nat) + (1 : Nat) + (1 : Nat) + (1 : Nat) + (1 : Nat)) : Int)) (none) (cond (eqI i6 (↑((0 : Nat) + (1 : Nat) + (1 : Nat) + (1 : Nat) + (1 : Nat) + (1 : Nat)) : Int)) (none) (cond (eqI i6 (↑((0 : Nat) + (1 : Nat) + (1 : Nat) + (1 : Nat) + (1 : Nat) + (1 : Nat) + (1 : Nat)) : Int)) (none) (must (eqI i6 (↑((0 : Nat) + (1 : Nat) + (1 : Nat) + (1 : Nat) + (1 : Nat) + (1 : Nat) + (1 : Nat) + (1 : Nat)) : Int)) (none)))))))))) (cond (eqI i6 (↑((0 : Nat) + (1 : Nat) + (1 : Nat)) : Int)) (must (eqI i6 (↑((0 : Nat) + (1 : Nat) + (1 : Nat)) : Int)) (cond (eqI i6 (↑(0 : Nat) : Int)) (none) (cond (eqI i6 (↑((0 : Nat) + (1 : Nat)) : Int)) (none) (cond (eqI i6 (↑((0 : Nat) + (1 : Nat) + (1 : Nat)) : Int)) (A_10 ((wr ((↑((0 : Nat) + (1 : Nat) + (1 : Nat)) : Int) + (1 : Int)))) (ob0) (Row.mk (ob1.q0) (ob1.q1) (ob0.q2) (ob1.q3) (ob1.q4) (ob1.q5) (ob1.q6) (ob1.q7) ob1.w0 ob1.w1 ob1.w2) ob2) (cond (eqI i6 (↑((0 : Nat) + (1 : Nat) + (1 : Nat) + (1 : Nat)) : Int)) (none) (cond (eqI i6 (↑((0 : Nat) + (1 : Nat) + (1 : Nat) + (1 : Nat) + (1 : Nat)) : Int)) (none) (cond (eqI i6 (↑((0 : Nat) + (1 : Nat) + (1 : Nat) + (1 : Nat) + (1 : Nat) + (1 : Nat)) : Int)) (none) (cond (eqI i6 (↑((0 : Nat) + (1 : Nat) + (1 : Nat) + (1 : Nat) + (1 : Nat) + (1 : Nat) + (1 : Nat)) : Int)) (none) (must (eqI i6 (↑((0 : Nat) + (1 : Nat) + (1 : Nat) + (1 : Nat) + (1 : Nat) + (1 : Nat) + (1 : Nat) + (1 : Nat)) : Int)) (none)))))))))) (cond (eqI i6 (↑((0 : Nat) + (1 : Nat) + (1 : Nat) + (1 : Nat)) : Int)) (must (eqI i6 (↑((0 : Nat) + (1 : Nat) + (1 : Nat) + (1 : Nat)) : Int)) (cond (eqI i6 (↑(0 : Nat) : Int)) (none) (cond (eqI i6 (↑((0 : Nat) + (1 : Nat)) : Int)) (none) (cond (eqI i6 (↑((0 : Nat) + (1 : Nat) + (1 : Nat)) : Int)) (none) (cond (eqI i6 (↑((0 : Nat) + (1 : Nat) + (1 : Nat) + (1 : Nat)) : Int)) (A_10 ((wr ((↑((0 : Nat) + (1 : Nat) + (1 : Nat) + (1 : Nat)) : Int) + (1 : Int)))) (ob0) (Row.mk (ob1.q0) (ob1.q1) (ob1.q2) (ob0.q3) (ob1.q4) (ob1.q5) (ob1.q6) (ob1.q7) ob1.w0 ob1.w1 ob1.w2) ob2) (cond (eqI i6 (↑((0 : Nat) + (1 : Nat) + (1 : Nat) + (1 : Nat) + (1 : Nat)) : Int)) (none) (cond (eqI i6 (↑((0 : Nat) + (1 : Nat) + (1 : Nat) + (1 : Nat) + (1 : Nat) + (1 : Nat)) : Int)) (none) (cond (eqI i6 (↑((0 : Nat) + (1 : Nat) + (1 : Nat) + (1 : Nat) + (1 : Nat) + (1 : Nat) + (1 : Nat)) : Int)) (none) (must (eqI i6 (↑((0 : Nat) + (1 : Nat) + (1 : Nat) + (1 : Nat) + (1 : Nat) + (1 : Nat) + (1 : Nat) + (1 : Nat)) : Int)) (none)))))))))) (must (eqI i6 (↑((0 : Nat) + (1 : Nat) + (1 : Nat) + (1 : Nat) + (1 : Nat)) : Int)) (must (eqI i6 (↑((0 : Nat) + (1 : Nat) + (1 : Nat) + (1 : Nat) + (1 : Nat)) : Int)) (cond (eqI i6 (↑(0 : Nat) : Int)) (none) (cond (eqI i6 (↑((0 : Nat) + (1 : Nat)) : Int)) (none) (cond (eqI i6 (↑((0 : Nat) + (1 : Nat) + (1 : Nat)) : Int)) (none) (cond (eqI i6 (↑((0 : Nat) + (1 : Nat) + (1 : Nat) + (1 : Nat)) : Int)) (none) (cond (eqI i6 (↑((0 : Nat) + (1 : Nat) + (1 : Nat) + (1 : Nat) + (1 : Nat)) : Int)) (A_10 ((wr ((↑((0 : Nat) + (1 : Nat) + (1 : Nat) + (1 : Nat) + (1 : Nat)) : Int) + (1 : Int)))) (ob0) (Row.mk (ob1.q0) (ob1.q1) (ob1.q2) (ob1.q3) (ob0.q4) (ob1.q5) (ob1.q6) (ob1.q7) ob1.w0 ob1.w1 ob1.w2) ob2) (cond (eqI i6 (↑((0 : Nat) + (1 : Nat) + (1 : Nat) + (1 : Nat) + (1 : Nat) + (1 : Nat)) : Int)) (none) (cond (eqI i6 (↑((0 : Nat) + (1 : Nat) + (1 : Nat) + (1 : Nat) + (1 : Nat) + (1 : Nat) + (1 : Nat)) : Int)) (none) (must (eqI i6 (↑((0 : Nat) + (1 : Nat) + (1 : Nat) + (1 : Nat) + (1 : Nat) + (1 : Nat) + (1 : Nat) + (1 : Nat)) : Int)) (none))))))))))))))) (zkU N N (0 : Int) (ob1) ob2)
theorem zp8 : zkF = zkV := by
  (repeat (apply funext; intro _))
  simp only [zkF, zkV, hide_eq, zp7, zae, zag, zah, zaf, zas, zat, zaS, zaw]
def zh7 (N n : Nat) (i6 : Int) (ob0 : Stp) (ob1 : Row) (ob2 : List Int) : Option (List Row × Int × Unit) :=
  zap (fun A x => zkV N (fun i6 ob0 ob1 ob2 => A (((), ((), ((), (i6, ())))), (ob0, (ob1, (ob2, ()))))) x.1.2.2.2.1 x.2.1 x.2.2.1 x.2.2.2.1) n (((), ((), ((), (i6, ())))), (ob0, (ob1, (ob2, ()))))
theorem zp9 : zkG = zh7 := by
  (repeat (apply funext; intro _))
  simp only [zkG, zh7, zp8, zae, zag, zah, zaf, zas, zat, zaS, zaw]
def q197 (N : Nat) (s0 : Stp) : Option (List Row × Int × Unit) :=
  cond ((eqI s0.kind (1 : Int))) (cond ((eqI s0.kind (1 : Int))) (some (([], (0 : Int), ()))) (cond ((eqI s0.kind (2 : Int))) (zh7 N N (0 : Int) (s0) (Row.mk (Fr.zero) (Fr.zero) (Fr.zero) (Fr.zero) (Fr.zero) (Fr.zero) (Fr.zero) (Fr.zero) (-1 : Int) (-1 : Int) (-1 : Int)) ([Stp.v0 s0, Stp.v1 s0, Stp.v2 s0])) (cond ((eqI s0.kind (3 : Int))) (Option.bind (q218 N) fun rr7 => some (([Row.mk (Fr.zero) (Fr.zero) (Fr.zero) (Fr.zero) (Fr.zero) (rr7.1) (Fr.zero) (Fr.zero) s0.v0 (-1 : Int) (-1 : Int)], (0 : Int), ()))) (cond ((eqI s0.kind (4 : Int))) (Option.bind (q218 N) fun rr6 => some (([Row.mk (Fr.zero) (Fr.zero) (Fr.zero) (Fr.zero) (Fr.zero) (Fr.zero) (rr6.1) (Fr.zero) s0.v0 (-1 : Int) s0.v2], (0 : Int), ()))) (cond ((eqI s0.kind (7 : Int))) (Option.bind (q218 N) fun rr5 => some (([Row.mk (Fr.zero) (rr5.1) (Fr.zero) (Fr.zero) (Fr.zero) (Fr.zero) (Fr.zero) (Fr.zero) s0.v0 (-1 : Int) (-1 : Int)], (0 : Int), ()))) (cond ((eqI s0.kind (5 : Int))) (Option.bind (q218 N) fun rr4 => some (([Row.mk (Fr.zero) (Fr.zero) (Fr.zero) (Fr.zero) (Fr.zero) (Fr.zero) (Fr.zero) (rr4.1) s0.v0 s0.v1 (-1 : Int), Row.mk (Fr.zero) (Fr.zero) (Fr.zero) (Fr.zero) (Fr.zero) (Fr.zero) (Fr.zero) (Fr.zero) s0.v2 (-1 : Int) (-1 : Int)], (0 : Int), ()))) (some (([], (11 : Int), ()))))))))) (cond ((eqI s0.kind (6 : Int))) (some (([], (0 : Int), ()))) (cond ((eqI s0.kind (2 : Int))) (zh7 N N (0 : Int) (s0) (Row.mk (Fr.zero) (Fr.zero) (Fr.zero) (Fr.zero) (Fr.zero) (Fr.zero) (Fr.zero) (Fr.zero) (-1 : Int) (-1 : Int) (-1 : Int)) ([Stp.v0 s0, Stp.v1 s0, Stp.v2 s0])) (cond ((eqI s0.kind (3 : Int))) (Option.bind (q218 N) fun rr3 => some (([Row.mk (Fr.zero) (Fr.zero) (Fr.zero) (Fr.zero) (Fr.zero) (rr3.1) (Fr.zero) (Fr.zero) s0.v0 (-1 : Int) (-1 : Int)], (0 : Int), ()))) (cond ((eqI s0.kind (4 : Int))) (Option.bind (q218 N) fun rr2 => some (([Row.mk (Fr.zero) (Fr.zero) (Fr.zero) (Fr.zero) (Fr.zero) (Fr.zero) (rr2.1) (Fr.zero) s0.v0 (-1 : Int) s0.v2], (0 : Int), ()))) (cond ((eqI s0.kind (7 : Int))) (Option.bind (q218 N) fun rr1 => some (([Row.mk (Fr.zero) (rr1.1) (Fr.zero) (Fr.zero) (Fr.zero) (Fr.zero) (Fr.zero) (Fr.zero) s0.v0 (-1 : Int) (-1 : Int)], (0 : Int), ()))) (cond ((eqI s0.kind (5 : Int))) (Option.bind (q218 N) fun rr0 => some (([Row.mk (Fr.zero) (Fr.zero) (Fr.zero) (Fr.zero) (Fr.zero) (Fr.zero) (Fr.zero) (rr0.1) s0.v0 s0.v1 (-1 : Int), Row.mk (Fr.zero) (Fr.zero) (Fr.zero) (Fr.zero) (Fr.zero) (Fr.zero) (Fr.zero) (Fr.zero) s0.v2 (-1 : Int) (-1 : Int)], (0 : Int), ()))) (some (([], (11 : Int), ())))))))))
theorem zxC : p197 = q197 := by
  (repeat (apply funext; intro _))
  simp only [p197, q197, hide_eq, zp9, zxB, zae, zag, zah, zaf, zas, zat, zaS, zaw]
end
section
def zbp (N : Nat) (A_11 : Int -> Int -> (List Row) -> (List Row) -> (List Row) -> Option (List Row × Unit)) (t26 t27 : Int) (ob0_0 ob0_1 newslice6o : List Row) : Option (List Row × Unit) :=
  cond ((ltI t27 t26)) (cond (eqI t27 (↑(0 : Nat) : Int)) (must (leN ((List.length newslice6o + List.length ob0_0) * (280 : Nat)) (140737488355328 : Nat)) (A_11 t26 ((wr ((↑(0 : Nat) : Int) + (1 : Int)))) ob0_0 ob0_1 (newslice6o ++ ob0_0))) (must (eqI t27 (↑((0 : Nat) + (1 : Nat)) : Int)) (must (leN ((List.length newslice6o + List.length ob0_1) * (280 : Nat)) (140737488355328 : Nat)) (A_11 t26 ((wr ((↑((0 : Nat) + (1 : Nat)) : Int) + (1 : Int)))) ob0_0 ob0_1 (newslice6o ++ ob0_1))))) (some ((newslice6o, ())))
theorem zh8 : zdN = zbp := by
  (repeat (apply funext; intro _))
  simp only [zdN, zbp, hide_eq, zae, zag, zah, zaf, zas, zat, zaS, zaw]
def zbN (N n : Nat) (t26 t27 : Int) (ob0_0 ob0_1 newslice6o : List Row) : Option (List Row × Unit) :=
  zap (fun A x => zbp N (fun t26 t27 ob0_0 ob0_1 newslice6o => A (((), ((), (t26, (t27, ())))), ((ob0_0, (ob0_1, ())), (newslice6o, ())))) x.1.2.2.1 x.1.2.2.2.1 x.2.1.1 x.2.1.2.1 x.2.2.1) n (((), ((), (t26, (t27, ())))), ((ob0_0, (ob0_1, ())), (newslice6o, ())))
theorem zh9 : zdO = zbN := by
  (repeat (apply funext; intro _))
  simp only [zdO, zbN, zh8, zae, zag, zah, zaf, zas, zat, zaS, zaw]
theorem zb0 (N n : Nat) (t26 t27 : Int) (ob0_0 ob0_1 newslice6o : List Row) : zbN N (n + 1) t26 t27 ob0_0 ob0_1 newslice6o = zbp N (zbN N n) t26 t27 ob0_0 ob0_1 newslice6o := rfl
def zbO (N : Nat) (A_3 : Int -> Int -> Int -> (List Row) -> (List Row) -> Option (List Row × Unit)) (size3 t10 t11 : Int) (ob0_0 ob0_1 : List Row) : Option (List Row × Unit) :=
  cond ((ltI t11 t10)) (cond (eqI t11 (↑(0 : Nat) : Int)) (cond ((ltI ((wr (size3 + (↑ob0_0.length : Int)))) (0 : Int))) (none) (A_3 ((wr (size3 + (↑ob0_0.length : Int)))) t10 ((wr ((↑(0 : Nat) : Int) + (1 : Int)))) ob0_0 ob0_1)) (must (eqI t11 (↑((0 : Nat) + (1 : Nat)) : Int)) (cond ((ltI ((wr (size3 + (↑ob0_1.length : Int)))) (0 : Int))) (none) (A_3 ((wr (size3 + (↑ob0_1.length : Int)))) t10 ((wr ((↑((0 : Nat) + (1 : Nat)) : Int) + (1 : Int)))) ob0_0 ob0_1)))) (Option.bind (zfq N size3) fun rr0 => zbN N N ((↑(2 : Nat) : Int)) (0 : Int) ob0_0 ob0_1 rr0.1)
theorem zje : zeJ = zbO := by
  (repeat (apply funext; intro _))
  simp only [zeJ, zbO, hide_eq, zh9, zmO, zae, zag, zah, zaf, zas, zat, zaS, zaw]
def zcb (N n : Nat) (size3 t10 t11 : Int) (ob0_0 ob0_1 : List Row) : Option (List Row × Unit) :=
  zap (fun A x => zbO N (fun size3 t10 t11 ob0_0 ob0_1 => A (((), (size3, ((), (t10, (t11, ()))))), ((ob0_0, (ob0_1, ())), ()))) x.1.2.1 x.1.2.2.2.1 x.1.2.2.2.2.1 x.2.1.1 x.2.1.2.1) n (((), (size3, ((), (t10, (t11, ()))))), ((ob0_0, (ob0_1, ())), ()))
theorem zjf : zeK = zcb := by
  (repeat (apply funext; intro _))
  simp only [zeK, zcb, zje, zae, zag, zah, zaf, zas, zat, zaS, zaw]
theorem zcj (N n : Nat) (size3 t10 t11 : Int) (ob0_0 ob0_1 : List Row) : zcb N (n + 1) size3 t10 t11 ob0_0 ob0_1 = zbO N (zcb N n) size3 t10 t11 ob0_0 ob0_1 := rfl
def zfs (N : Nat) (slices0 v1 : List Row) : Option (List Row × Unit) :=
  zcb N N (0 : Int) ((↑(List.length [C.ro El.row slices0, C.ro El.row v1]) : Int)) (0 : Int) slices0 v1
theorem zm1 : zfr = zfs := by
  (repeat (apply funext; intro _))
  simp only [zfr, zfs, zjf, zae, zag, zah, zaf, zas, zat, zaS, zaw]
def q113 (N : Nat) : Option (Unit × (Int × List Row × List Row × List Pr × Unit) × Unit) :=
  some (((), ((0 : Int), [], [], [], ()), ()))
theorem zs2 : p113 = q113 := by
  (repeat (apply funext; intro _))
  simp only [p113, q113, zae, zag, zah, zaf, zas, zat, zaS, zaw]
def q114 (N : Nat) (b0 : Int) (s1 v2 : List Row) (v3 : List Pr) (v4 : Stp) : Option ((Int × List Row × List Row × List Pr × Unit) × Int × Int × Unit) :=
  cond (false) (some (((b0, s1, v2, v3, ()), (0 : Int), (1 : Int), ()))) (Option.bind (q192 N (v4) b0) fun rr0 => cond (!eqI rr0.1 (0 : Int)) (some (((b0, s1, v2, v3, ()), (0 : Int), Prod.fst rr0, ()))) (Option.bind (q108 N (v4)) fun rr1 => cond (!eqI (rr1.2.1) (0 : Int)) (some (((b0, s1, v2, v3, ()), (0 : Int), Prod.fst rr1.2, ()))) (cond ((ltI (64 : Int) ((wr ((wr ((↑s1.length : Int) + (↑v2.length : Int))) + (↑rr1.1.length : Int)))))) (some (((b0, s1, v2, v3, ()), (0 : Int), (8 : Int), ()))) (cond ((eqI v4.kind (1 : Int))) (cond ((eqI b0 (200 : Int))) (some (((b0, s1, v2, v3, ()), (0 : Int), (8 : Int), ()))) (some ((((wr (b0 + (1 : Int))), s1, v2, v3, ()), (wr ((wr (b0 + (1 : Int))) - (1 : Int))), (0 : Int), ())))) (cond ((eqI v4.kind (6 : Int))) (cond ((eqI (↑v3.length : Int) (200 : Int))) (some (((b0, s1, v2, v3, ()), (0 : Int), (8 : Int), ()))) (must (leN ((List.length v3 + List.length [Pr.mk v4.v0 v4.v1]) * (16 : Nat)) (140737488355328 : Nat)) (some (((b0, s1, v2, v3 ++ [Pr.mk v4.v0 v4.v1], ()), (0 : Int), (0 : Int), ()))))) (cond ((eqI v4.kind (7 : Int))) (cond ((eqI (↑s1.length : Int) (8 : Int))) (some (((b0, s1, v2, v3, ()), (0 : Int), (8 : Int), ()))) (must (leN ((List.length s1 + List.length rr1.1) * (280 : Nat)) (140737488355328 : Nat)) (some (((b0, s1 ++ Prod.fst rr1, v2, v3, ()), (0 : Int), (0 : Int), ()))))) (must (leN ((List.length v2 + List.length rr1.1) * (280 : Nat)) (140737488355328 : Nat)) (some (((b0, s1, v2 ++ Prod.fst rr1, v3, ()), (0 : Int), (0 : Int), ()))))))))))
theorem zs3 : p114 = q114 := by
  (repeat (apply funext; intro _))
  simp only [p114, q114, hide_eq, zs1, zxv, zae, zag, zah, zaf, zas, zat, zaS, zaw]
def q117 (N : Nat) (b0 : Int) (v1 v2 : List Row) (v3 : List Pr) : Option ((Int × List Row × List Row × List Pr × Unit) × (Int × Int × List Row × List Pr × Unit) × Unit) :=
  cond (false) (some (((b0, v1, v2, v3, ()), ((0 : Int), (0 : Int), [], [], ()), ()))) (Option.bind (zfs N v1 v2) fun rr0 => Option.bind (q199 N v3) fun rr1 => some (((b0, v1, v2, v3, ()), ((↑v1.length : Int), b0, Prod.fst rr0, Prod.fst rr1, ()), ())))
theorem zs4 : p117 = q117 := by
  (repeat (apply funext; intro _))
  simp only [p117, q117, hide_eq, zvz, zm1, zae, zag, zah, zaf, zas, zat, zaS, zaw]
def zgm (N : Nat) (A_1000 : Int -> Int -> Int -> (List Row) -> (List Pr) -> Option (Int × Unit)) (log3 ob0_0 ob0_1 : Int) (ob0_2 : List Row) (ob0_3 : List Pr) : Option (Int × Unit) :=
  cond ((ltI log3 (6 : Int))) (cond ((ltI ((shlI (1 : Int) (UInt64.toNat ((u64I log3))))) (↑ob0_2.length : Int))) (A_1000 ((wr (log3 + (1 : Int)))) ob0_0 ob0_1 ob0_2 ob0_3) (some ((log3, ())))) (some ((log3, ())))
theorem zkW : zgd = zgm := by
  (repeat (apply funext; intro _))
  simp only [zgd, zgm, hide_eq, zae, zag, zah, zaf, zas, zat, zaS, zaw]
def zgn (N n : Nat) (log3 ob0_0 ob0_1 : Int) (ob0_2 : List Row) (ob0_3 : List Pr) : Option (Int × Unit) :=
  zap (fun A x => zgm N (fun log3 ob0_0 ob0_1 ob0_2 ob0_3 => A (((), (log3, ())), ((ob0_0, (ob0_1, (ob0_2, (ob0_3, ())))), ()))) x.1.2.1 x.2.1.1 x.2.1.2.1 x.2.1.2.2.1 x.2.1.2.2.2.1) n (((), (log3, ())), ((ob0_0, (ob0_1, (ob0_2, (ob0_3, ())))), ()))
theorem zkX : zge = zgn := by
  (repeat (apply funext; intro _))
  simp only [zge, zgn, zkW, zae, zag, zah, zaf, zas, zat, zaS, zaw]
def q120 (N : Nat) (c0 v1 : Int) (v2 : List Row) (v3 : List Pr) : Option (Int × Unit) :=
  zgn N N (1 : Int) c0 v1 v2 v3
theorem zxD : p120 = q120 := by
  (repeat (apply funext; intro _))
  simp only [p120, q120, zkX, zae, zag, zah, zaf, zas, zat, zaS, zaw]
def q112 (N : Nat) : Option (Bool × Unit) :=
  Option.bind (q113 N) fun rr0 => Option.bind (q114 N (Prod.fst (rr0.2.1)) (Prod.fst (Prod.snd (rr0.2.1))) (Prod.fst (Prod.snd (Prod.snd (rr0.2.1)))) (Prod.fst (Prod.snd (Prod.snd (Prod.snd (rr0.2.1))))) (Stp.mk (1 : Int) (0 : Int) (0 : Int) (0 : Int) (Fr.zero) (Fr.zero) (Fr.zero) (Fr.zero) (Fr.zero))) fun rr1 => Option.bind (q114 N (rr1.1.1) (Prod.fst (rr1.1.2)) (Prod.fst (Prod.snd (rr1.1.2))) (Prod.fst (Prod.snd (Prod.snd (rr1.1.2)))) (Stp.mk (1 : Int) (0 : Int) (0 : Int) (0 : Int) (Fr.zero) (Fr.zero) (Fr.zero) (Fr.zero) (Fr.zero))) fun rr2 => Option.bind (q114 N (rr2.1.1) (Prod.fst (rr2.1.2)) (Prod.fst (Prod.snd (rr2.1.2))) (Prod.fst (Prod.snd (Prod.snd (rr2.1.2)))) (Stp.mk (3 : Int) (0 : Int) (0 : Int) (0 : Int) (Fr.zero) (Fr.zero) (Fr.zero) (Fr.zero) (Fr.zero))) fun rr3 => Option.bind (q117 N (rr3.1.1) (Prod.fst (rr3.1.2)) (Prod.fst (Prod.snd (rr3.1.2))) (Prod.fst (Prod.snd (Prod.snd (rr3.1.2))))) fun rr4 => cond ((eqI (Prod.fst (rr1.2.2)) (0 : Int))) (cond ((eqI (rr1.2.1) (0 : Int))) (cond ((eqI (Prod.fst (rr2.2.2)) (0 : Int))) (cond ((eqI (rr2.2.1) (1 : Int))) (cond ((eqI (Prod.fst (rr3.2.2)) (0 : Int))) (cond ((eqI (Prod.fst (Prod.snd (rr4.2.1))) (2 : Int))) (cond ((eqI (↑(List.length (Prod.fst (Prod.snd (Prod.snd (rr4.2.1))))) : Int) (1 : Int))) (Option.bind (q120 N (Prod.fst (rr4.2.1)) (Prod.fst (Prod.snd (rr4.2.1))) (Prod.fst (Prod.snd (Prod.snd (rr4.2.1)))) (Prod.fst (Prod.snd (Prod.snd (Prod.snd (rr4.2.1)))))) fun rr5 => cond ((eqI rr5.1 (1 : Int))) (Option.bind (q119 N (Prod.fst (rr4.2.1)) (Prod.fst (Prod.snd (rr4.2.1))) (Prod.fst (Prod.snd (Prod.snd (rr4.2.1)))) (Prod.fst (Prod.snd (Prod.snd (Prod.snd (rr4.2.1)))))) fun rr6 => some (((eqI rr6.1 (0 : Int)), ()))) (some ((false, ())))) (some ((false, ())))) (some ((false, ())))) (some ((false, ())))) (some ((false, ())))) (some ((false, ())))) (some ((false, ())))) (some ((false, ())))
theorem zxE : p112 = q112 := by
  (repeat (apply funext; intro _))
  simp only [p112, q112, hide_eq, zs2, zs3, zs4, zxA, zxD, zae, zag, zah, zaf, zas, zat, zaS, zaw]
def zhl (N : Nat) (A_9 : Int -> Int -> Int -> (List Row) -> (List Pr) -> Int -> Int -> (List Row) -> (List Pr) -> Option (Bool × Unit)) (i6 ob0_0 ob0_1 : Int) (ob0_2 : List Row) (ob0_3 : List Pr) (ob1_0 ob1_1 : Int) (ob1_2 : List Row) (ob1_3 : List Pr) : Option (Bool × Unit) :=
  cond ((ltI i6 (↑ob0_3.length : Int))) (must (leI (0 : Int) i6 && ltI i6 (↑ob0_3.length : Int)) (must (leI (0 : Int) i6 && ltI i6 (↑ob1_3.length : Int)) (cond (!eqL El.int [Pr.x (List.getD ob0_3 i6.toNat (Pr.mk (0 : Int) (0 : Int))), Pr.y (List.getD ob0_3 i6.toNat (Pr.mk (0 : Int) (0 : Int)))] [Pr.x (List.getD ob1_3 i6.toNat (Pr.mk (0 : Int) (0 : Int))), Pr.y (List.getD ob1_3 i6.toNat (Pr.mk (0 : Int) (0 : Int)))]) (some ((false, ()))) (A_9 ((wr (i6 + (1 : Int)))) ob0_0 ob0_1 ob0_2 ob0_3 ob1_0 ob1_1 ob1_2 ob1_3)))) (some ((true, ())))
theorem zr8 : zpg = zhl := by
  (repeat (apply funext; intro _))
  simp only [zpg, zhl, hide_eq, zae, zag, zah, zaf, zas, zat, zaS, zaw]
def zhm (N n : Nat) (i6 ob0_0 ob0_1 : Int) (ob0_2 : List Row) (ob0_3 : List Pr) (ob1_0 ob1_1 : Int) (ob1_2 : List Row) (ob1_3 : List Pr) : Option (Bool × Unit) :=
  zap (fun A x => zhl N (fun i6 ob0_0 ob0_1 ob0_2 ob0_3 ob1_0 ob1_1 ob1_2 ob1_3 => A (((), ((), (i6, ()))), ((ob0_0, (ob0_1, (ob0_2, (ob0_3, ())))), ((ob1_0, (ob1_1, (ob1_2, (ob1_3, ())))), ())))) x.1.2.2.1 x.2.1.1 x.2.1.2.1 x.2.1.2.2.1 x.2.1.2.2.2.1 x.2.2.1.1 x.2.2.1.2.1 x.2.2.1.2.2.1 x.2.2.1.2.2.2.1) n (((), ((), (i6, ()))), ((ob0_0, (ob0_1, (ob0_2, (ob0_3, ())))), ((ob1_0, (ob1_1, (ob1_2, (ob1_3, ())))), ())))
theorem zr9 : zph = zhm := by
  (repeat (apply funext; intro _))
  simp only [zph, zhm, zr8, zae, zag, zah, zaf, zas, zat, zaS, zaw]
theorem zgo (N n : Nat) (i6 ob0_0 ob0_1 : Int) (ob0_2 : List Row) (ob0_3 : List Pr) (ob1_0 ob1_1 : Int) (ob1_2 : List Row) (ob1_3 : List Pr) : zhm N (n + 1) i6 ob0_0 ob0_1 ob0_2 ob0_3 ob1_0 ob1_1 ob1_2 ob1_3 = zhl N (zhm N n) i6 ob0_0 ob0_1 ob0_2 ob0_3 ob1_0 ob1_1 ob1_2 ob1_3 := rfl
def zhn (N : Nat) (A_4 : Int -> Int -> Int -> (List Row) -> (List Pr) -> Int -> Int -> (List Row) -> (List Pr) -> Option (Bool × Unit)) (i5 ob0_0 ob0_1 : Int) (ob0_2 : List Row) (ob0_3 : List Pr) (ob1_0 ob1_1 : Int) (ob1_2 : List Row) (ob1_3 : List Pr) : Option (Bool × Unit) :=
  cond ((ltI i5 (↑ob0_2.length : Int))) (must (leI (0 : Int) i5 && ltI i5 (↑ob0_2.length : Int)) (must (leI (0 : Int) i5 && ltI i5 (↑ob1_2.length : Int)) (cond (!(zaS (List.getD ob0_2 i5.toNat zrow) (List.getD ob1_2 i5.toNat zrow))) (some ((false, ()))) (A_4 ((wr (i5 + (1 : Int)))) ob0_0 ob0_1 ob0_2 ob0_3 ob1_0 ob1_1 ob1_2 ob1_3)))) (zhm N N (0 : Int) ob0_0 ob0_1 ob0_2 ob0_3 ob1_0 ob1_1 ob1_2 ob1_3)
theorem zsa : zpi = zhn := by
  (repeat (apply funext; intro _))
  simp only [zpi, zhn, hide_eq, zr9, zae, zag, zah, zaf, zas, zat, zaS, zaw]
def zho (N n : Nat) (i5 ob0_0 ob0_1 : Int) (ob0_2 : List Row) (ob0_3 : List Pr) (ob1_0 ob1_1 : Int) (ob1_2 : List Row) (ob1_3 : List Pr) : Option (Bool × Unit) :=
  zap (fun A x => zhn N (fun i5 ob0_0 ob0_1 ob0_2 ob0_3 ob1_0 ob1_1 ob1_2 ob1_3 => A (((), ((), (i5, ()))), ((ob0_0, (ob0_1, (ob0_2, (ob0_3, ())))), ((ob1_0, (ob1_1, (ob1_2, (ob1_3, ())))), ())))) x.1.2.2.1 x.2.1.1 x.2.1.2.1 x.2.1.2.2.1 x.2.1.2.2.2.1 x.2.2.1.1 x.2.2.1.2.1 x.2.2.1.2.2.1 x.2.2.1.2.2.2.1) n (((), ((), (i5, ()))), ((ob0_0, (ob0_1, (ob0_2, (ob0_3, ())))), ((ob1_0, (ob1_1, (ob1_2, (ob1_3, ())))), ())))
theorem zsb : zpj = zho := by
  (repeat (apply funext; intro _))
  simp only [zpj, zho, zsa, zae, zag, zah, zaf, zas, zat, zaS, zaw]
theorem zgp (N n : Nat) (i5 ob0_0 ob0_1 : Int) (ob0_2 : List Row) (ob0_3 : List Pr) (ob1_0 ob1_1 : Int) (ob1_2 : List Row) (ob1_3 : List Pr) : zho N (n + 1) i5 ob0_0 ob0_1 ob0_2 ob0_3 ob1_0 ob1_1 ob1_2 ob1_3 = zhn N (zho N n) i5 ob0_0 ob0_1 ob0_2 ob0_3 ob1_0 ob1_1 ob1_2 ob1_3 := rfl
def q116 (N : Nat) (a0 b1 : Int) (v2 : List Row) (v3 : List Pr) (v4 v5 : Int) (v6 : List Row) (v7 : List Pr) : Option (Bool × Unit) :=
  cond (!eqI a0 v4) (some ((false, ()))) (cond (!eqI b1 v5) (some ((false, ()))) (cond (!eqI (↑v2.length : Int) (↑v6.length : Int)) (some ((false, ()))) (cond (!eqI (↑v3.length : Int) (↑v7.length : Int)) (some ((false, ()))) (zho N N (0 : Int) a0 b1 v2 v3 v4 v5 v6 v7))))
theorem zxF : p116 = q116 := by
  (repeat (apply funext; intro _))
  simp only [p116, q116, hide_eq, zsb, zae, zag, zah, zaf, zas, zat, zaS, zaw]
end
end Go.Proofs.Ytgimohchocjgcaa.V
