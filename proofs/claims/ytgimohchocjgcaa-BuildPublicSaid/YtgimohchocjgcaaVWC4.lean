import Derived.Test.YtgimohchocjgcaaVBP2
import Derived.Test.YtgimohchocjgcaaVPA3
import Derived.KernelRfl
set_option linter.unusedVariables false
set_option linter.unusedSimpArgs false
namespace Go.Proofs.Ytgimohchocjgcaa.V
section
def zmi (N : Nat) (A_2 : (List Row) -> Int -> Int -> Option (Bool × Unit)) (A_5 : (List Row) -> Int -> Int -> (List Fr) -> Int -> Option (Bool × Unit)) (t8 : List Row) (t9 t10 : Int) (t15 : List Fr) (t16 : Int) : Option (Bool × Unit) :=
  cond ((ltI t16 (8 : Int))) (must (leI (0 : Int) t16 && (ltI t16 (↑(8 : Nat) : Int) && ltI t16 (↑t15.length : Int))) (Option.bind (q79 N ((List.getD t15 t16.toNat (Fr.zero)))) fun r0 => cond (!r0.1) (some ((false, ()))) (A_5 t8 t9 t10 t15 ((wr (t16 + (1 : Int))))))) (A_2 t8 t9 ((wr (t10 + (1 : Int)))))
theorem znL : zlN = zmi := by
  (repeat (apply funext; intro _))
  simp only [zlN, zmi, hide_eq, zri, zaj, zal, zam, zak]
def zmj (N : Nat) (A_2 : (List Row) -> Int -> Int -> Option (Bool × Unit)) (n : Nat) (t8 : List Row) (t9 t10 : Int) (t15 : List Fr) (t16 : Int) : Option (Bool × Unit) :=
  zao (fun A x => zmi N A_2 (fun t8 t9 t10 t15 t16 => A ((t8, (t9, (t10, (t15, (t16, ()))))), ())) x.1.1 x.1.2.1 x.1.2.2.1 x.1.2.2.2.1 x.1.2.2.2.2.1) n ((t8, (t9, (t10, (t15, (t16, ()))))), ())
theorem znM : zlO = zmj := by
  (repeat (apply funext; intro _))
  simp only [zlO, zmj, znL, zaj, zal, zam, zak]
def zmk (N : Nat) (A_2 : (List Row) -> Int -> Int -> Option (Bool × Unit)) (t8 : List Row) (t9 t10 : Int) : Option (Bool × Unit) :=
  cond ((ltI t10 t9)) (must (leI (0 : Int) t10 && ltI t10 (↑t8.length : Int)) (zmj N A_2 N t8 t9 t10 ([(Row.q0 (List.getD t8 t10.toNat zrow)), (Row.q1 (List.getD t8 t10.toNat zrow)), (Row.q2 (List.getD t8 t10.toNat zrow)), (Row.q3 (List.getD t8 t10.toNat zrow)), (Row.q4 (List.getD t8 t10.toNat zrow)), (Row.q5 (List.getD t8 t10.toNat zrow)), (Row.q6 (List.getD t8 t10.toNat zrow)), (Row.q7 (List.getD t8 t10.toNat zrow))]) (0 : Int))) (some ((true, ())))
theorem znN : zlP = zmk := by
  (repeat (apply funext; intro _))
  simp only [zlP, zmk, hide_eq, znM, zaj, zal, zam, zak]
def zml (N n : Nat) (t8 : List Row) (t9 t10 : Int) : Option (Bool × Unit) :=
  zao (fun A x => zmk N (fun t8 t9 t10 => A ((t8, (t9, (t10, ()))), ())) x.1.1 x.1.2.1 x.1.2.2.1) n ((t8, (t9, (t10, ()))), ())
theorem znO : zlQ = zml := by
  (repeat (apply funext; intro _))
  simp only [zlQ, zml, znN, zaj, zal, zam, zak]
def q200 (N : Nat) (c0 v1 : Int) (v2 : List Row) (v3 : List Pr) : Option (Bool × Unit) :=
  zml N N v2 ((↑v2.length : Int)) (0 : Int)
theorem zrr : p200 = q200 := by
  (repeat (apply funext; intro _))
  simp only [p200, q200, znO, zaj, zal, zam, zak]
def ziQ (N : Nat) (A_12 : (List Pr) -> Int -> Int -> Int -> Int -> (List Row) -> (List Pr) -> Option (Bool × Unit)) (t28 : List Pr) (t29 t30 ob0_0 ob0_1 : Int) (ob0_2 : List Row) (ob0_3 : List Pr) : Option (Bool × Unit) :=
  cond ((ltI t30 t29)) (must (leI (0 : Int) t30 && ltI t30 (↑t28.length : Int)) (cond ((ltI (mnI (Pr.x (List.getD t28 t30.toNat (Pr.mk (0 : Int) (0 : Int)))) (Pr.y (List.getD t28 t30.toNat (Pr.mk (0 : Int) (0 : Int))))) (0 : Int))) (some ((false, ()))) (cond ((leI ob0_1 (mxI (Pr.x (List.getD t28 t30.toNat (Pr.mk (0 : Int) (0 : Int)))) (Pr.y (List.getD t28 t30.toNat (Pr.mk (0 : Int) (0 : Int))))))) (some ((false, ()))) (A_12 t28 t29 ((wr (t30 + (1 : Int)))) ob0_0 ob0_1 ob0_2 ob0_3)))) (some ((true, ())))
theorem zmm : ziN = ziQ := by
  (repeat (apply funext; intro _))
  simp only [ziN, ziQ, hide_eq, zaj, zal, zam, zak]
def ziR (N n : Nat) (t28 : List Pr) (t29 t30 ob0_0 ob0_1 : Int) (ob0_2 : List Row) (ob0_3 : List Pr) : Option (Bool × Unit) :=
  zao (fun A x => ziQ N (fun t28 t29 t30 ob0_0 ob0_1 ob0_2 ob0_3 => A (((), (t28, (t29, (t30, ())))), ((ob0_0, (ob0_1, (ob0_2, (ob0_3, ())))), ()))) x.1.2.1 x.1.2.2.1 x.1.2.2.2.1 x.2.1.1 x.2.1.2.1 x.2.1.2.2.1 x.2.1.2.2.2.1) n (((), (t28, (t29, (t30, ())))), ((ob0_0, (ob0_1, (ob0_2, (ob0_3, ())))), ()))
theorem zmn : ziO = ziR := by
  (repeat (apply funext; intro _))
  simp only [ziO, ziR, zmm, zaj, zal, zam, zak]
def zmo (N : Nat) (A_2 : (List Row) -> Int -> Int -> Int -> Int -> (List Row) -> (List Pr) -> Option (Bool × Unit)) (A_5 : (List Row) -> Int -> Int -> (List Int) -> Int -> Int -> Int -> (List Row) -> (List Pr) -> Option (Bool × Unit)) (t10 : List Row) (t11 t12 : Int) (t17 : List Int) (t18 ob0_0 ob0_1 : Int) (ob0_2 : List Row) (ob0_3 : List Pr) : Option (Bool × Unit) :=
  cond ((ltI t18 (3 : Int))) (must (leI (0 : Int) t18 && (ltI t18 (↑(3 : Nat) : Int) && ltI t18 (↑t17.length : Int))) (cond ((leI ob0_1 (List.getD t17 t18.toNat (0 : Int)))) (some ((false, ()))) (A_5 t10 t11 t12 t17 ((wr (t18 + (1 : Int)))) ob0_0 ob0_1 ob0_2 ob0_3))) (A_2 t10 t11 ((wr (t12 + (1 : Int)))) ob0_0 ob0_1 ob0_2 ob0_3)
theorem znP : zlS = zmo := by
  (repeat (apply funext; intro _))
  simp only [zlS, zmo, hide_eq, zaj, zal, zam, zak]
def zmp (N : Nat) (A_2 : (List Row) -> Int -> Int -> Int -> Int -> (List Row) -> (List Pr) -> Option (Bool × Unit)) (n : Nat) (t10 : List Row) (t11 t12 : Int) (t17 : List Int) (t18 ob0_0 ob0_1 : Int) (ob0_2 : List Row) (ob0_3 : List Pr) : Option (Bool × Unit) :=
  zao (fun A x => zmo N A_2 (fun t10 t11 t12 t17 t18 ob0_0 ob0_1 ob0_2 ob0_3 => A (((), (t10, (t11, (t12, (t17, (t18, ())))))), ((ob0_0, (ob0_1, (ob0_2, (ob0_3, ())))), ()))) x.1.2.1 x.1.2.2.1 x.1.2.2.2.1 x.1.2.2.2.2.1 x.1.2.2.2.2.2.1 x.2.1.1 x.2.1.2.1 x.2.1.2.2.1 x.2.1.2.2.2.1) n (((), (t10, (t11, (t12, (t17, (t18, ())))))), ((ob0_0, (ob0_1, (ob0_2, (ob0_3, ())))), ()))
theorem znQ : zlT = zmp := by
  (repeat (apply funext; intro _))
  simp only [zlT, zmp, znP, zaj, zal, zam, zak]
def zmq (N : Nat) (A_2 : (List Row) -> Int -> Int -> Int -> Int -> (List Row) -> (List Pr) -> Option (Bool × Unit)) (t10 : List Row) (t11 t12 ob0_0 ob0_1 : Int) (ob0_2 : List Row) (ob0_3 : List Pr) : Option (Bool × Unit) :=
  cond ((ltI t12 t11)) (must (leI (0 : Int) t12 && ltI t12 (↑t10.length : Int)) (zmp N A_2 N t10 t11 t12 ([Row.w0 (List.getD t10 t12.toNat zrow), Row.w1 (List.getD t10 t12.toNat zrow), Row.w2 (List.getD t10 t12.toNat zrow)]) (0 : Int) ob0_0 ob0_1 ob0_2 ob0_3)) (ziR N N ob0_3 ((↑ob0_3.length : Int)) (0 : Int) ob0_0 ob0_1 ob0_2 ob0_3)
theorem znR : zlU = zmq := by
  (repeat (apply funext; intro _))
  simp only [zlU, zmq, hide_eq, zmn, znQ, zaj, zal, zam, zak]
def zmr (N n : Nat) (t10 : List Row) (t11 t12 ob0_0 ob0_1 : Int) (ob0_2 : List Row) (ob0_3 : List Pr) : Option (Bool × Unit) :=
  zao (fun A x => zmq N (fun t10 t11 t12 ob0_0 ob0_1 ob0_2 ob0_3 => A (((), (t10, (t11, (t12, ())))), ((ob0_0, (ob0_1, (ob0_2, (ob0_3, ())))), ()))) x.1.2.1 x.1.2.2.1 x.1.2.2.2.1 x.2.1.1 x.2.1.2.1 x.2.1.2.2.1 x.2.1.2.2.2.1) n (((), (t10, (t11, (t12, ())))), ((ob0_0, (ob0_1, (ob0_2, (ob0_3, ())))), ()))
theorem znS : zlV = zmr := by
  (repeat (apply funext; intro _))
  simp only [zlV, zmr, znR, zaj, zal, zam, zak]
def q201 (N : Nat) (c0 v1 : Int) (v2 : List Row) (v3 : List Pr) : Option (Bool × Unit) :=
  zmr N N v2 ((↑v2.length : Int)) (0 : Int) c0 v1 v2 v3
theorem zrs : p201 = q201 := by
  (repeat (apply funext; intro _))
  simp only [p201, q201, znS, zaj, zal, zam, zak]
def q220 (N : Nat) (r0 : Row) : Option (Bool × Unit) :=
  Option.bind (q108 N (Stp.mk (7 : Int) r0.w0 (0 : Int) (0 : Int) (Fr.zero) (Fr.zero) (Fr.zero) (Fr.zero) (Fr.zero))) fun rr0 => cond ((leI (0 : Int) r0.w0)) (must (ltI (0 : Int) (↑rr0.1.length : Int)) (some (((zbY r0 (List.getD rr0.1 (0 : Nat) zrow)), ())))) (some ((false, ())))
theorem zrt : p220 = q220 := by
  (repeat (apply funext; intro _))
  simp only [p220, q220, hide_eq, zoA, zaj, zal, zam, zak]
def zms (N : Nat) (A_2 : (List Row) -> Int -> Int -> Int -> Int -> (List Row) -> (List Pr) -> Option (Bool × Unit)) (t6 : List Row) (t7 t8 ob0_0 ob0_1 : Int) (ob0_2 : List Row) (ob0_3 : List Pr) : Option (Bool × Unit) :=
  cond ((ltI t8 t7)) (must (leI (0 : Int) t8 && ltI t8 (↑t6.length : Int)) (cond ((ltI t8 ob0_0)) (Option.bind (q220 N (Row.mk ((Row.q0 (List.getD t6 t8.toNat zrow))) ((Row.q1 (List.getD t6 t8.toNat zrow))) ((Row.q2 (List.getD t6 t8.toNat zrow))) ((Row.q3 (List.getD t6 t8.toNat zrow))) ((Row.q4 (List.getD t6 t8.toNat zrow))) ((Row.q5 (List.getD t6 t8.toNat zrow))) ((Row.q6 (List.getD t6 t8.toNat zrow))) ((Row.q7 (List.getD t6 t8.toNat zrow))) (Row.w0 (List.getD t6 t8.toNat zrow)) (Row.w1 (List.getD t6 t8.toNat zrow)) (Row.w2 (List.getD t6 t8.toNat zrow)))) fun r0 => cond (!r0.1) (some ((false, ()))) (cond ((ltI (mnI (mnI (Row.w0 (List.getD t6 t8.toNat zrow)) (Row.w1 (List.getD t6 t8.toNat zrow))) (Row.w2 (List.getD t6 t8.toNat zrow))) (-1 : Int))) (some ((false, ()))) (A_2 t6 t7 ((wr (t8 + (1 : Int)))) ob0_0 ob0_1 ob0_2 ob0_3))) (cond ((ltI (mnI (mnI (Row.w0 (List.getD t6 t8.toNat zrow)) (Row.w1 (List.getD t6 t8.toNat zrow))) (Row.w2 (List.getD t6 t8.toNat zrow))) (-1 : Int))) (some ((false, ()))) (A_2 t6 t7 ((wr (t8 + (1 : Int)))) ob0_0 ob0_1 ob0_2 ob0_3)))) (some ((true, ())))
theorem znT : zlY = zms := by
  (repeat (apply funext; intro _))
  simp only [zlY, zms, hide_eq, zrt, zaj, zal, zam, zak]
def zmt (N n : Nat) (t6 : List Row) (t7 t8 ob0_0 ob0_1 : Int) (ob0_2 : List Row) (ob0_3 : List Pr) : Option (Bool × Unit) :=
  zao (fun A x => zms N (fun t6 t7 t8 ob0_0 ob0_1 ob0_2 ob0_3 => A (((), (t6, (t7, (t8, ())))), ((ob0_0, (ob0_1, (ob0_2, (ob0_3, ())))), ()))) x.1.2.1 x.1.2.2.1 x.1.2.2.2.1 x.2.1.1 x.2.1.2.1 x.2.1.2.2.1 x.2.1.2.2.2.1) n (((), (t6, (t7, (t8, ())))), ((ob0_0, (ob0_1, (ob0_2, (ob0_3, ())))), ()))
theorem znU : zlZ = zmt := by
  (repeat (apply funext; intro _))
  simp only [zlZ, zmt, znT, zaj, zal, zam, zak]
def q202 (N : Nat) (c0 v1 : Int) (v2 : List Row) (v3 : List Pr) : Option (Bool × Unit) :=
  zmt N N v2 ((↑v2.length : Int)) (0 : Int) c0 v1 v2 v3
theorem zru : p202 = q202 := by
  (repeat (apply funext; intro _))
  simp only [p202, q202, znU, zaj, zal, zam, zak]
def q119 (N : Nat) (c0 v1 : Int) (v2 : List Row) (v3 : List Pr) : Option (Int × Unit) :=
  cond ((ltI (8 : Int) c0)) (cond ((ltI (8 : Int) c0)) (some (((8 : Int), ()))) (cond ((ltI c0 (0 : Int))) (cond ((ltI c0 (0 : Int))) (some (((1 : Int), ()))) (Option.bind (q200 N c0 v1 v2 v3) fun r33 => cond (!r33.1) (some (((4 : Int), ()))) (Option.bind (q201 N c0 v1 v2 v3) fun r34 => cond (!r34.1) (some (((10 : Int), ()))) (Option.bind (q202 N c0 v1 v2 v3) fun r35 => cond (!r35.1) (some (((3 : Int), ()))) (some (((0 : Int), ()))))))) (cond ((ltI v1 (0 : Int))) (cond ((ltI v1 (0 : Int))) (some (((1 : Int), ()))) (Option.bind (q200 N c0 v1 v2 v3) fun r30 => cond (!r30.1) (some (((4 : Int), ()))) (Option.bind (q201 N c0 v1 v2 v3) fun r31 => cond (!r31.1) (some (((10 : Int), ()))) (Option.bind (q202 N c0 v1 v2 v3) fun r32 => cond (!r32.1) (some (((3 : Int), ()))) (some (((0 : Int), ()))))))) (cond ((ltI (↑v2.length : Int) c0)) (some (((1 : Int), ()))) (Option.bind (q200 N c0 v1 v2 v3) fun r27 => cond (!r27.1) (some (((4 : Int), ()))) (Option.bind (q201 N c0 v1 v2 v3) fun r28 => cond (!r28.1) (some (((10 : Int), ()))) (Option.bind (q202 N c0 v1 v2 v3) fun r29 => cond (!r29.1) (some (((3 : Int), ()))) (some (((0 : Int), ())))))))))) (cond ((ltI (200 : Int) v1)) (cond ((ltI (200 : Int) v1)) (some (((8 : Int), ()))) (cond ((ltI c0 (0 : Int))) (cond ((ltI c0 (0 : Int))) (some (((1 : Int), ()))) (Option.bind (q200 N c0 v1 v2 v3) fun r24 => cond (!r24.1) (some (((4 : Int), ()))) (Option.bind (q201 N c0 v1 v2 v3) fun r25 => cond (!r25.1) (some (((10 : Int), ()))) (Option.bind (q202 N c0 v1 v2 v3) fun r26 => cond (!r26.1) (some (((3 : Int), ()))) (some (((0 : Int), ()))))))) (cond ((ltI v1 (0 : Int))) (cond ((ltI v1 (0 : Int))) (some (((1 : Int), ()))) (Option.bind (q200 N c0 v1 v2 v3) fun r21 => cond (!r21.1) (some (((4 : Int), ()))) (Option.bind (q201 N c0 v1 v2 v3) fun r22 => cond (!r22.1) (some (((10 : Int), ()))) (Option.bind (q202 N c0 v1 v2 v3) fun r23 => cond (!r23.1) (some (((3 : Int), ()))) (some (((0 : Int), ()))))))) (cond ((ltI (↑v2.length : Int) c0)) (some (((1 : Int), ()))) (Option.bind (q200 N c0 v1 v2 v3) fun r18 => cond (!r18.1) (some (((4 : Int), ()))) (Option.bind (q201 N c0 v1 v2 v3) fun r19 => cond (!r19.1) (some (((10 : Int), ()))) (Option.bind (q202 N c0 v1 v2 v3) fun r20 => cond (!r20.1) (some (((3 : Int), ()))) (some (((0 : Int), ())))))))))) (cond ((ltI (64 : Int) (↑v2.length : Int))) (cond ((ltI (64 : Int) (↑v2.length : Int))) (some (((8 : Int), ()))) (cond ((ltI c0 (0 : Int))) (cond ((ltI c0 (0 : Int))) (some (((1 : Int), ()))) (Option.bind (q200 N c0 v1 v2 v3) fun r15 => cond (!r15.1) (some (((4 : Int), ()))) (Option.bind (q201 N c0 v1 v2 v3) fun r16 => cond (!r16.1) (some (((10 : Int), ()))) (Option.bind (q202 N c0 v1 v2 v3) fun r17 => cond (!r17.1) (some (((3 : Int), ()))) (some (((0 : Int), ()))))))) (cond ((ltI v1 (0 : Int))) (cond ((ltI v1 (0 : Int))) (some (((1 : Int), ()))) (Option.bind (q200 N c0 v1 v2 v3) fun r12 => cond (!r12.1) (some (((4 : Int), ()))) (Option.bind (q201 N c0 v1 v2 v3) fun r13 => cond (!r13.1) (some (((10 : Int), ()))) (Option.bind (q202 N c0 v1 v2 v3) fun r14 => cond (!r14.1) (some (((3 : Int), ()))) (some (((0 : Int), ()))))))) (cond ((ltI (↑v2.length : Int) c0)) (some (((1 : Int), ()))) (Option.bind (q200 N c0 v1 v2 v3) fun r9 => cond (!r9.1) (some (((4 : Int), ()))) (Option.bind (q201 N c0 v1 v2 v3) fun r10 => cond (!r10.1) (some (((10 : Int), ()))) (Option.bind (q202 N c0 v1 v2 v3) fun r11 => cond (!r11.1) (some (((3 : Int), ()))) (some (((0 : Int), ())))))))))) (cond ((ltI (200 : Int) (↑v3.length : Int))) (some (((8 : Int), ()))) (cond ((ltI c0 (0 : Int))) (cond ((ltI c0 (0 : Int))) (some (((1 : Int), ()))) (Option.bind (q200 N c0 v1 v2 v3) fun r6 => cond (!r6.1) (some (((4 : Int), ()))) (Option.bind (q201 N c0 v1 v2 v3) fun r7 => cond (!r7.1) (some (((10 : Int), ()))) (Option.bind (q202 N c0 v1 v2 v3) fun r8 => cond (!r8.1) (some (((3 : Int), ()))) (some (((0 : Int), ()))))))) (cond ((ltI v1 (0 : Int))) (cond ((ltI v1 (0 : Int))) (some (((1 : Int), ()))) (Option.bind (q200 N c0 v1 v2 v3) fun r3 => cond (!r3.1) (some (((4 : Int), ()))) (Option.bind (q201 N c0 v1 v2 v3) fun r4 => cond (!r4.1) (some (((10 : Int), ()))) (Option.bind (q202 N c0 v1 v2 v3) fun r5 => cond (!r5.1) (some (((3 : Int), ()))) (some (((0 : Int), ()))))))) (cond ((ltI (↑v2.length : Int) c0)) (some (((1 : Int), ()))) (Option.bind (q200 N c0 v1 v2 v3) fun r0 => cond (!r0.1) (some (((4 : Int), ()))) (Option.bind (q201 N c0 v1 v2 v3) fun r1 => cond (!r1.1) (some (((10 : Int), ()))) (Option.bind (q202 N c0 v1 v2 v3) fun r2 => cond (!r2.1) (some (((3 : Int), ()))) (some (((0 : Int), ()))))))))))))
theorem zrv : p119 = q119 := by
  (repeat (apply funext; intro _))
  simp only [p119, q119, hide_eq, zrr, zrs, zru, zaj, zal, zam, zak]
end
section
def smI : List Int -> Nat
  | [] => 0
  | x :: l => x.toNat + smI l
inductive Alike2 (S : List Pr) : Int -> Int -> Prop
  | refl (a : Int) : Alike2 S a a
  | pair {p : Pr} : p ∈ S -> Alike2 S p.x p.y
  | symm {a b : Int} : Alike2 S a b -> Alike2 S b a
  | trans {a b c : Int} : Alike2 S a b -> Alike2 S b c -> Alike2 S a c
def zpL (S : List Pr) (V : Nat) : Prop := ∀ p ∈ S, (0 <= p.x /\ p.x < (V : Int)) /\ 0 <= p.y /\ p.y < (V : Int)
structure GoodC (S : List Pr) (V : Nat) (l : List Int) : Prop where
  len : l.length = V
  nn : ∀ i : Nat, i < V -> 0 <= l.getD i 0
  le : ∀ i : Nat, i < V -> l.getD i 0 <= (i : Int)
  al : ∀ i : Nat, i < V -> Alike2 S (i : Int) (l.getD i 0)
end
section
def Turn (ag ag' : Bool) (l l' : List Int) : Prop := (ag' = ag /\ l' = l) \/ (ag' = true /\ smI l' < smI l)
theorem Turn.le {ag ag' : Bool} {l l' : List Int} (h : Turn ag ag' l l') : smI l' <= smI l := by
  rcases h with ⟨_, rfl⟩ | ⟨_, h⟩
  . exact Nat.le_refl _
  . omega
theorem Turn.trans {a b c : Bool} {l m k : List Int} (h1 : Turn a b l m) (h2 : Turn b c m k) : Turn a c l k := by
  rcases h2 with ⟨rfl, rfl⟩ | ⟨h, hlt⟩
  . exact h1
  . exact .inr ⟨h, by have := h1.le; omega⟩
end
section
theorem zaA (r : Row) : Row.mk r.q0 r.q1 r.q2 r.q3 r.q4 r.q5 r.q6 r.q7 r.w0 r.w1 r.w2 = r := rfl
theorem zaB (s : Stp) : Stp.mk s.kind s.v0 s.v1 s.v2 s.q0 s.q1 s.q2 s.q3 s.q4 = s := rfl
theorem zaM : Row.mk Fr.zero Fr.zero Fr.zero Fr.zero Fr.zero Fr.zero Fr.zero Fr.zero 0 0 0 = zrow := rfl
end
section
def za6 (N : Nat) (A_11 : Int -> Int -> (List Row) -> (List Row) -> (List Row) -> Option (List Row × Unit)) (t26 t27 : Int) (ob0_0 ob0_1 newslice6o : List Row) : Option (List Row × Unit) :=
  cond ((ltI t27 t26)) (cond (eqI t27 (↑(0 : Nat) : Int)) (must (leN ((List.length newslice6o + List.length ob0_0) * (280 : Nat)) (140737488355328 : Nat)) (A_11 t26 ((wr ((↑(0 : Nat) : Int) + (1 : Int)))) ob0_0 ob0_1 (newslice6o ++ ob0_0))) (must (eqI t27 (↑((0 : Nat) + (1 : Nat)) : Int)) (must (leN ((List.length newslice6o + List.length ob0_1) * (280 : Nat)) (140737488355328 : Nat)) (A_11 t26 ((wr ((↑((0 : Nat) + (1 : Nat)) : Int) + (1 : Int)))) ob0_0 ob0_1 (newslice6o ++ ob0_1))))) (some ((newslice6o, ())))
theorem zgM : zdi = za6 := by
  (repeat (apply funext; intro _))
  simp only [zdi, za6, hide_eq, zaj, zal, zam, zak, zaA, zaB, zbY, zaM]
def zbo (N n : Nat) (t26 t27 : Int) (ob0_0 ob0_1 newslice6o : List Row) : Option (List Row × Unit) :=
  zao (fun A x => za6 N (fun t26 t27 ob0_0 ob0_1 newslice6o => A (((), ((), (t26, (t27, ())))), ((ob0_0, (ob0_1, ())), (newslice6o, ())))) x.1.2.2.1 x.1.2.2.2.1 x.2.1.1 x.2.1.2.1 x.2.2.1) n (((), ((), (t26, (t27, ())))), ((ob0_0, (ob0_1, ())), (newslice6o, ())))
theorem zgN : zdj = zbo := by
  (repeat (apply funext; intro _))
  simp only [zdj, zbo, zgM, zaj, zal, zam, zak, zaA, zaB, zbY, zaM]
theorem zbF (N n : Nat) (t26 t27 : Int) (ob0_0 ob0_1 newslice6o : List Row) : zbo N (n + 1) t26 t27 ob0_0 ob0_1 newslice6o = za6 N (zbo N n) t26 t27 ob0_0 ob0_1 newslice6o := rfl
def zbp (N : Nat) (A_3 : Int -> Int -> Int -> (List Row) -> (List Row) -> Option (List Row × Unit)) (size3 t10 t11 : Int) (ob0_0 ob0_1 : List Row) : Option (List Row × Unit) :=
  cond ((ltI t11 t10)) (cond (eqI t11 (↑(0 : Nat) : Int)) (cond ((ltI ((wr (size3 + (↑ob0_0.length : Int)))) (0 : Int))) (none) (A_3 ((wr (size3 + (↑ob0_0.length : Int)))) t10 ((wr ((↑(0 : Nat) : Int) + (1 : Int)))) ob0_0 ob0_1)) (must (eqI t11 (↑((0 : Nat) + (1 : Nat)) : Int)) (cond ((ltI ((wr (size3 + (↑ob0_1.length : Int)))) (0 : Int))) (none) (A_3 ((wr (size3 + (↑ob0_1.length : Int)))) t10 ((wr ((↑((0 : Nat) + (1 : Nat)) : Int) + (1 : Int)))) ob0_0 ob0_1)))) (Option.bind (zez N size3) fun rr0 => zbo N N ((↑(2 : Nat) : Int)) (0 : Int) ob0_0 ob0_1 rr0.1)
theorem zhL : zd6 = zbp := by
  (repeat (apply funext; intro _))
  simp only [zd6, zbp, hide_eq, zgN, zkj, zaj, zal, zam, zak, zaA, zaB, zbY, zaM]
def zbO (N n : Nat) (size3 t10 t11 : Int) (ob0_0 ob0_1 : List Row) : Option (List Row × Unit) :=
  zao (fun A x => zbp N (fun size3 t10 t11 ob0_0 ob0_1 => A (((), (size3, ((), (t10, (t11, ()))))), ((ob0_0, (ob0_1, ())), ()))) x.1.2.1 x.1.2.2.2.1 x.1.2.2.2.2.1 x.2.1.1 x.2.1.2.1) n (((), (size3, ((), (t10, (t11, ()))))), ((ob0_0, (ob0_1, ())), ()))
theorem zhM : zd7 = zbO := by
  (repeat (apply funext; intro _))
  simp only [zd7, zbO, zhL, zaj, zal, zam, zak, zaA, zaB, zbY, zaM]
theorem zbX (N n : Nat) (size3 t10 t11 : Int) (ob0_0 ob0_1 : List Row) : zbO N (n + 1) size3 t10 t11 ob0_0 ob0_1 = zbp N (zbO N n) size3 t10 t11 ob0_0 ob0_1 := rfl
def zeB (N : Nat) (slices0 v1 : List Row) : Option (List Row × Unit) :=
  zbO N N (0 : Int) ((↑(List.length [C.ro El.row slices0, C.ro El.row v1]) : Int)) (0 : Int) slices0 v1
theorem zko : zeA = zeB := by
  (repeat (apply funext; intro _))
  simp only [zeA, zeB, zhM, zaj, zal, zam, zak, zaA, zaB, zbY, zaM]
def q113 (N : Nat) : Option (Unit × (Int × List Row × List Row × List Pr × Unit) × Unit) :=
  some (((), ((0 : Int), [], [], [], ()), ()))
theorem zoB : p113 = q113 := by
  (repeat (apply funext; intro _))
  simp only [p113, q113, zaj, zal, zam, zak, zaA, zaB, zbY, zaM]
def q114 (N : Nat) (b0 : Int) (s1 v2 : List Row) (v3 : List Pr) (v4 : Stp) : Option ((Int × List Row × List Row × List Pr × Unit) × Int × Int × Unit) :=
  cond (false) (some (((b0, s1, v2, v3, ()), (0 : Int), (1 : Int), ()))) (Option.bind (q192 N (v4) b0) fun rr0 => cond (!eqI rr0.1 (0 : Int)) (some (((b0, s1, v2, v3, ()), (0 : Int), Prod.fst rr0, ()))) (Option.bind (q108 N (v4)) fun rr1 => cond (!eqI (rr1.2.1) (0 : Int)) (some (((b0, s1, v2, v3, ()), (0 : Int), Prod.fst rr1.2, ()))) (cond ((ltI (64 : Int) ((wr ((wr ((↑s1.length : Int) + (↑v2.length : Int))) + (↑rr1.1.length : Int)))))) (some (((b0, s1, v2, v3, ()), (0 : Int), (8 : Int), ()))) (cond ((eqI v4.kind (1 : Int))) (cond ((eqI b0 (200 : Int))) (some (((b0, s1, v2, v3, ()), (0 : Int), (8 : Int), ()))) (some ((((wr (b0 + (1 : Int))), s1, v2, v3, ()), (wr ((wr (b0 + (1 : Int))) - (1 : Int))), (0 : Int), ())))) (cond ((eqI v4.kind (6 : Int))) (cond ((eqI (↑v3.length : Int) (200 : Int))) (some (((b0, s1, v2, v3, ()), (0 : Int), (8 : Int), ()))) (must (leN ((List.length v3 + List.length [Pr.mk v4.v0 v4.v1]) * (16 : Nat)) (140737488355328 : Nat)) (some (((b0, s1, v2, v3 ++ [Pr.mk v4.v0 v4.v1], ()), (0 : Int), (0 : Int), ()))))) (cond ((eqI v4.kind (7 : Int))) (cond ((eqI (↑s1.length : Int) (8 : Int))) (some (((b0, s1, v2, v3, ()), (0 : Int), (8 : Int), ()))) (must (leN ((List.length s1 + List.length rr1.1) * (280 : Nat)) (140737488355328 : Nat)) (some (((b0, s1 ++ Prod.fst rr1, v2, v3, ()), (0 : Int), (0 : Int), ()))))) (must (leN ((List.length v2 + List.length rr1.1) * (280 : Nat)) (140737488355328 : Nat)) (some (((b0, s1, v2 ++ Prod.fst rr1, v3, ()), (0 : Int), (0 : Int), ()))))))))))
theorem zmu : p114 = q114 := by
  (repeat (apply funext; intro _))
  simp only [p114, q114, hide_eq, zoA, zrq, zaj, zal, zam, zak, zaA, zaB, zbY, zaM]
def q117 (N : Nat) (b0 : Int) (v1 v2 : List Row) (v3 : List Pr) : Option ((Int × List Row × List Row × List Pr × Unit) × (Int × Int × List Row × List Pr × Unit) × Unit) :=
  cond (false) (some (((b0, v1, v2, v3, ()), ((0 : Int), (0 : Int), [], [], ()), ()))) (Option.bind (zeB N v1 v2) fun rr0 => Option.bind (q199 N v3) fun rr1 => some (((b0, v1, v2, v3, ()), ((↑v1.length : Int), b0, Prod.fst rr0, Prod.fst rr1, ()), ())))
theorem zoC : p117 = q117 := by
  (repeat (apply funext; intro _))
  simp only [p117, q117, hide_eq, zqo, zko, zaj, zal, zam, zak, zaA, zaB, zbY, zaM]
def zfr (N : Nat) (A_1000 : Int -> Int -> Int -> (List Row) -> (List Pr) -> Option (Int × Unit)) (log3 ob0_0 ob0_1 : Int) (ob0_2 : List Row) (ob0_3 : List Pr) : Option (Int × Unit) :=
  cond ((ltI log3 (6 : Int))) (cond ((ltI ((shlI (1 : Int) (UInt64.toNat ((u64I log3))))) (↑ob0_2.length : Int))) (A_1000 ((wr (log3 + (1 : Int)))) ob0_0 ob0_1 ob0_2 ob0_3) (some ((log3, ())))) (some ((log3, ())))
theorem ziS : zfn = zfr := by
  (repeat (apply funext; intro _))
  simp only [zfn, zfr, hide_eq, zaj, zal, zam, zak, zaA, zaB, zbY, zaM]
def zfs (N n : Nat) (log3 ob0_0 ob0_1 : Int) (ob0_2 : List Row) (ob0_3 : List Pr) : Option (Int × Unit) :=
  zao (fun A x => zfr N (fun log3 ob0_0 ob0_1 ob0_2 ob0_3 => A (((), (log3, ())), ((ob0_0, (ob0_1, (ob0_2, (ob0_3, ())))), ()))) x.1.2.1 x.2.1.1 x.2.1.2.1 x.2.1.2.2.1 x.2.1.2.2.2.1) n (((), (log3, ())), ((ob0_0, (ob0_1, (ob0_2, (ob0_3, ())))), ()))
theorem ziT : zfo = zfs := by
  (repeat (apply funext; intro _))
  simp only [zfo, zfs, ziS, zaj, zal, zam, zak, zaA, zaB, zbY, zaM]
def q120 (N : Nat) (c0 v1 : Int) (v2 : List Row) (v3 : List Pr) : Option (Int × Unit) :=
  zfs N N (1 : Int) c0 v1 v2 v3
theorem zrw : p120 = q120 := by
  (repeat (apply funext; intro _))
  simp only [p120, q120, ziT, zaj, zal, zam, zak, zaA, zaB, zbY, zaM]
def q112 (N : Nat) : Option (Bool × Unit) :=
  Option.bind (q113 N) fun rr0 => Option.bind (q114 N (Prod.fst (rr0.2.1)) (Prod.fst (Prod.snd (rr0.2.1))) (Prod.fst (Prod.snd (Prod.snd (rr0.2.1)))) (Prod.fst (Prod.snd (Prod.snd (Prod.snd (rr0.2.1))))) (Stp.mk (1 : Int) (0 : Int) (0 : Int) (0 : Int) (Fr.zero) (Fr.zero) (Fr.zero) (Fr.zero) (Fr.zero))) fun rr1 => Option.bind (q114 N (rr1.1.1) (Prod.fst (rr1.1.2)) (Prod.fst (Prod.snd (rr1.1.2))) (Prod.fst (Prod.snd (Prod.snd (rr1.1.2)))) (Stp.mk (1 : Int) (0 : Int) (0 : Int) (0 : Int) (Fr.zero) (Fr.zero) (Fr.zero) (Fr.zero) (Fr.zero))) fun rr2 => Option.bind (q114 N (rr2.1.1) (Prod.fst (rr2.1.2)) (Prod.fst (Prod.snd (rr2.1.2))) (Prod.fst (Prod.snd (Prod.snd (rr2.1.2)))) (Stp.mk (3 : Int) (0 : Int) (0 : Int) (0 : Int) (Fr.zero) (Fr.zero) (Fr.zero) (Fr.zero) (Fr.zero))) fun rr3 => Option.bind (q117 N (rr3.1.1) (Prod.fst (rr3.1.2)) (Prod.fst (Prod.snd (rr3.1.2))) (Prod.fst (Prod.snd (Prod.snd (rr3.1.2))))) fun rr4 => cond ((eqI (Prod.fst (rr1.2.2)) (0 : Int))) (cond ((eqI (rr1.2.1) (0 : Int))) (cond ((eqI (Prod.fst (rr2.2.2)) (0 : Int))) (cond ((eqI (rr2.2.1) (1 : Int))) (cond ((eqI (Prod.fst (rr3.2.2)) (0 : Int))) (cond ((eqI (Prod.fst (Prod.snd (rr4.2.1))) (2 : Int))) (cond ((eqI (↑(List.length (Prod.fst (Prod.snd (Prod.snd (rr4.2.1))))) : Int) (1 : Int))) (Option.bind (q120 N (Prod.fst (rr4.2.1)) (Prod.fst (Prod.snd (rr4.2.1))) (Prod.fst (Prod.snd (Prod.snd (rr4.2.1)))) (Prod.fst (Prod.snd (Prod.snd (Prod.snd (rr4.2.1)))))) fun rr5 => cond ((eqI rr5.1 (1 : Int))) (Option.bind (q119 N (Prod.fst (rr4.2.1)) (Prod.fst (Prod.snd (rr4.2.1))) (Prod.fst (Prod.snd (Prod.snd (rr4.2.1)))) (Prod.fst (Prod.snd (Prod.snd (Prod.snd (rr4.2.1)))))) fun rr6 => some (((eqI rr6.1 (0 : Int)), ()))) (some ((false, ())))) (some ((false, ())))) (some ((false, ())))) (some ((false, ())))) (some ((false, ())))) (some ((false, ())))) (some ((false, ())))) (some ((false, ())))
theorem zrx : p112 = q112 := by
  (repeat (apply funext; intro _))
  simp only [p112, q112, hide_eq, zoB, zmu, zoC, zrv, zrw, zaj, zal, zam, zak, zaA, zaB, zbY, zaM]
end
section
def zf9 (N : Nat) (A_31 : Int -> (List Int) -> (List Int) -> Int -> Int -> (List Row) -> (List Pr) -> Option (Bool × Unit)) (i13 : Int) (public5o others6o : List Int) (ob2_0 ob2_1 : Int) (ob3 : List Row) (ob4 : List Pr) : Option (Bool × Unit) :=
  cond ((ltI i13 (↑ob3.length : Int))) (cond ((ltI i13 (↑public5o.length : Int))) (must (leI (0 : Int) i13 && ltI i13 (↑public5o.length : Int)) (must (leI (0 : Int) i13 && ltI i13 (↑ob3.length : Int)) (cond (!eqL El.int [Row.w0 (List.getD ob3 i13.toNat zrow), Row.w1 (List.getD ob3 i13.toNat zrow), Row.w2 (List.getD ob3 i13.toNat zrow)] [List.getD public5o i13.toNat (0 : Int), (-1 : Int), (-1 : Int)]) (some ((false, ()))) (must (leI (0 : Int) i13 && ltI i13 (↑ob3.length : Int)) (cond (!eqF (Row.q1 (List.getD ob3 i13.toNat zrow)) (Fr.mk (1 : UInt64) 0 0 0)) (some ((false, ()))) (A_31 ((wr (i13 + (1 : Int)))) public5o others6o ob2_0 ob2_1 ob3 ob4)))))) (must (leI (0 : Int) ((wr (i13 - (↑public5o.length : Int)))) && ltI ((wr (i13 - (↑public5o.length : Int)))) (↑others6o.length : Int)) (must (leI (0 : Int) i13 && ltI i13 (↑ob3.length : Int)) (cond (!eqL El.int [Row.w0 (List.getD ob3 i13.toNat zrow), Row.w1 (List.getD ob3 i13.toNat zrow), Row.w2 (List.getD ob3 i13.toNat zrow)] [List.getD others6o (Int.toNat ((wr (i13 - (↑public5o.length : Int))))) (0 : Int), (-1 : Int), (-1 : Int)]) (some ((false, ()))) (must (leI (0 : Int) i13 && ltI i13 (↑ob3.length : Int)) (cond (!eqF (Row.q5 (List.getD ob3 i13.toNat zrow)) (Fr.mk (1 : UInt64) 0 0 0)) (some ((false, ()))) (A_31 ((wr (i13 + (1 : Int)))) public5o others6o ob2_0 ob2_1 ob3 ob4))))))) (some ((true, ())))
theorem znV : zma = zf9 := by
  (repeat (apply funext; intro _))
  simp only [zma, zf9, hide_eq, zaj, zal, zam, zak, zaA, zaB, zbY, zaM]
def zdI (N n : Nat) (i13 : Int) (public5o others6o : List Int) (ob2_0 ob2_1 : Int) (ob3 : List Row) (ob4 : List Pr) : Option (Bool × Unit) :=
  zao (fun A x => zf9 N (fun i13 public5o others6o ob2_0 ob2_1 ob3 ob4 => A (((), ((), ((), (i13, ())))), (public5o, (others6o, ((ob2_0, (ob2_1, ((), ((), ())))), (ob3, (ob4, ()))))))) x.1.2.2.2.1 x.2.1 x.2.2.1 x.2.2.2.1.1 x.2.2.2.1.2.1 x.2.2.2.2.1 x.2.2.2.2.2.1) n (((), ((), ((), (i13, ())))), (public5o, (others6o, ((ob2_0, (ob2_1, ((), ((), ())))), (ob3, (ob4, ()))))))
theorem znW : zmb = zdI := by
  (repeat (apply funext; intro _))
  simp only [zmb, zdI, znV, zaj, zal, zam, zak, zaA, zaB, zbY, zaM]
theorem zft (N n : Nat) (i13 : Int) (public5o others6o : List Int) (ob2_0 ob2_1 : Int) (ob3 : List Row) (ob4 : List Pr) : zdI N (n + 1) i13 public5o others6o ob2_0 ob2_1 ob3 ob4 = zf9 N (zdI N n) i13 public5o others6o ob2_0 ob2_1 ob3 ob4 := rfl
def zdJ (N : Nat) (A_12 : (List UInt8) -> Int -> Int -> (List Int) -> (List Int) -> (List Row) -> (List Row) -> (List Pr) -> Option (Bool × Unit)) (l0 : List UInt8) (i7 ob0_0 : Int) (public5o others6o : List Int) (ob3 ob4 : List Row) (ob5 : List Pr) : Option (Bool × Unit) :=
  cond ((ltI i7 (↑l0.length : Int))) (must (leI (0 : Int) i7 && ltI i7 (↑l0.length : Int)) (must (leI (0 : Int) i7 && ltI i7 (↑l0.length : Int)) (cond (((List.getD l0 i7.toNat (0 : UInt8) % (2 : UInt8)) == (1 : UInt8))) (Option.bind (q114 N ob0_0 ob3 ob4 ob5 (Stp.mk (7 : Int) ((Int.tmod ((↑(UInt8.toNat ((List.getD l0 i7.toNat (0 : UInt8) / (2 : UInt8)))) : Int)) (3 : Int))) (0 : Int) (0 : Int) (Fr.zero) (Fr.zero) (Fr.zero) (Fr.zero) (Fr.zero))) fun rr2 => cond ((eqI (7 : Int) (7 : Int))) (cond ((leI (8 : Int) (↑public5o.length : Int))) (cond (!eqI (Prod.fst (rr2.2.2)) (8 : Int)) (some ((false, ()))) (A_12 l0 ((wr (i7 + (1 : Int)))) (rr2.1.1) public5o others6o (Prod.fst (rr2.1.2)) (Prod.fst (Prod.snd (rr2.1.2))) (Prod.fst (Prod.snd (Prod.snd (rr2.1.2)))))) (cond (!eqI (Prod.fst (rr2.2.2)) (0 : Int)) (some ((false, ()))) (cond ((eqI (7 : Int) (7 : Int))) (must (leN ((List.length public5o + List.length [(Int.tmod ((↑(UInt8.toNat ((List.getD l0 i7.toNat (0 : UInt8) / (2 : UInt8)))) : Int)) (3 : Int))]) * (8 : Nat)) (140737488355328 : Nat)) (A_12 l0 ((wr (i7 + (1 : Int)))) (rr2.1.1) (public5o ++ [(Int.tmod ((↑(UInt8.toNat ((List.getD l0 i7.toNat (0 : UInt8) / (2 : UInt8)))) : Int)) (3 : Int))]) others6o (Prod.fst (rr2.1.2)) (Prod.fst (Prod.snd (rr2.1.2))) (Prod.fst (Prod.snd (Prod.snd (rr2.1.2)))))) (must (leN ((List.length others6o + List.length [(Int.tmod ((↑(UInt8.toNat ((List.getD l0 i7.toNat (0 : UInt8) / (2 : UInt8)))) : Int)) (3 : Int))]) * (8 : Nat)) (140737488355328 : Nat)) (A_12 l0 ((wr (i7 + (1 : Int)))) (rr2.1.1) public5o (others6o ++ [(Int.tmod ((↑(UInt8.toNat ((List.getD l0 i7.toNat (0 : UInt8) / (2 : UInt8)))) : Int)) (3 : Int))]) (Prod.fst (rr2.1.2)) (Prod.fst (Prod.snd (rr2.1.2))) (Prod.fst (Prod.snd (Prod.snd (rr2.1.2))))))))) (cond (!eqI (Prod.fst (rr2.2.2)) (0 : Int)) (some ((false, ()))) (cond ((eqI (7 : Int) (7 : Int))) (must (leN ((List.length public5o + List.length [(Int.tmod ((↑(UInt8.toNat ((List.getD l0 i7.toNat (0 : UInt8) / (2 : UInt8)))) : Int)) (3 : Int))]) * (8 : Nat)) (140737488355328 : Nat)) (A_12 l0 ((wr (i7 + (1 : Int)))) (rr2.1.1) (public5o ++ [(Int.tmod ((↑(UInt8.toNat ((List.getD l0 i7.toNat (0 : UInt8) / (2 : UInt8)))) : Int)) (3 : Int))]) others6o (Prod.fst (rr2.1.2)) (Prod.fst (Prod.snd (rr2.1.2))) (Prod.fst (Prod.snd (Prod.snd (rr2.1.2)))))) (must (leN ((List.length others6o + List.length [(Int.tmod ((↑(UInt8.toNat ((List.getD l0 i7.toNat (0 : UInt8) / (2 : UInt8)))) : Int)) (3 : Int))]) * (8 : Nat)) (140737488355328 : Nat)) (A_12 l0 ((wr (i7 + (1 : Int)))) (rr2.1.1) public5o (others6o ++ [(Int.tmod ((↑(UInt8.toNat ((List.getD l0 i7.toNat (0 : UInt8) / (2 : UInt8)))) : Int)) (3 : Int))]) (Prod.fst (rr2.1.2)) (Prod.fst (Prod.snd (rr2.1.2))) (Prod.fst (Prod.snd (Prod.snd (rr2.1.2))))))))) (Option.bind (q114 N ob0_0 ob3 ob4 ob5 (Stp.mk (3 : Int) ((Int.tmod ((↑(UInt8.toNat ((List.getD l0 i7.toNat (0 : UInt8) / (2 : UInt8)))) : Int)) (3 : Int))) (0 : Int) (0 : Int) (Fr.zero) (Fr.zero) (Fr.zero) (Fr.zero) (Fr.zero))) fun rr1 => cond ((eqI (3 : Int) (7 : Int))) (cond ((leI (8 : Int) (↑public5o.length : Int))) (cond (!eqI (Prod.fst (rr1.2.2)) (8 : Int)) (some ((false, ()))) (A_12 l0 ((wr (i7 + (1 : Int)))) (rr1.1.1) public5o others6o (Prod.fst (rr1.1.2)) (Prod.fst (Prod.snd (rr1.1.2))) (Prod.fst (Prod.snd (Prod.snd (rr1.1.2)))))) (cond (!eqI (Prod.fst (rr1.2.2)) (0 : Int)) (some ((false, ()))) (cond ((eqI (3 : Int) (7 : Int))) (must (leN ((List.length public5o + List.length [(Int.tmod ((↑(UInt8.toNat ((List.getD l0 i7.toNat (0 : UInt8) / (2 : UInt8)))) : Int)) (3 : Int))]) * (8 : Nat)) (140737488355328 : Nat)) (A_12 l0 ((wr (i7 + (1 : Int)))) (rr1.1.1) (public5o ++ [(Int.tmod ((↑(UInt8.toNat ((List.getD l0 i7.toNat (0 : UInt8) / (2 : UInt8)))) : Int)) (3 : Int))]) others6o (Prod.fst (rr1.1.2)) (Prod.fst (Prod.snd (rr1.1.2))) (Prod.fst (Prod.snd (Prod.snd (rr1.1.2)))))) (must (leN ((List.length others6o + List.length [(Int.tmod ((↑(UInt8.toNat ((List.getD l0 i7.toNat (0 : UInt8) / (2 : UInt8)))) : Int)) (3 : Int))]) * (8 : Nat)) (140737488355328 : Nat)) (A_12 l0 ((wr (i7 + (1 : Int)))) (rr1.1.1) public5o (others6o ++ [(Int.tmod ((↑(UInt8.toNat ((List.getD l0 i7.toNat (0 : UInt8) / (2 : UInt8)))) : Int)) (3 : Int))]) (Prod.fst (rr1.1.2)) (Prod.fst (Prod.snd (rr1.1.2))) (Prod.fst (Prod.snd (Prod.snd (rr1.1.2))))))))) (cond (!eqI (Prod.fst (rr1.2.2)) (0 : Int)) (some ((false, ()))) (cond ((eqI (3 : Int) (7 : Int))) (must (leN ((List.length public5o + List.length [(Int.tmod ((↑(UInt8.toNat ((List.getD l0 i7.toNat (0 : UInt8) / (2 : UInt8)))) : Int)) (3 : Int))]) * (8 : Nat)) (140737488355328 : Nat)) (A_12 l0 ((wr (i7 + (1 : Int)))) (rr1.1.1) (public5o ++ [(Int.tmod ((↑(UInt8.toNat ((List.getD l0 i7.toNat (0 : UInt8) / (2 : UInt8)))) : Int)) (3 : Int))]) others6o (Prod.fst (rr1.1.2)) (Prod.fst (Prod.snd (rr1.1.2))) (Prod.fst (Prod.snd (Prod.snd (rr1.1.2)))))) (must (leN ((List.length others6o + List.length [(Int.tmod ((↑(UInt8.toNat ((List.getD l0 i7.toNat (0 : UInt8) / (2 : UInt8)))) : Int)) (3 : Int))]) * (8 : Nat)) (140737488355328 : Nat)) (A_12 l0 ((wr (i7 + (1 : Int)))) (rr1.1.1) public5o (others6o ++ [(Int.tmod ((↑(UInt8.toNat ((List.getD l0 i7.toNat (0 : UInt8) / (2 : UInt8)))) : Int)) (3 : Int))]) (Prod.fst (rr1.1.2)) (Prod.fst (Prod.snd (rr1.1.2))) (Prod.fst (Prod.snd (Prod.snd (rr1.1.2)))))))))))) (Option.bind (q117 N ob0_0 ob3 ob4 ob5) fun rr0 => cond (!eqI (Prod.fst (rr0.2.1)) (↑public5o.length : Int)) (some ((false, ()))) (cond (!eqI (↑(List.length (Prod.fst (Prod.snd (Prod.snd (rr0.2.1))))) : Int) ((wr ((↑public5o.length : Int) + (↑others6o.length : Int))))) (some ((false, ()))) (zdI N N (0 : Int) public5o others6o (Prod.fst (rr0.2.1)) (Prod.fst (Prod.snd (rr0.2.1))) (Prod.fst (Prod.snd (Prod.snd (rr0.2.1)))) (Prod.fst (Prod.snd (Prod.snd (Prod.snd (rr0.2.1))))))))
theorem znX : zmc = zdJ := by
  (repeat (apply funext; intro _))
  simp only [zmc, zdJ, hide_eq, znW, zmu, zoC, zaj, zal, zam, zak, zaA, zaB, zbY, zaM]
def zc9 (N n : Nat) (l0 : List UInt8) (i7 ob0_0 : Int) (public5o others6o : List Int) (ob3 ob4 : List Row) (ob5 : List Pr) : Option (Bool × Unit) :=
  zao (fun A x => zdJ N (fun l0 i7 ob0_0 public5o others6o ob3 ob4 ob5 => A ((l0, ((), ((), ((), (i7, ()))))), ((ob0_0, ((), ((), ((), ())))), (public5o, (others6o, (ob3, (ob4, (ob5, ())))))))) x.1.1 x.1.2.2.2.2.1 x.2.1.1 x.2.2.1 x.2.2.2.1 x.2.2.2.2.1 x.2.2.2.2.2.1 x.2.2.2.2.2.2.1) n ((l0, ((), ((), ((), (i7, ()))))), ((ob0_0, ((), ((), ((), ())))), (public5o, (others6o, (ob3, (ob4, (ob5, ())))))))
theorem znY : zmd = zc9 := by
  (repeat (apply funext; intro _))
  simp only [zmd, zc9, znX, zaj, zal, zam, zak, zaA, zaB, zbY, zaM]
theorem zfu (N n : Nat) (l0 : List UInt8) (i7 ob0_0 : Int) (public5o others6o : List Int) (ob3 ob4 : List Row) (ob5 : List Pr) : zc9 N (n + 1) l0 i7 ob0_0 public5o others6o ob3 ob4 ob5 = zdJ N (zc9 N n) l0 i7 ob0_0 public5o others6o ob3 ob4 ob5 := rfl
def zpM (N : Nat) (A_7 : (List UInt8) -> Int -> Int -> (List Row) -> (List Row) -> (List Pr) -> Option (Bool × Unit)) (l0 : List UInt8) (i4 ob0_0 : Int) (ob1 ob2 : List Row) (ob3 : List Pr) : Option (Bool × Unit) :=
  cond ((ltI i4 (3 : Int))) (Option.bind (q114 N ob0_0 ob1 ob2 ob3 (Stp.mk (1 : Int) (0 : Int) (0 : Int) (0 : Int) (Fr.zero) (Fr.zero) (Fr.zero) (Fr.zero) (Fr.zero))) fun rr0 => A_7 l0 ((wr (i4 + (1 : Int)))) (rr0.1.1) (Prod.fst (rr0.1.2)) (Prod.fst (Prod.snd (rr0.1.2))) (Prod.fst (Prod.snd (Prod.snd (rr0.1.2))))) (zc9 N N l0 (0 : Int) ob0_0 [] [] ob1 ob2 ob3)
theorem zpN : zpE = zpM := by
  (repeat (apply funext; intro _))
  simp only [zpE, zpM, hide_eq, znY, zmu, zaj, zal, zam, zak, zaA, zaB, zbY, zaM]
def zmv (N n : Nat) (l0 : List UInt8) (i4 ob0_0 : Int) (ob1 ob2 : List Row) (ob3 : List Pr) : Option (Bool × Unit) :=
  zao (fun A x => zpM N (fun l0 i4 ob0_0 ob1 ob2 ob3 => A ((l0, ((), (i4, ()))), ((ob0_0, ((), ((), ((), ())))), (ob1, (ob2, (ob3, ())))))) x.1.1 x.1.2.2.1 x.2.1.1 x.2.2.1 x.2.2.2.1 x.2.2.2.2.1) n ((l0, ((), (i4, ()))), ((ob0_0, ((), ((), ((), ())))), (ob1, (ob2, (ob3, ())))))
theorem zpO : zpF = zmv := by
  (repeat (apply funext; intro _))
  simp only [zpF, zmv, zpN, zaj, zal, zam, zak, zaA, zaB, zbY, zaM]
def q29 (N : Nat) (l0 : List UInt8) : Option (Bool × Unit) :=
  Option.bind (q112 N) fun rr0 => cond (!rr0.1) (some ((false, ()))) (cond ((ltI (40 : Int) (↑l0.length : Int))) (some ((true, ()))) (Option.bind (q113 N) fun rr1 => zmv N N l0 (0 : Int) (Prod.fst (rr1.2.1)) (Prod.fst (Prod.snd (rr1.2.1))) (Prod.fst (Prod.snd (Prod.snd (rr1.2.1)))) (Prod.fst (Prod.snd (Prod.snd (Prod.snd (rr1.2.1)))))))
theorem ztw : p29 = q29 := by
  (repeat (apply funext; intro _))
  simp only [p29, q29, hide_eq, zpO, zrx, zoB, zaj, zal, zam, zak, zaA, zaB, zbY, zaM]
end
section
def zaz (w : Int) : Row := Row.mk Fr.zero ⟨1, 0, 0, 0⟩ Fr.zero Fr.zero Fr.zero Fr.zero Fr.zero Fr.zero w (-1) (-1)
def rw3 (r : Row) : Nat -> Int
  | 0 => r.w0 | 1 => r.w1 | _ => r.w2
def bg (x : Fr) : Bool := !decide (fv x < RR)
def bigR (r : Row) : Bool := bg r.q0 || bg r.q1 || bg r.q2 || bg r.q3 || bg r.q4 || bg r.q5 || bg r.q6 || bg r.q7
def unkR (V : Int) (r : Row) : Bool := leI V r.w0 || leI V r.w1 || leI V r.w2
def unkP (V : Int) (p : Pr) : Bool := ltI p.x 0 || leI V p.x || (ltI p.y 0 || leI V p.y)
def lowR (r : Row) : Bool := ltI r.w0 (-1) || ltI r.w1 (-1) || ltI r.w2 (-1)
def zry (r : Row) : Bool := ltI r.w0 0 || !zbY r (zaz r.w0)
def zmw (P : Int) : Nat -> List Row -> Bool
  | _, [] => false
  | i, r :: l => (lowR r || (ltI (i : Int) P && zry r)) || zmw P (i + 1) l
def mayF (c0 v1 : Int) (v2 : List Row) (v3 : List Pr) : Int :=
  cond (ltI 8 c0 || ltI 200 v1 || ltI 64 (v2.length : Int) || ltI 200 (v3.length : Int)) 8
    (cond (ltI c0 0 || ltI v1 0 || ltI (v2.length : Int) c0) 1
      (cond (v2.any bigR) 4 (cond (v2.any (unkR v1) || v3.any (unkP v1)) 10 (cond (zmw c0 0 v2) 3 0))))
section ref
variable {N : Nat} (hN : 2000 <= N) (c0 v1 : Int) (v2 : List Row) (v3 : List Pr)
include hN
end ref
end
section
theorem zgO {α : Type} (a b : Bool) (x y : α) : cond a x (cond b x y) = cond (a || b) x y := by cases a <;> rfl
section prog
variable {N : Nat} (hN : 2000 <= N) (c0 v1 : Int) (v2 : List Row) (v3 : List Pr)
include hN
end prog
structure GoodCirc (c0 v1 : Int) (v2 : List Row) (v3 : List Pr) : Prop where
  p0 : 0 <= c0
  p8 : c0 <= 8
  v0 : 0 <= v1
  v200 : v1 <= 200
  rows : v2.length <= 64
  same : v3.length <= 200
  pub : c0 <= (v2.length : Int)
  big : v2.any bigR = false
  unk : v2.any (unkR v1) = false
  unkp : v3.any (unkP v1) = false
  form : zmw c0 0 v2 = false
theorem GoodCirc.may {c0 v1 : Int} {v2 : List Row} {v3 : List Pr} (h : GoodCirc c0 v1 v2 v3) : mayF c0 v1 v2 v3 = 0 := by
  have := h.p0
  have := h.p8
  have := h.v0
  have := h.v200
  have := h.rows
  have := h.same
  have := h.pub
  unfold mayF
  rw [zar (by omega : ¬ 8 < c0), zar (by omega : ¬ 200 < v1), zar (by omega : ¬ 64 < (v2.length : Int)), zar (by omega : ¬ 200 < (v3.length : Int)), zar (by omega : ¬ c0 < 0), zar (by omega : ¬ v1 < 0), zar (by omega : ¬ (v2.length : Int) < c0), h.big, h.unk, h.unkp, h.form]
  rfl
theorem GoodCirc.pairs {c0 v1 : Int} {v2 : List Row} {v3 : List Pr} (h : GoodCirc c0 v1 v2 v3) {V : Nat} (hV : v1 = (V : Int)) : zpL v3 V := by
  intro p hp
  have h2 := List.any_eq_false.mp h.unkp p hp
  unfold unkP at h2
  simp only [Bool.or_eq_true, not_or, Bool.not_eq_true] at h2
  obtain ⟨⟨a, b⟩, c, d⟩ := h2
  have := of_decide_eq_false a
  have := of_decide_eq_false b
  have := of_decide_eq_false c
  have := of_decide_eq_false d
  subst hV
  omega
theorem zhN {P : Int} : ∀ {l : List Row} {i : Nat}, zmw P i l = false -> ∀ r ∈ l, lowR r = false
  | [], _, _, r, hr => absurd hr (by simp)
  | x :: l, i, h, r, hr => by
    unfold zmw at h
    simp only [Bool.or_eq_false_iff] at h
    rcases List.mem_cons.mp hr with rfl | hr
    . exact h.1.1
    . exact zhN h.2 r hr
theorem GoodCirc.vars {c0 v1 : Int} {v2 : List Row} {v3 : List Pr} (h : GoodCirc c0 v1 v2 v3) {r : Row} (hr : r ∈ v2) (j : Nat) : -1 <= rw3 r j /\ rw3 r j < v1 := by
  have h1 := List.any_eq_false.mp h.unk r hr
  have h2 := zhN h.form r hr
  unfold unkR at h1
  unfold lowR at h2
  simp only [Bool.or_eq_true, not_or, Bool.not_eq_true] at h1
  simp only [Bool.or_eq_false_iff] at h2
  obtain ⟨⟨a, b⟩, c⟩ := h1
  obtain ⟨⟨a', b'⟩, c'⟩ := h2
  have := of_decide_eq_false a
  have := of_decide_eq_false b
  have := of_decide_eq_false c
  have := of_decide_eq_false a'
  have := of_decide_eq_false b'
  have := of_decide_eq_false c'
  match j with
  | 0 => exact ⟨by simp only [rw3]; omega, by simp only [rw3]; omega⟩
  | 1 => exact ⟨by simp only [rw3]; omega, by simp only [rw3]; omega⟩
  | _ + 2 => exact ⟨by simp only [rw3]; omega, by simp only [rw3]; omega⟩
end
section
def up (m j i : Nat) (v : Int) (o : List Int) : List Int := if j = m then setL o i v else o
theorem zmx (m j i : Nat) (v : Int) (o : List Int) : (up m j i v o).length = o.length := by
  unfold up
  split
  . rw [zcs]
  . rfl
theorem cell {n j i : Nat} (hi : i < n) : (j * n + i) / n = j /\ (j * n + i) % n = i := by
  have h0 : 0 < n := by omega
  refine ⟨?_, ?_⟩
  . rw [Nat.mul_comm, Nat.mul_add_div h0, Nat.div_eq_of_lt hi, Nat.add_zero]
  . rw [Nat.mul_comm, Nat.mul_add_mod, Nat.mod_eq_of_lt hi]
structure PInv (k : Nat -> Int) (V n a : Nat) (fi la : List Int) (O : Nat -> Int) : Prop where
  lf : fi.length = V
  ll : la.length = V
  F : ∀ c : Nat, c < V -> (fi.getD c 0 = -1 /\ ∀ z, z < a -> k z ≠ c) \/ ∃ f g : Nat, fi.getD c 0 = f /\ la.getD c 0 = g /\ f <= g /\ g < a /\ k f = c /\ k g = c /\ (∀ z, z < f -> k z ≠ c) /\ ∀ z, g < z -> z < a -> k z ≠ c
  O : ∀ z, z < a -> (k z < 0 /\ O z = z) \/ ∃ c : Nat, c < V /\ k z = c /\ ((∃ y : Nat, z < y /\ y < a /\ k y = c /\ (∀ w, z < w -> w < y -> k w ≠ c) /\ O z = y) \/ ((∀ w, z < w -> w < a -> k w ≠ c) /\ O z = fi.getD c 0))
end
section
def Len3 (n j : Nat) (o0 o1 o2 : List Int) : Prop := o0.length = n /\ (1 <= j -> o1.length = n) /\ (2 <= j -> o2.length = n)
theorem Len3.up {n j : Nat} {o0 o1 o2 : List Int} (h : Len3 n j o0 o1 o2) (q i : Nat) (v : Int) : Len3 n j (up 0 q i v o0) (up 1 q i v o1) (up 2 q i v o2) :=
  ⟨by rw [zmx]; exact h.1, fun hj => by rw [zmx]; exact h.2.1 hj, fun hj => by rw [zmx]; exact h.2.2 hj⟩
structure Ground (cl : List Int) (rows : List Row) (n V : Nat) : Prop where
  n1 : 1 <= n
  n64 : n <= 64
  rl : rows.length <= n
  lc : cl.length = V
  cc : ∀ v : Nat, v < V -> ∃ c : Nat, c < V /\ cl.getD v 0 = (c : Int)
  vars : ∀ r ∈ rows, ∀ j, -1 <= rw3 r j /\ rw3 r j < (V : Int)
end
section
instance : Big 100000 := ⟨by omega⟩
end
section
def okV (kd V v : Int) : Prop := v < V /\ (0 <= v \/ kd = 2)
def ScS (s : Stp) : Prop := Sc s.q0 /\ Sc s.q1 /\ Sc s.q2 /\ Sc s.q3 /\ Sc s.q4
def okS (V : Int) (s : Stp) : Prop := (1 <= s.kind /\ s.kind <= 7) /\ ScS s /\ (1 < s.kind -> okV s.kind V s.v0) /\ (s.kind = 2 \/ s.kind = 5 \/ s.kind = 6 -> okV s.kind V s.v1) /\ (s.kind = 2 \/ s.kind = 4 \/ s.kind = 5 -> okV s.kind V s.v2)
def one1 : Fr := ⟨1, 0, 0, 0⟩
def zaP (s : Stp) : List Row :=
  cond (eqI s.kind 2) [⟨s.q0, s.q1, s.q2, s.q3, s.q4, .zero, .zero, .zero, mxI s.v0 (-1), mxI s.v1 (-1), mxI s.v2 (-1)⟩]
    (cond (eqI s.kind 3) [⟨.zero, .zero, .zero, .zero, .zero, one1, .zero, .zero, s.v0, -1, -1⟩]
      (cond (eqI s.kind 4) [⟨.zero, .zero, .zero, .zero, .zero, .zero, one1, .zero, s.v0, -1, s.v2⟩]
        (cond (eqI s.kind 5) [⟨.zero, .zero, .zero, .zero, .zero, .zero, .zero, one1, s.v0, s.v1, -1⟩, ⟨.zero, .zero, .zero, .zero, .zero, .zero, .zero, .zero, s.v2, -1, -1⟩]
          (cond (eqI s.kind 7) [zaz s.v0] []))))
def svar : Stp := ⟨1, 0, 0, 0, .zero, .zero, .zero, .zero, .zero⟩
end
section
structure PlS where
  n : Nat
  pv : List Fr
  vs : List Fr
  st : List Stp
  pb : List Row
  rw : List Row
  sm : List Pr
def zmy (n : Nat) : Fr := ⟨u64I (n : Int), 0, 0, 0⟩
def five : Fr := ⟨5, 0, 0, 0⟩
def fneg (a : Fr) : Fr := frN ((RR - fv a) % RR)
def PlS.val (s : PlS) (x : Nat) : Fr := s.vs.getD x Fr.zero
def PlS.two (s : PlS) (n : Nat) (c : Fr) (t : Stp) : PlS := ⟨n, s.pv, s.vs ++ [c], s.st ++ [svar] ++ [t], s.pb, s.rw ++ zaP t, cond (eqI t.kind 6) (s.sm ++ [⟨t.v0, t.v1⟩]) s.sm⟩
def tMul (x y z : Nat) (k : Fr) : Stp := ⟨2, x, y, z, one1, k, .zero, fneg one1, five⟩
def ztx (z : Nat) : Stp := ⟨3, z, 0, 0, .zero, .zero, .zero, .zero, .zero⟩
def tPow (x z : Nat) : Stp := ⟨4, x, 0, z, .zero, .zero, .zero, .zero, .zero⟩
def zty (x y z : Nat) : Stp := ⟨5, x, y, z, .zero, .zero, .zero, .zero, .zero⟩
def ztz (z x : Nat) : Stp := ⟨6, z, x, 0, .zero, .zero, .zero, .zero, .zero⟩
def tPub (x : Nat) : Stp := ⟨7, x, 0, 0, .zero, .zero, .zero, .zero, .zero⟩
def tNo (x : Nat) : Stp := ⟨2, x, -5, x, .zero, one1, .zero, fneg one1, .zero⟩
inductive Gate : PlS -> PlS -> Prop
  | mul {s : PlS} (n x y k : Nat) (hx : x < s.vs.length) (hy : y < s.vs.length) (hk : k < 9) :
      Gate s (s.two n (fadd (fadd (fmul (s.val x) (s.val y)) (fmul (zmy k) (s.val x))) five) (tMul x y s.vs.length (zmy k)))
  | bool {s : PlS} (n k : Nat) (hk : k < 2) : Gate s (s.two n (zmy k) (ztx s.vs.length))
  | pow {s : PlS} (n x : Nat) (hx : x < s.vs.length) : Gate s (s.two n (frN (fv (s.val x) ^ 5 % RR)) (tPow x s.vs.length))
  | next {s : PlS} (n x y : Nat) (hx : x < s.vs.length) (hy : y < s.vs.length) : Gate s (s.two n (fadd (s.val x) (s.val y)) (zty x y s.vs.length))
  | same {s : PlS} (n x : Nat) (hx : x < s.vs.length) : Gate s (s.two n (s.val x) (ztz s.vs.length x))
  | pub {s : PlS} (n x : Nat) (hx : x < s.vs.length) (hp : s.pv.length < 3) : Gate s ⟨n, s.pv ++ [s.val x], s.vs, s.st ++ [tPub x], s.pb ++ [zaz x], s.rw, s.sm⟩
  | skip {s : PlS} (n : Nat) : Gate s ⟨n, s.pv, s.vs, s.st, s.pb, s.rw, s.sm⟩
  | no {s : PlS} (n x : Nat) (hx : x < s.vs.length) : Gate s ⟨n, s.pv, s.vs, s.st ++ [tNo x], s.pb, s.rw ++ zaP (tNo x), s.sm⟩
structure PlI (g : Nat) (s : PlS) : Prop where
  v2 : 2 <= s.vs.length
  v : s.vs.length <= 2 + g
  p : s.pv.length <= 3
  pp : s.pb.length = s.pv.length
  r : s.rw.length <= 2 * g
  m : s.sm.length <= g
  st : s.st.length <= 2 + 2 * g
  sc : ∀ x ∈ s.vs, Sc x
theorem PlI.val {g : Nat} {s : PlS} (h : PlI g s) (x : Nat) : Sc (s.val x) := by
  unfold PlS.val
  rcases Nat.lt_or_ge x s.vs.length with h1 | h1
  . rw [List.getD_eq_getElem?_getD, List.getElem?_eq_getElem h1]
    exact h.sc _ (List.getElem_mem h1)
  . rw [List.getD_eq_getElem?_getD, List.getElem?_eq_none h1]
    exact zbE
theorem zmz {k : Nat} (h : k < 1000) : fv (zmy k) = k := by
  have e : (u64I (k : Int)).toNat = k := znH (by omega)
  exact (znI _).trans e
theorem zoD : 1000 < RR := by decide +kernel
theorem znZ {k : Nat} (h : k < 1000) : Sc (zmy k) := by
  unfold Sc
  rw [zmz h]
  have := zoD
  omega
theorem zpP : Sc one1 := by unfold Sc one1; decide +kernel
theorem zoE (n : Nat) : Sc (frN (n % RR)) := by unfold Sc; rw [zrm]; exact Nat.mod_lt _ (by have := zoD; omega)
theorem zmA (a b : Fr) : Sc (fadd a b) := zoE _
theorem PlI.two {g : Nat} {s : PlS} (h : PlI g s) (n : Nat) {c : Fr} (hc : Sc c) (t : Stp) (ht : (zaP t).length <= 2) : PlI (g + 1) (s.two n c t) := by
  refine ⟨?_, ?_, h.p, h.pp, ?_, ?_, ?_, ?_⟩
  . have := h.v2; simp [PlS.two]; omega
  . have := h.v; simp [PlS.two]; omega
  . have := h.r; simp [PlS.two]; omega
  . have := h.m
    unfold PlS.two
    cases eqI t.kind 6 <;> simp <;> omega
  . have := h.st; simp [PlS.two]; omega
  . intro x hx
    simp only [PlS.two, List.mem_append, List.mem_singleton] at hx
    rcases hx with hx | rfl
    . exact h.sc x hx
    . exact hc
theorem Gate.inv {g : Nat} {s s' : PlS} (hg : Gate s s') (h : PlI g s) : PlI (g + 1) s' := by
  cases hg with
  | mul n x y k hx hy hk => exact h.two n (zmA _ _) _ (show 1 <= 2 by omega)
  | bool n k hk => exact h.two n (znZ (by omega)) _ (show 1 <= 2 by omega)
  | pow n x hx => exact h.two n (zoE _) _ (show 1 <= 2 by omega)
  | next n x y hx hy => exact h.two n (zmA _ _) _ (show 2 <= 2 by omega)
  | same n x hx => exact h.two n (h.val x) _ (show 0 <= 2 by omega)
  | pub n x hx hp =>
    have := h.v2; have := h.v; have := h.pp; have := h.r; have := h.m; have := h.st
    refine ⟨by simpa using h.v2, by simp only; omega, by simp; omega, by simp; omega, by simp only; omega, by simp only; omega, by simp; omega, h.sc⟩
  | skip n =>
    have := h.v2; have := h.v; have := h.pp; have := h.r; have := h.m; have := h.st
    exact ⟨by simpa using h.v2, by simp only; omega, h.p, h.pp, by simp only; omega, by simp only; omega, by simp only; omega, h.sc⟩
  | no n x hx =>
    have := h.v2; have := h.v; have := h.pp; have := h.r; have := h.m; have := h.st
    refine ⟨by simpa using h.v2, by simp only; omega, h.p, h.pp, ?_, by simp only; omega, by simp; omega, h.sc⟩
    simp only [List.length_append, show (zaP (tNo x)).length = 1 from rfl]; omega
abbrev Lp95 := (List UInt8) -> Int -> Int -> Int -> Int -> Int -> Int -> Int -> Int -> Fr -> (List Row) -> (List Pr) -> (List Fr) -> (List Fr) -> (List Stp) -> (List Row) -> (List Pr) -> (List Fr) -> (List Fr) -> (List Stp) -> (List Row) -> (List Row) -> (List Pr) -> Option ((Int × Int × List Row × List Pr × List Fr × List Fr × List Stp × Unit) × Unit)
def Lp95.at (A : Lp95) (l : List UInt8) (most g : Int) (s : PlS) : Option ((Int × Int × List Row × List Pr × List Fr × List Fr × List Stp × Unit) × Unit) :=
  A l most g 0 0 0 0 (s.n : Int) (s.vs.length : Int) one1 [] [] [] [] [] [] [] s.pv s.vs s.st s.pb s.rw s.sm
section
variable {N g : Nat} (hN : 2000 <= N) (hg : g <= 14) {s : PlS} (h : PlI g s) (hn : s.n <= 2 + 4 * g) (l : List UInt8) (most : Int) (A : Lp95)
include hN hg h
include hn
end
end
end Go.Proofs.Ytgimohchocjgcaa.V
