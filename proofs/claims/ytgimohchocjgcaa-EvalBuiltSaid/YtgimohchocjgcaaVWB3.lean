import Derived.Test.YtgimohchocjgcaaVK5
import Derived.Test.YtgimohchocjgcaaVPA3
import Derived.KernelRfl
set_option linter.unusedVariables false
set_option linter.unusedSimpArgs false
namespace Go.Proofs.Ytgimohchocjgcaa.V
section
def zij (N : Nat) (A_2 : (List Row) -> Int -> Int -> Option (Bool × Unit)) (A_5 : (List Row) -> Int -> Int -> (List Fr) -> Int -> Option (Bool × Unit)) (t8 : List Row) (t9 t10 : Int) (t15 : List Fr) (t16 : Int) : Option (Bool × Unit) :=
  cond ((ltI t16 (8 : Int))) (must (leI (0 : Int) t16 && (ltI t16 (↑(8 : Nat) : Int) && ltI t16 (↑t15.length : Int))) (Option.bind (q79 N ((List.getD t15 t16.toNat (Fr.zero)))) fun r0 => cond (!r0.1) (some ((false, ()))) (A_5 t8 t9 t10 t15 ((wr (t16 + (1 : Int))))))) (A_2 t8 t9 ((wr (t10 + (1 : Int)))))
theorem zt7 : zqu = zij := by
  (repeat (apply funext; intro _))
  simp only [zqu, zij, hide_eq, zCF, zaf, zai, zaj, zah]
def zez (N : Nat) (A_2 : (List Row) -> Int -> Int -> Option (Bool × Unit)) (n : Nat) (t8 : List Row) (t9 t10 : Int) (t15 : List Fr) (t16 : Int) : Option (Bool × Unit) :=
  zam (fun A x => zij N A_2 (fun t8 t9 t10 t15 t16 => A ((t8, (t9, (t10, (t15, (t16, ()))))), ())) x.1.1 x.1.2.1 x.1.2.2.1 x.1.2.2.2.1 x.1.2.2.2.2.1) n ((t8, (t9, (t10, (t15, (t16, ()))))), ())
theorem zt8 : zqv = zez := by
  (repeat (apply funext; intro _))
  simp only [zqv, zez, zt7, zaf, zai, zaj, zah]
theorem zgY (N : Nat) (A_2 : (List Row) -> Int -> Int -> Option (Bool × Unit)) (n : Nat) (t8 : List Row) (t9 t10 : Int) (t15 : List Fr) (t16 : Int) : zez N A_2 (n + 1) t8 t9 t10 t15 t16 = zij N A_2 (zez N A_2 n) t8 t9 t10 t15 t16 := rfl
def zik (N : Nat) (A_2 : (List Row) -> Int -> Int -> Option (Bool × Unit)) (t8 : List Row) (t9 t10 : Int) : Option (Bool × Unit) :=
  cond ((ltI t10 t9)) (must (leI (0 : Int) t10 && ltI t10 (↑t8.length : Int)) (zez N A_2 N t8 t9 t10 ([(Row.q0 (List.getD t8 t10.toNat zrow)), (Row.q1 (List.getD t8 t10.toNat zrow)), (Row.q2 (List.getD t8 t10.toNat zrow)), (Row.q3 (List.getD t8 t10.toNat zrow)), (Row.q4 (List.getD t8 t10.toNat zrow)), (Row.q5 (List.getD t8 t10.toNat zrow)), (Row.q6 (List.getD t8 t10.toNat zrow)), (Row.q7 (List.getD t8 t10.toNat zrow))]) (0 : Int))) (some ((true, ())))
theorem zt9 : zqw = zik := by
  (repeat (apply funext; intro _))
  simp only [zqw, zik, hide_eq, zt8, zaf, zai, zaj, zah]
def zil (N n : Nat) (t8 : List Row) (t9 t10 : Int) : Option (Bool × Unit) :=
  zam (fun A x => zik N (fun t8 t9 t10 => A ((t8, (t9, (t10, ()))), ())) x.1.1 x.1.2.1 x.1.2.2.1) n ((t8, (t9, (t10, ()))), ())
theorem zua : zqx = zil := by
  (repeat (apply funext; intro _))
  simp only [zqx, zil, zt9, zaf, zai, zaj, zah]
theorem zgZ (N n : Nat) (t8 : List Row) (t9 t10 : Int) : zil N (n + 1) t8 t9 t10 = zik N (zil N n) t8 t9 t10 := rfl
def q200 (N : Nat) (c0 v1 : Int) (v2 : List Row) (v3 : List Pr) : Option (Bool × Unit) :=
  zil N N v2 ((↑v2.length : Int)) (0 : Int)
theorem zAz : p200 = q200 := by
  (repeat (apply funext; intro _))
  simp only [p200, q200, zua, zaf, zai, zaj, zah]
def ze3 (N : Nat) (A_12 : (List Pr) -> Int -> Int -> Int -> Int -> (List Row) -> (List Pr) -> Option (Bool × Unit)) (t28 : List Pr) (t29 t30 ob0_0 ob0_1 : Int) (ob0_2 : List Row) (ob0_3 : List Pr) : Option (Bool × Unit) :=
  cond ((ltI t30 t29)) (must (leI (0 : Int) t30 && ltI t30 (↑t28.length : Int)) (cond ((ltI (mnI (Pr.x (List.getD t28 t30.toNat (Pr.mk (0 : Int) (0 : Int)))) (Pr.y (List.getD t28 t30.toNat (Pr.mk (0 : Int) (0 : Int))))) (0 : Int))) (some ((false, ()))) (cond ((leI ob0_1 (mxI (Pr.x (List.getD t28 t30.toNat (Pr.mk (0 : Int) (0 : Int)))) (Pr.y (List.getD t28 t30.toNat (Pr.mk (0 : Int) (0 : Int))))))) (some ((false, ()))) (A_12 t28 t29 ((wr (t30 + (1 : Int)))) ob0_0 ob0_1 ob0_2 ob0_3)))) (some ((true, ())))
theorem zrN : zlN = ze3 := by
  (repeat (apply funext; intro _))
  simp only [zlN, ze3, hide_eq, zaf, zai, zaj, zah]
def zd3 (N n : Nat) (t28 : List Pr) (t29 t30 ob0_0 ob0_1 : Int) (ob0_2 : List Row) (ob0_3 : List Pr) : Option (Bool × Unit) :=
  zam (fun A x => ze3 N (fun t28 t29 t30 ob0_0 ob0_1 ob0_2 ob0_3 => A (((), (t28, (t29, (t30, ())))), ((ob0_0, (ob0_1, (ob0_2, (ob0_3, ())))), ()))) x.1.2.1 x.1.2.2.1 x.1.2.2.2.1 x.2.1.1 x.2.1.2.1 x.2.1.2.2.1 x.2.1.2.2.2.1) n (((), (t28, (t29, (t30, ())))), ((ob0_0, (ob0_1, (ob0_2, (ob0_3, ())))), ()))
theorem zrO : zlO = zd3 := by
  (repeat (apply funext; intro _))
  simp only [zlO, zd3, zrN, zaf, zai, zaj, zah]
theorem zfv (N n : Nat) (t28 : List Pr) (t29 t30 ob0_0 ob0_1 : Int) (ob0_2 : List Row) (ob0_3 : List Pr) : zd3 N (n + 1) t28 t29 t30 ob0_0 ob0_1 ob0_2 ob0_3 = ze3 N (zd3 N n) t28 t29 t30 ob0_0 ob0_1 ob0_2 ob0_3 := rfl
def zim (N : Nat) (A_2 : (List Row) -> Int -> Int -> Int -> Int -> (List Row) -> (List Pr) -> Option (Bool × Unit)) (A_5 : (List Row) -> Int -> Int -> (List Int) -> Int -> Int -> Int -> (List Row) -> (List Pr) -> Option (Bool × Unit)) (t10 : List Row) (t11 t12 : Int) (t17 : List Int) (t18 ob0_0 ob0_1 : Int) (ob0_2 : List Row) (ob0_3 : List Pr) : Option (Bool × Unit) :=
  cond ((ltI t18 (3 : Int))) (must (leI (0 : Int) t18 && (ltI t18 (↑(3 : Nat) : Int) && ltI t18 (↑t17.length : Int))) (cond ((leI ob0_1 (List.getD t17 t18.toNat (0 : Int)))) (some ((false, ()))) (A_5 t10 t11 t12 t17 ((wr (t18 + (1 : Int)))) ob0_0 ob0_1 ob0_2 ob0_3))) (A_2 t10 t11 ((wr (t12 + (1 : Int)))) ob0_0 ob0_1 ob0_2 ob0_3)
theorem zub : zqz = zim := by
  (repeat (apply funext; intro _))
  simp only [zqz, zim, hide_eq, zaf, zai, zaj, zah]
def zeA (N : Nat) (A_2 : (List Row) -> Int -> Int -> Int -> Int -> (List Row) -> (List Pr) -> Option (Bool × Unit)) (n : Nat) (t10 : List Row) (t11 t12 : Int) (t17 : List Int) (t18 ob0_0 ob0_1 : Int) (ob0_2 : List Row) (ob0_3 : List Pr) : Option (Bool × Unit) :=
  zam (fun A x => zim N A_2 (fun t10 t11 t12 t17 t18 ob0_0 ob0_1 ob0_2 ob0_3 => A (((), (t10, (t11, (t12, (t17, (t18, ())))))), ((ob0_0, (ob0_1, (ob0_2, (ob0_3, ())))), ()))) x.1.2.1 x.1.2.2.1 x.1.2.2.2.1 x.1.2.2.2.2.1 x.1.2.2.2.2.2.1 x.2.1.1 x.2.1.2.1 x.2.1.2.2.1 x.2.1.2.2.2.1) n (((), (t10, (t11, (t12, (t17, (t18, ())))))), ((ob0_0, (ob0_1, (ob0_2, (ob0_3, ())))), ()))
theorem zuc : zqA = zeA := by
  (repeat (apply funext; intro _))
  simp only [zqA, zeA, zub, zaf, zai, zaj, zah]
theorem zg0 (N : Nat) (A_2 : (List Row) -> Int -> Int -> Int -> Int -> (List Row) -> (List Pr) -> Option (Bool × Unit)) (n : Nat) (t10 : List Row) (t11 t12 : Int) (t17 : List Int) (t18 ob0_0 ob0_1 : Int) (ob0_2 : List Row) (ob0_3 : List Pr) : zeA N A_2 (n + 1) t10 t11 t12 t17 t18 ob0_0 ob0_1 ob0_2 ob0_3 = zim N A_2 (zeA N A_2 n) t10 t11 t12 t17 t18 ob0_0 ob0_1 ob0_2 ob0_3 := rfl
def zin (N : Nat) (A_2 : (List Row) -> Int -> Int -> Int -> Int -> (List Row) -> (List Pr) -> Option (Bool × Unit)) (t10 : List Row) (t11 t12 ob0_0 ob0_1 : Int) (ob0_2 : List Row) (ob0_3 : List Pr) : Option (Bool × Unit) :=
  cond ((ltI t12 t11)) (must (leI (0 : Int) t12 && ltI t12 (↑t10.length : Int)) (zeA N A_2 N t10 t11 t12 ([Row.w0 (List.getD t10 t12.toNat zrow), Row.w1 (List.getD t10 t12.toNat zrow), Row.w2 (List.getD t10 t12.toNat zrow)]) (0 : Int) ob0_0 ob0_1 ob0_2 ob0_3)) (zd3 N N ob0_3 ((↑ob0_3.length : Int)) (0 : Int) ob0_0 ob0_1 ob0_2 ob0_3)
theorem zud : zqB = zin := by
  (repeat (apply funext; intro _))
  simp only [zqB, zin, hide_eq, zrO, zuc, zaf, zai, zaj, zah]
def zio (N n : Nat) (t10 : List Row) (t11 t12 ob0_0 ob0_1 : Int) (ob0_2 : List Row) (ob0_3 : List Pr) : Option (Bool × Unit) :=
  zam (fun A x => zin N (fun t10 t11 t12 ob0_0 ob0_1 ob0_2 ob0_3 => A (((), (t10, (t11, (t12, ())))), ((ob0_0, (ob0_1, (ob0_2, (ob0_3, ())))), ()))) x.1.2.1 x.1.2.2.1 x.1.2.2.2.1 x.2.1.1 x.2.1.2.1 x.2.1.2.2.1 x.2.1.2.2.2.1) n (((), (t10, (t11, (t12, ())))), ((ob0_0, (ob0_1, (ob0_2, (ob0_3, ())))), ()))
theorem zue : zqC = zio := by
  (repeat (apply funext; intro _))
  simp only [zqC, zio, zud, zaf, zai, zaj, zah]
theorem zg1 (N n : Nat) (t10 : List Row) (t11 t12 ob0_0 ob0_1 : Int) (ob0_2 : List Row) (ob0_3 : List Pr) : zio N (n + 1) t10 t11 t12 ob0_0 ob0_1 ob0_2 ob0_3 = zin N (zio N n) t10 t11 t12 ob0_0 ob0_1 ob0_2 ob0_3 := rfl
def q201 (N : Nat) (c0 v1 : Int) (v2 : List Row) (v3 : List Pr) : Option (Bool × Unit) :=
  zio N N v2 ((↑v2.length : Int)) (0 : Int) c0 v1 v2 v3
theorem zAA : p201 = q201 := by
  (repeat (apply funext; intro _))
  simp only [p201, q201, zue, zaf, zai, zaj, zah]
def q220 (N : Nat) (r0 : Row) : Option (Bool × Unit) :=
  Option.bind (q108 N (Stp.mk (7 : Int) r0.w0 (0 : Int) (0 : Int) (Fr.zero) (Fr.zero) (Fr.zero) (Fr.zero) (Fr.zero))) fun rr0 => cond ((leI (0 : Int) r0.w0)) (must (ltI (0 : Int) (↑rr0.1.length : Int)) (some (((zaU r0 (List.getD rr0.1 (0 : Nat) zrow)), ())))) (some ((false, ())))
theorem zAB : p220 = q220 := by
  (repeat (apply funext; intro _))
  simp only [p220, q220, hide_eq, zAx, zaf, zai, zaj, zah]
def zip (N : Nat) (A_2 : (List Row) -> Int -> Int -> Int -> Int -> (List Row) -> (List Pr) -> Option (Bool × Unit)) (t6 : List Row) (t7 t8 ob0_0 ob0_1 : Int) (ob0_2 : List Row) (ob0_3 : List Pr) : Option (Bool × Unit) :=
  cond ((ltI t8 t7)) (must (leI (0 : Int) t8 && ltI t8 (↑t6.length : Int)) (cond ((ltI t8 ob0_0)) (Option.bind (q220 N (Row.mk ((Row.q0 (List.getD t6 t8.toNat zrow))) ((Row.q1 (List.getD t6 t8.toNat zrow))) ((Row.q2 (List.getD t6 t8.toNat zrow))) ((Row.q3 (List.getD t6 t8.toNat zrow))) ((Row.q4 (List.getD t6 t8.toNat zrow))) ((Row.q5 (List.getD t6 t8.toNat zrow))) ((Row.q6 (List.getD t6 t8.toNat zrow))) ((Row.q7 (List.getD t6 t8.toNat zrow))) (Row.w0 (List.getD t6 t8.toNat zrow)) (Row.w1 (List.getD t6 t8.toNat zrow)) (Row.w2 (List.getD t6 t8.toNat zrow)))) fun r0 => cond (!r0.1) (some ((false, ()))) (cond ((ltI (mnI (mnI (Row.w0 (List.getD t6 t8.toNat zrow)) (Row.w1 (List.getD t6 t8.toNat zrow))) (Row.w2 (List.getD t6 t8.toNat zrow))) (-1 : Int))) (some ((false, ()))) (A_2 t6 t7 ((wr (t8 + (1 : Int)))) ob0_0 ob0_1 ob0_2 ob0_3))) (cond ((ltI (mnI (mnI (Row.w0 (List.getD t6 t8.toNat zrow)) (Row.w1 (List.getD t6 t8.toNat zrow))) (Row.w2 (List.getD t6 t8.toNat zrow))) (-1 : Int))) (some ((false, ()))) (A_2 t6 t7 ((wr (t8 + (1 : Int)))) ob0_0 ob0_1 ob0_2 ob0_3)))) (some ((true, ())))
theorem zuf : zqF = zip := by
  (repeat (apply funext; intro _))
  simp only [zqF, zip, hide_eq, zAB, zaf, zai, zaj, zah]
def ziq (N n : Nat) (t6 : List Row) (t7 t8 ob0_0 ob0_1 : Int) (ob0_2 : List Row) (ob0_3 : List Pr) : Option (Bool × Unit) :=
  zam (fun A x => zip N (fun t6 t7 t8 ob0_0 ob0_1 ob0_2 ob0_3 => A (((), (t6, (t7, (t8, ())))), ((ob0_0, (ob0_1, (ob0_2, (ob0_3, ())))), ()))) x.1.2.1 x.1.2.2.1 x.1.2.2.2.1 x.2.1.1 x.2.1.2.1 x.2.1.2.2.1 x.2.1.2.2.2.1) n (((), (t6, (t7, (t8, ())))), ((ob0_0, (ob0_1, (ob0_2, (ob0_3, ())))), ()))
theorem zug : zqG = ziq := by
  (repeat (apply funext; intro _))
  simp only [zqG, ziq, zuf, zaf, zai, zaj, zah]
theorem zg2 (N n : Nat) (t6 : List Row) (t7 t8 ob0_0 ob0_1 : Int) (ob0_2 : List Row) (ob0_3 : List Pr) : ziq N (n + 1) t6 t7 t8 ob0_0 ob0_1 ob0_2 ob0_3 = zip N (ziq N n) t6 t7 t8 ob0_0 ob0_1 ob0_2 ob0_3 := rfl
def q202 (N : Nat) (c0 v1 : Int) (v2 : List Row) (v3 : List Pr) : Option (Bool × Unit) :=
  ziq N N v2 ((↑v2.length : Int)) (0 : Int) c0 v1 v2 v3
theorem zAC : p202 = q202 := by
  (repeat (apply funext; intro _))
  simp only [p202, q202, zug, zaf, zai, zaj, zah]
def q119 (N : Nat) (c0 v1 : Int) (v2 : List Row) (v3 : List Pr) : Option (Int × Unit) :=
  cond ((ltI (8 : Int) c0)) (cond ((ltI (8 : Int) c0)) (some (((8 : Int), ()))) (cond ((ltI c0 (0 : Int))) (cond ((ltI c0 (0 : Int))) (some (((1 : Int), ()))) (Option.bind (q200 N c0 v1 v2 v3) fun r33 => cond (!r33.1) (some (((4 : Int), ()))) (Option.bind (q201 N c0 v1 v2 v3) fun r34 => cond (!r34.1) (some (((10 : Int), ()))) (Option.bind (q202 N c0 v1 v2 v3) fun r35 => cond (!r35.1) (some (((3 : Int), ()))) (some (((0 : Int), ()))))))) (cond ((ltI v1 (0 : Int))) (cond ((ltI v1 (0 : Int))) (some (((1 : Int), ()))) (Option.bind (q200 N c0 v1 v2 v3) fun r30 => cond (!r30.1) (some (((4 : Int), ()))) (Option.bind (q201 N c0 v1 v2 v3) fun r31 => cond (!r31.1) (some (((10 : Int), ()))) (Option.bind (q202 N c0 v1 v2 v3) fun r32 => cond (!r32.1) (some (((3 : Int), ()))) (some (((0 : Int), ()))))))) (cond ((ltI (↑v2.length : Int) c0)) (some (((1 : Int), ()))) (Option.bind (q200 N c0 v1 v2 v3) fun r27 => cond (!r27.1) (some (((4 : Int), ()))) (Option.bind (q201 N c0 v1 v2 v3) fun r28 => cond (!r28.1) (some (((10 : Int), ()))) (Option.bind (q202 N c0 v1 v2 v3) fun r29 => cond (!r29.1) (some (((3 : Int), ()))) (some (((0 : Int), ())))))))))) (cond ((ltI (200 : Int) v1)) (cond ((ltI (200 : Int) v1)) (some (((8 : Int), ()))) (cond ((ltI c0 (0 : Int))) (cond ((ltI c0 (0 : Int))) (some (((1 : Int), ()))) (Option.bind (q200 N c0 v1 v2 v3) fun r24 => cond (!r24.1) (some (((4 : Int), ()))) (Option.bind (q201 N c0 v1 v2 v3) fun r25 => cond (!r25.1) (some (((10 : Int), ()))) (Option.bind (q202 N c0 v1 v2 v3) fun r26 => cond (!r26.1) (some (((3 : Int), ()))) (some (((0 : Int), ()))))))) (cond ((ltI v1 (0 : Int))) (cond ((ltI v1 (0 : Int))) (some (((1 : Int), ()))) (Option.bind (q200 N c0 v1 v2 v3) fun r21 => cond (!r21.1) (some (((4 : Int), ()))) (Option.bind (q201 N c0 v1 v2 v3) fun r22 => cond (!r22.1) (some (((10 : Int), ()))) (Option.bind (q202 N c0 v1 v2 v3) fun r23 => cond (!r23.1) (some (((3 : Int), ()))) (some (((0 : Int), ()))))))) (cond ((ltI (↑v2.length : Int) c0)) (some (((1 : Int), ()))) (Option.bind (q200 N c0 v1 v2 v3) fun r18 => cond (!r18.1) (some (((4 : Int), ()))) (Option.bind (q201 N c0 v1 v2 v3) fun r19 => cond (!r19.1) (some (((10 : Int), ()))) (Option.bind (q202 N c0 v1 v2 v3) fun r20 => cond (!r20.1) (some (((3 : Int), ()))) (some (((0 : Int), ())))))))))) (cond ((ltI (64 : Int) (↑v2.length : Int))) (cond ((ltI (64 : Int) (↑v2.length : Int))) (some (((8 : Int), ()))) (cond ((ltI c0 (0 : Int))) (cond ((ltI c0 (0 : Int))) (some (((1 : Int), ()))) (Option.bind (q200 N c0 v1 v2 v3) fun r15 => cond (!r15.1) (some (((4 : Int), ()))) (Option.bind (q201 N c0 v1 v2 v3) fun r16 => cond (!r16.1) (some (((10 : Int), ()))) (Option.bind (q202 N c0 v1 v2 v3) fun r17 => cond (!r17.1) (some (((3 : Int), ()))) (some (((0 : Int), ()))))))) (cond ((ltI v1 (0 : Int))) (cond ((ltI v1 (0 : Int))) (some (((1 : Int), ()))) (Option.bind (q200 N c0 v1 v2 v3) fun r12 => cond (!r12.1) (some (((4 : Int), ()))) (Option.bind (q201 N c0 v1 v2 v3) fun r13 => cond (!r13.1) (some (((10 : Int), ()))) (Option.bind (q202 N c0 v1 v2 v3) fun r14 => cond (!r14.1) (some (((3 : Int), ()))) (some (((0 : Int), ()))))))) (cond ((ltI (↑v2.length : Int) c0)) (some (((1 : Int), ()))) (Option.bind (q200 N c0 v1 v2 v3) fun r9 => cond (!r9.1) (some (((4 : Int), ()))) (Option.bind (q201 N c0 v1 v2 v3) fun r10 => cond (!r10.1) (some (((10 : Int), ()))) (Option.bind (q202 N c0 v1 v2 v3) fun r11 => cond (!r11.1) (some (((3 : Int), ()))) (some (((0 : Int), ())))))))))) (cond ((ltI (200 : Int) (↑v3.length : Int))) (some (((8 : Int), ()))) (cond ((ltI c0 (0 : Int))) (cond ((ltI c0 (0 : Int))) (some (((1 : Int), ()))) (Option.bind (q200 N c0 v1 v2 v3) fun r6 => cond (!r6.1) (some (((4 : Int), ()))) (Option.bind (q201 N c0 v1 v2 v3) fun r7 => cond (!r7.1) (some (((10 : Int), ()))) (Option.bind (q202 N c0 v1 v2 v3) fun r8 => cond (!r8.1) (some (((3 : Int), ()))) (some (((0 : Int), ()))))))) (cond ((ltI v1 (0 : Int))) (cond ((ltI v1 (0 : Int))) (some (((1 : Int), ()))) (Option.bind (q200 N c0 v1 v2 v3) fun r3 => cond (!r3.1) (some (((4 : Int), ()))) (Option.bind (q201 N c0 v1 v2 v3) fun r4 => cond (!r4.1) (some (((10 : Int), ()))) (Option.bind (q202 N c0 v1 v2 v3) fun r5 => cond (!r5.1) (some (((3 : Int), ()))) (some (((0 : Int), ()))))))) (cond ((ltI (↑v2.length : Int) c0)) (some (((1 : Int), ()))) (Option.bind (q200 N c0 v1 v2 v3) fun r0 => cond (!r0.1) (some (((4 : Int), ()))) (Option.bind (q201 N c0 v1 v2 v3) fun r1 => cond (!r1.1) (some (((10 : Int), ()))) (Option.bind (q202 N c0 v1 v2 v3) fun r2 => cond (!r2.1) (some (((3 : Int), ()))) (some (((0 : Int), ()))))))))))))
theorem zrP : p119 = q119 := by
  (repeat (apply funext; intro _))
  simp only [p119, q119, hide_eq, zAz, zAA, zAC, zaf, zai, zaj, zah]
def ze4 (N : Nat) (A_1000 : Int -> Int -> (List Row) -> (List Pr) -> (List Int) -> Option (List Int × Unit)) (A_19 : Bool -> Int -> Int -> Int -> Int -> (List Row) -> (List Pr) -> (List Int) -> Option (List Int × Unit)) (turned5 : Bool) (t64 t65 ob0_0 ob0_1 : Int) (ob0_2 : List Row) (ob0_3 : List Pr) (l3o : List Int) : Option (List Int × Unit) :=
  cond ((ltI t65 t64)) (must (leI (0 : Int) t65 && ltI t65 (↑l3o.length : Int)) (must (leI (0 : Int) (List.getD l3o t65.toNat (0 : Int)) && ltI (List.getD l3o t65.toNat (0 : Int)) (↑l3o.length : Int)) (cond ((ltI (List.getD l3o (Int.toNat (List.getD l3o t65.toNat (0 : Int))) (0 : Int)) (List.getD l3o t65.toNat (0 : Int)))) (must (leI (0 : Int) (List.getD l3o t65.toNat (0 : Int)) && ltI (List.getD l3o t65.toNat (0 : Int)) (↑l3o.length : Int)) (must (leI (0 : Int) t65 && ltI t65 (↑l3o.length : Int)) (A_19 true t64 ((wr (t65 + (1 : Int)))) ob0_0 ob0_1 ob0_2 ob0_3 (setL l3o t65.toNat (List.getD l3o (Int.toNat (List.getD l3o t65.toNat (0 : Int))) (0 : Int)))))) (A_19 turned5 t64 ((wr (t65 + (1 : Int)))) ob0_0 ob0_1 ob0_2 ob0_3 l3o)))) (cond turned5 (A_1000 ob0_0 ob0_1 ob0_2 ob0_3 l3o) (some ((l3o, ()))))
theorem zrQ : zlQ = ze4 := by
  (repeat (apply funext; intro _))
  simp only [zlQ, ze4, hide_eq, zaf, zai, zaj, zah]
def zd4 (N : Nat) (A_1000 : Int -> Int -> (List Row) -> (List Pr) -> (List Int) -> Option (List Int × Unit)) (n : Nat) (turned5 : Bool) (t64 t65 ob0_0 ob0_1 : Int) (ob0_2 : List Row) (ob0_3 : List Pr) (l3o : List Int) : Option (List Int × Unit) :=
  zam (fun A x => ze4 N A_1000 (fun turned5 t64 t65 ob0_0 ob0_1 ob0_2 ob0_3 l3o => A (((), ((), (turned5, ((), (t64, (t65, ())))))), ((ob0_0, (ob0_1, (ob0_2, (ob0_3, ())))), (l3o, ())))) x.1.2.2.1 x.1.2.2.2.2.1 x.1.2.2.2.2.2.1 x.2.1.1 x.2.1.2.1 x.2.1.2.2.1 x.2.1.2.2.2.1 x.2.2.1) n (((), ((), (turned5, ((), (t64, (t65, ())))))), ((ob0_0, (ob0_1, (ob0_2, (ob0_3, ())))), (l3o, ())))
theorem zrR : zlR = zd4 := by
  (repeat (apply funext; intro _))
  simp only [zlR, zd4, zrQ, zaf, zai, zaj, zah]
theorem zfw (N : Nat) (A_1000 : Int -> Int -> (List Row) -> (List Pr) -> (List Int) -> Option (List Int × Unit)) (n : Nat) (turned5 : Bool) (t64 t65 ob0_0 ob0_1 : Int) (ob0_2 : List Row) (ob0_3 : List Pr) (l3o : List Int) : zd4 N A_1000 (n + 1) turned5 t64 t65 ob0_0 ob0_1 ob0_2 ob0_3 l3o = ze4 N A_1000 (zd4 N A_1000 n) turned5 t64 t65 ob0_0 ob0_1 ob0_2 ob0_3 l3o := rfl
def ze5 (N : Nat) (A_1000 : Int -> Int -> (List Row) -> (List Pr) -> (List Int) -> Option (List Int × Unit)) (A_11 : Bool -> (List Pr) -> Int -> Int -> Int -> Int -> (List Row) -> (List Pr) -> (List Int) -> Option (List Int × Unit)) (turned5 : Bool) (t29 : List Pr) (t30 t31 ob0_0 ob0_1 : Int) (ob0_2 : List Row) (ob0_3 : List Pr) (l3o : List Int) : Option (List Int × Unit) :=
  cond ((ltI t31 t30)) (must (leI (0 : Int) t31 && ltI t31 (↑t29.length : Int)) (must (leI (0 : Int) (Pr.x (List.getD t29 t31.toNat (Pr.mk (0 : Int) (0 : Int)))) && ltI (Pr.x (List.getD t29 t31.toNat (Pr.mk (0 : Int) (0 : Int)))) (↑l3o.length : Int)) (must (leI (0 : Int) (Pr.y (List.getD t29 t31.toNat (Pr.mk (0 : Int) (0 : Int)))) && ltI (Pr.y (List.getD t29 t31.toNat (Pr.mk (0 : Int) (0 : Int)))) (↑l3o.length : Int)) (cond (!eqI (List.getD l3o (Int.toNat (Pr.x (List.getD t29 t31.toNat (Pr.mk (0 : Int) (0 : Int))))) (0 : Int)) (List.getD l3o (Int.toNat (Pr.y (List.getD t29 t31.toNat (Pr.mk (0 : Int) (0 : Int))))) (0 : Int))) (must (leI (0 : Int) (Pr.x (List.getD t29 t31.toNat (Pr.mk (0 : Int) (0 : Int)))) && ltI (Pr.x (List.getD t29 t31.toNat (Pr.mk (0 : Int) (0 : Int)))) (↑l3o.length : Int)) (must (leI (0 : Int) (Pr.y (List.getD t29 t31.toNat (Pr.mk (0 : Int) (0 : Int)))) && ltI (Pr.y (List.getD t29 t31.toNat (Pr.mk (0 : Int) (0 : Int)))) (↑(List.length (setL l3o (Int.toNat (Pr.x (List.getD t29 t31.toNat (Pr.mk (0 : Int) (0 : Int))))) (mnI (List.getD l3o (Int.toNat (Pr.x (List.getD t29 t31.toNat (Pr.mk (0 : Int) (0 : Int))))) (0 : Int)) (List.getD l3o (Int.toNat (Pr.y (List.getD t29 t31.toNat (Pr.mk (0 : Int) (0 : Int))))) (0 : Int))))) : Int)) (A_11 true t29 t30 ((wr (t31 + (1 : Int)))) ob0_0 ob0_1 ob0_2 ob0_3 (setL (setL l3o (Int.toNat (Pr.x (List.getD t29 t31.toNat (Pr.mk (0 : Int) (0 : Int))))) (mnI (List.getD l3o (Int.toNat (Pr.x (List.getD t29 t31.toNat (Pr.mk (0 : Int) (0 : Int))))) (0 : Int)) (List.getD l3o (Int.toNat (Pr.y (List.getD t29 t31.toNat (Pr.mk (0 : Int) (0 : Int))))) (0 : Int)))) (Int.toNat (Pr.y (List.getD t29 t31.toNat (Pr.mk (0 : Int) (0 : Int))))) (mnI (List.getD l3o (Int.toNat (Pr.x (List.getD t29 t31.toNat (Pr.mk (0 : Int) (0 : Int))))) (0 : Int)) (List.getD l3o (Int.toNat (Pr.y (List.getD t29 t31.toNat (Pr.mk (0 : Int) (0 : Int))))) (0 : Int))))))) (A_11 turned5 t29 t30 ((wr (t31 + (1 : Int)))) ob0_0 ob0_1 ob0_2 ob0_3 l3o))))) (zd4 N A_1000 N turned5 ((↑l3o.length : Int)) (0 : Int) ob0_0 ob0_1 ob0_2 ob0_3 l3o)
theorem zrS : zlS = ze5 := by
  (repeat (apply funext; intro _))
  simp only [zlS, ze5, hide_eq, zrR, zaf, zai, zaj, zah]
def zdq (N : Nat) (A_1000 : Int -> Int -> (List Row) -> (List Pr) -> (List Int) -> Option (List Int × Unit)) (n : Nat) (turned5 : Bool) (t29 : List Pr) (t30 t31 ob0_0 ob0_1 : Int) (ob0_2 : List Row) (ob0_3 : List Pr) (l3o : List Int) : Option (List Int × Unit) :=
  zam (fun A x => ze5 N A_1000 (fun turned5 t29 t30 t31 ob0_0 ob0_1 ob0_2 ob0_3 l3o => A (((), ((), (turned5, (t29, (t30, (t31, ())))))), ((ob0_0, (ob0_1, (ob0_2, (ob0_3, ())))), (l3o, ())))) x.1.2.2.1 x.1.2.2.2.1 x.1.2.2.2.2.1 x.1.2.2.2.2.2.1 x.2.1.1 x.2.1.2.1 x.2.1.2.2.1 x.2.1.2.2.2.1 x.2.2.1) n (((), ((), (turned5, (t29, (t30, (t31, ())))))), ((ob0_0, (ob0_1, (ob0_2, (ob0_3, ())))), (l3o, ())))
theorem zrT : zlT = zdq := by
  (repeat (apply funext; intro _))
  simp only [zlT, zdq, zrS, zaf, zai, zaj, zah]
theorem zfx (N : Nat) (A_1000 : Int -> Int -> (List Row) -> (List Pr) -> (List Int) -> Option (List Int × Unit)) (n : Nat) (turned5 : Bool) (t29 : List Pr) (t30 t31 ob0_0 ob0_1 : Int) (ob0_2 : List Row) (ob0_3 : List Pr) (l3o : List Int) : zdq N A_1000 (n + 1) turned5 t29 t30 t31 ob0_0 ob0_1 ob0_2 ob0_3 l3o = ze5 N A_1000 (zdq N A_1000 n) turned5 t29 t30 t31 ob0_0 ob0_1 ob0_2 ob0_3 l3o := rfl
def zcw (N : Nat) (A_1000 : Int -> Int -> (List Row) -> (List Pr) -> (List Int) -> Option (List Int × Unit)) (ob0_0 ob0_1 : Int) (ob0_2 : List Row) (ob0_3 : List Pr) (l3o : List Int) : Option (List Int × Unit) :=
  zdq N A_1000 N false ob0_3 ((↑ob0_3.length : Int)) (0 : Int) ob0_0 ob0_1 ob0_2 ob0_3 l3o
theorem zl9 : zgA = zcw := by
  (repeat (apply funext; intro _))
  simp only [zgA, zcw, zrT, zaf, zai, zaj, zah]
def zbc (N n : Nat) (ob0_0 ob0_1 : Int) (ob0_2 : List Row) (ob0_3 : List Pr) (l3o : List Int) : Option (List Int × Unit) :=
  zam (fun A x => zcw N (fun ob0_0 ob0_1 ob0_2 ob0_3 l3o => A (((), ((), ())), ((ob0_0, (ob0_1, (ob0_2, (ob0_3, ())))), (l3o, ())))) x.2.1.1 x.2.1.2.1 x.2.1.2.2.1 x.2.1.2.2.2.1 x.2.2.1) n (((), ((), ())), ((ob0_0, (ob0_1, (ob0_2, (ob0_3, ())))), (l3o, ())))
theorem zma : zgB = zbc := by
  (repeat (apply funext; intro _))
  simp only [zgB, zbc, zl9, zaf, zai, zaj, zah]
theorem zdN (N n : Nat) (ob0_0 ob0_1 : Int) (ob0_2 : List Row) (ob0_3 : List Pr) (l3o : List Int) : zbc N (n + 1) ob0_0 ob0_1 ob0_2 ob0_3 l3o = zcw N (zbc N n) ob0_0 ob0_1 ob0_2 ob0_3 l3o := rfl
def zir (N : Nat) (A_5 : Int -> Int -> Int -> Int -> (List Row) -> (List Pr) -> (List Int) -> Option (List Int × Unit)) (t19 t20 ob0_0 ob0_1 : Int) (ob0_2 : List Row) (ob0_3 : List Pr) (l3o : List Int) : Option (List Int × Unit) :=
  cond ((ltI t20 t19)) (must (leI (0 : Int) t20 && ltI t20 (↑l3o.length : Int)) (A_5 t19 ((wr (t20 + (1 : Int)))) ob0_0 ob0_1 ob0_2 ob0_3 (setL l3o t20.toNat t20))) (zbc N N ob0_0 ob0_1 ob0_2 ob0_3 l3o)
theorem zuh : zqJ = zir := by
  (repeat (apply funext; intro _))
  simp only [zqJ, zir, hide_eq, zma, zaf, zai, zaj, zah]
def zis (N n : Nat) (t19 t20 ob0_0 ob0_1 : Int) (ob0_2 : List Row) (ob0_3 : List Pr) (l3o : List Int) : Option (List Int × Unit) :=
  zam (fun A x => zir N (fun t19 t20 ob0_0 ob0_1 ob0_2 ob0_3 l3o => A (((), ((), (t19, (t20, ())))), ((ob0_0, (ob0_1, (ob0_2, (ob0_3, ())))), (l3o, ())))) x.1.2.2.1 x.1.2.2.2.1 x.2.1.1 x.2.1.2.1 x.2.1.2.2.1 x.2.1.2.2.2.1 x.2.2.1) n (((), ((), (t19, (t20, ())))), ((ob0_0, (ob0_1, (ob0_2, (ob0_3, ())))), (l3o, ())))
theorem zui : zqK = zis := by
  (repeat (apply funext; intro _))
  simp only [zqK, zis, zuh, zaf, zai, zaj, zah]
theorem zg3 (N n : Nat) (t19 t20 ob0_0 ob0_1 : Int) (ob0_2 : List Row) (ob0_3 : List Pr) (l3o : List Int) : zis N (n + 1) t19 t20 ob0_0 ob0_1 ob0_2 ob0_3 l3o = zir N (zis N n) t19 t20 ob0_0 ob0_1 ob0_2 ob0_3 l3o := rfl
def q134 (N : Nat) (c0 v1 : Int) (v2 : List Row) (v3 : List Pr) : Option (List Int × Unit) :=
  Option.bind (q119 N c0 v1 v2 v3) fun r0 => cond (!eqI r0.1 (0 : Int)) (some (([], ()))) (must (leI (0 : Int) v1 && (eqI v1 v1 && leN (Int.toNat v1 * (8 : Nat)) (140737488355328 : Nat))) (zis N N ((↑(List.length (List.replicate v1.toNat (0 : Int))) : Int)) (0 : Int) c0 v1 v2 v3 (List.replicate v1.toNat (0 : Int))))
theorem zAD : p134 = q134 := by
  (repeat (apply funext; intro _))
  simp only [p134, q134, hide_eq, zui, zrP, zaf, zai, zaj, zah]
end
section
def zjo (N : Nat) (A_7 : Bool -> Int -> Int -> (List Row) -> (List Pr) -> (List Int) -> Option (List Int × Unit)) (A_10 : Bool -> Int -> Int -> Int -> (List Row) -> (List Pr) -> (List Int) -> Option (List Int × Unit)) (again5 : Bool) (i6 ob0_0 ob0_1 : Int) (ob0_2 : List Row) (ob0_3 : List Pr) (l3o : List Int) : Option (List Int × Unit) :=
  cond ((ltI i6 (↑ob0_3.length : Int))) (must (leI (0 : Int) i6 && ltI i6 (↑ob0_3.length : Int)) (must (leI (0 : Int) i6 && ltI i6 (↑ob0_3.length : Int)) (must (leI (0 : Int) (Pr.x (List.getD ob0_3 i6.toNat (Pr.mk (0 : Int) (0 : Int)))) && ltI (Pr.x (List.getD ob0_3 i6.toNat (Pr.mk (0 : Int) (0 : Int)))) (↑l3o.length : Int)) (must (leI (0 : Int) (Pr.y (List.getD ob0_3 i6.toNat (Pr.mk (0 : Int) (0 : Int)))) && ltI (Pr.y (List.getD ob0_3 i6.toNat (Pr.mk (0 : Int) (0 : Int)))) (↑l3o.length : Int)) (cond again5 (must (leI (0 : Int) (Pr.x (List.getD ob0_3 i6.toNat (Pr.mk (0 : Int) (0 : Int)))) && ltI (Pr.x (List.getD ob0_3 i6.toNat (Pr.mk (0 : Int) (0 : Int)))) (↑l3o.length : Int)) (must (leI (0 : Int) (Pr.y (List.getD ob0_3 i6.toNat (Pr.mk (0 : Int) (0 : Int)))) && ltI (Pr.y (List.getD ob0_3 i6.toNat (Pr.mk (0 : Int) (0 : Int)))) (↑(List.length (setL l3o (Int.toNat (Pr.x (List.getD ob0_3 i6.toNat (Pr.mk (0 : Int) (0 : Int))))) (mnI (List.getD l3o (Int.toNat (Pr.x (List.getD ob0_3 i6.toNat (Pr.mk (0 : Int) (0 : Int))))) (0 : Int)) (List.getD l3o (Int.toNat (Pr.y (List.getD ob0_3 i6.toNat (Pr.mk (0 : Int) (0 : Int))))) (0 : Int))))) : Int)) (A_10 true ((wr (i6 + (1 : Int)))) ob0_0 ob0_1 ob0_2 ob0_3 (setL (setL l3o (Int.toNat (Pr.x (List.getD ob0_3 i6.toNat (Pr.mk (0 : Int) (0 : Int))))) (mnI (List.getD l3o (Int.toNat (Pr.x (List.getD ob0_3 i6.toNat (Pr.mk (0 : Int) (0 : Int))))) (0 : Int)) (List.getD l3o (Int.toNat (Pr.y (List.getD ob0_3 i6.toNat (Pr.mk (0 : Int) (0 : Int))))) (0 : Int)))) (Int.toNat (Pr.y (List.getD ob0_3 i6.toNat (Pr.mk (0 : Int) (0 : Int))))) (mnI (List.getD l3o (Int.toNat (Pr.x (List.getD ob0_3 i6.toNat (Pr.mk (0 : Int) (0 : Int))))) (0 : Int)) (List.getD l3o (Int.toNat (Pr.y (List.getD ob0_3 i6.toNat (Pr.mk (0 : Int) (0 : Int))))) (0 : Int))))))) (must (leI (0 : Int) (Pr.x (List.getD ob0_3 i6.toNat (Pr.mk (0 : Int) (0 : Int)))) && ltI (Pr.x (List.getD ob0_3 i6.toNat (Pr.mk (0 : Int) (0 : Int)))) (↑l3o.length : Int)) (cond (!eqI (List.getD l3o (Int.toNat (Pr.x (List.getD ob0_3 i6.toNat (Pr.mk (0 : Int) (0 : Int))))) (0 : Int)) (mnI (List.getD l3o (Int.toNat (Pr.x (List.getD ob0_3 i6.toNat (Pr.mk (0 : Int) (0 : Int))))) (0 : Int)) (List.getD l3o (Int.toNat (Pr.y (List.getD ob0_3 i6.toNat (Pr.mk (0 : Int) (0 : Int))))) (0 : Int)))) (must (leI (0 : Int) (Pr.x (List.getD ob0_3 i6.toNat (Pr.mk (0 : Int) (0 : Int)))) && ltI (Pr.x (List.getD ob0_3 i6.toNat (Pr.mk (0 : Int) (0 : Int)))) (↑l3o.length : Int)) (must (leI (0 : Int) (Pr.y (List.getD ob0_3 i6.toNat (Pr.mk (0 : Int) (0 : Int)))) && ltI (Pr.y (List.getD ob0_3 i6.toNat (Pr.mk (0 : Int) (0 : Int)))) (↑(List.length (setL l3o (Int.toNat (Pr.x (List.getD ob0_3 i6.toNat (Pr.mk (0 : Int) (0 : Int))))) (mnI (List.getD l3o (Int.toNat (Pr.x (List.getD ob0_3 i6.toNat (Pr.mk (0 : Int) (0 : Int))))) (0 : Int)) (List.getD l3o (Int.toNat (Pr.y (List.getD ob0_3 i6.toNat (Pr.mk (0 : Int) (0 : Int))))) (0 : Int))))) : Int)) (A_10 true ((wr (i6 + (1 : Int)))) ob0_0 ob0_1 ob0_2 ob0_3 (setL (setL l3o (Int.toNat (Pr.x (List.getD ob0_3 i6.toNat (Pr.mk (0 : Int) (0 : Int))))) (mnI (List.getD l3o (Int.toNat (Pr.x (List.getD ob0_3 i6.toNat (Pr.mk (0 : Int) (0 : Int))))) (0 : Int)) (List.getD l3o (Int.toNat (Pr.y (List.getD ob0_3 i6.toNat (Pr.mk (0 : Int) (0 : Int))))) (0 : Int)))) (Int.toNat (Pr.y (List.getD ob0_3 i6.toNat (Pr.mk (0 : Int) (0 : Int))))) (mnI (List.getD l3o (Int.toNat (Pr.x (List.getD ob0_3 i6.toNat (Pr.mk (0 : Int) (0 : Int))))) (0 : Int)) (List.getD l3o (Int.toNat (Pr.y (List.getD ob0_3 i6.toNat (Pr.mk (0 : Int) (0 : Int))))) (0 : Int))))))) (must (leI (0 : Int) (Pr.y (List.getD ob0_3 i6.toNat (Pr.mk (0 : Int) (0 : Int)))) && ltI (Pr.y (List.getD ob0_3 i6.toNat (Pr.mk (0 : Int) (0 : Int)))) (↑l3o.length : Int)) (must (leI (0 : Int) (Pr.x (List.getD ob0_3 i6.toNat (Pr.mk (0 : Int) (0 : Int)))) && ltI (Pr.x (List.getD ob0_3 i6.toNat (Pr.mk (0 : Int) (0 : Int)))) (↑l3o.length : Int)) (must (leI (0 : Int) (Pr.y (List.getD ob0_3 i6.toNat (Pr.mk (0 : Int) (0 : Int)))) && ltI (Pr.y (List.getD ob0_3 i6.toNat (Pr.mk (0 : Int) (0 : Int)))) (↑(List.length (setL l3o (Int.toNat (Pr.x (List.getD ob0_3 i6.toNat (Pr.mk (0 : Int) (0 : Int))))) (mnI (List.getD l3o (Int.toNat (Pr.x (List.getD ob0_3 i6.toNat (Pr.mk (0 : Int) (0 : Int))))) (0 : Int)) (List.getD l3o (Int.toNat (Pr.y (List.getD ob0_3 i6.toNat (Pr.mk (0 : Int) (0 : Int))))) (0 : Int))))) : Int)) (A_10 (!eqI (List.getD l3o (Int.toNat (Pr.y (List.getD ob0_3 i6.toNat (Pr.mk (0 : Int) (0 : Int))))) (0 : Int)) (mnI (List.getD l3o (Int.toNat (Pr.x (List.getD ob0_3 i6.toNat (Pr.mk (0 : Int) (0 : Int))))) (0 : Int)) (List.getD l3o (Int.toNat (Pr.y (List.getD ob0_3 i6.toNat (Pr.mk (0 : Int) (0 : Int))))) (0 : Int)))) ((wr (i6 + (1 : Int)))) ob0_0 ob0_1 ob0_2 ob0_3 (setL (setL l3o (Int.toNat (Pr.x (List.getD ob0_3 i6.toNat (Pr.mk (0 : Int) (0 : Int))))) (mnI (List.getD l3o (Int.toNat (Pr.x (List.getD ob0_3 i6.toNat (Pr.mk (0 : Int) (0 : Int))))) (0 : Int)) (List.getD l3o (Int.toNat (Pr.y (List.getD ob0_3 i6.toNat (Pr.mk (0 : Int) (0 : Int))))) (0 : Int)))) (Int.toNat (Pr.y (List.getD ob0_3 i6.toNat (Pr.mk (0 : Int) (0 : Int))))) (mnI (List.getD l3o (Int.toNat (Pr.x (List.getD ob0_3 i6.toNat (Pr.mk (0 : Int) (0 : Int))))) (0 : Int)) (List.getD l3o (Int.toNat (Pr.y (List.getD ob0_3 i6.toNat (Pr.mk (0 : Int) (0 : Int))))) (0 : Int))))))))))))))) (A_7 again5 ob0_0 ob0_1 ob0_2 ob0_3 l3o)
def ze6 (N : Nat) (A_7 : Bool -> Int -> Int -> (List Row) -> (List Pr) -> (List Int) -> Option (List Int × Unit)) (n : Nat) (again5 : Bool) (i6 ob0_0 ob0_1 : Int) (ob0_2 : List Row) (ob0_3 : List Pr) (l3o : List Int) : Option (List Int × Unit) :=
  zam (fun A x => zjo N A_7 (fun again5 i6 ob0_0 ob0_1 ob0_2 ob0_3 l3o => A (((), ((), (again5, (i6, ())))), ((ob0_0, (ob0_1, (ob0_2, (ob0_3, ())))), (l3o, ())))) x.1.2.2.1 x.1.2.2.2.1 x.2.1.1 x.2.1.2.1 x.2.1.2.2.1 x.2.1.2.2.2.1 x.2.2.1) n (((), ((), (again5, (i6, ())))), ((ob0_0, (ob0_1, (ob0_2, (ob0_3, ())))), (l3o, ())))
theorem zfy (N : Nat) (A_7 : Bool -> Int -> Int -> (List Row) -> (List Pr) -> (List Int) -> Option (List Int × Unit)) (n : Nat) (again5 : Bool) (i6 ob0_0 ob0_1 : Int) (ob0_2 : List Row) (ob0_3 : List Pr) (l3o : List Int) : ze6 N A_7 (n + 1) again5 i6 ob0_0 ob0_1 ob0_2 ob0_3 l3o = zjo N A_7 (ze6 N A_7 n) again5 i6 ob0_0 ob0_1 ob0_2 ob0_3 l3o := rfl
def zit (N : Nat) (A_7 : Bool -> Int -> Int -> (List Row) -> (List Pr) -> (List Int) -> Option (List Int × Unit)) (again5 : Bool) (ob0_0 ob0_1 : Int) (ob0_2 : List Row) (ob0_3 : List Pr) (l3o : List Int) : Option (List Int × Unit) :=
  cond again5 (ze6 N A_7 N false (0 : Int) ob0_0 ob0_1 ob0_2 ob0_3 l3o) (some ((l3o, ())))
def zg4 (N n : Nat) (again5 : Bool) (ob0_0 ob0_1 : Int) (ob0_2 : List Row) (ob0_3 : List Pr) (l3o : List Int) : Option (List Int × Unit) :=
  zam (fun A x => zit N (fun again5 ob0_0 ob0_1 ob0_2 ob0_3 l3o => A (((), ((), (again5, ()))), ((ob0_0, (ob0_1, (ob0_2, (ob0_3, ())))), (l3o, ())))) x.1.2.2.1 x.2.1.1 x.2.1.2.1 x.2.1.2.2.1 x.2.1.2.2.2.1 x.2.2.1) n (((), ((), (again5, ()))), ((ob0_0, (ob0_1, (ob0_2, (ob0_3, ())))), (l3o, ())))
theorem zc2 (N n : Nat) (again5 : Bool) (ob0_0 ob0_1 : Int) (ob0_2 : List Row) (ob0_3 : List Pr) (l3o : List Int) : zg4 N (n + 1) again5 ob0_0 ob0_1 ob0_2 ob0_3 l3o = zit N (zg4 N n) again5 ob0_0 ob0_1 ob0_2 ob0_3 l3o := rfl
def zng (N : Nat) (A_3 : Int -> Int -> Int -> (List Row) -> (List Pr) -> (List Int) -> Option (List Int × Unit)) (i4 ob0_0 ob0_1 : Int) (ob0_2 : List Row) (ob0_3 : List Pr) (l3o : List Int) : Option (List Int × Unit) :=
  cond ((ltI i4 ob0_1)) (must (leI (0 : Int) i4 && ltI i4 (↑l3o.length : Int)) (A_3 ((wr (i4 + (1 : Int)))) ob0_0 ob0_1 ob0_2 ob0_3 (setL l3o i4.toNat i4))) (zg4 N N true ob0_0 ob0_1 ob0_2 ob0_3 l3o)
def znh (N n : Nat) (i4 ob0_0 ob0_1 : Int) (ob0_2 : List Row) (ob0_3 : List Pr) (l3o : List Int) : Option (List Int × Unit) :=
  zam (fun A x => zng N (fun i4 ob0_0 ob0_1 ob0_2 ob0_3 l3o => A (((), ((), (i4, ()))), ((ob0_0, (ob0_1, (ob0_2, (ob0_3, ())))), (l3o, ())))) x.1.2.2.1 x.2.1.1 x.2.1.2.1 x.2.1.2.2.1 x.2.1.2.2.2.1 x.2.2.1) n (((), ((), (i4, ()))), ((ob0_0, (ob0_1, (ob0_2, (ob0_3, ())))), (l3o, ())))
theorem zg5 (N n : Nat) (i4 ob0_0 ob0_1 : Int) (ob0_2 : List Row) (ob0_3 : List Pr) (l3o : List Int) : znh N (n + 1) i4 ob0_0 ob0_1 ob0_2 ob0_3 l3o = zng N (znh N n) i4 ob0_0 ob0_1 ob0_2 ob0_3 l3o := rfl
def q135 (N : Nat) (c0 v1 : Int) (v2 : List Row) (v3 : List Pr) : Option (List Int × Unit) :=
  must (leI (0 : Int) v1 && (eqI v1 v1 && leN (Int.toNat v1 * (8 : Nat)) (140737488355328 : Nat))) (znh N N (0 : Int) c0 v1 v2 v3 (List.replicate v1.toNat (0 : Int)))
end
section
theorem zcx (l : List Int) (i : Nat) (a : Int) (p : Nat) : (setL l i a).getD p 0 = if p = i /\ i < l.length then a else l.getD p 0 := by
  induction l generalizing i p with
  | nil => simp [setL]
  | cons x l ih =>
    cases i with
    | zero => cases p <;> simp [setL]
    | succ i =>
      cases p with
      | zero => simp [setL]
      | succ p =>
        have := ih i p
        simp only [List.getD_eq_getElem?_getD] at this
        simp [setL, this]
def smI : List Int -> Nat
  | [] => 0
  | x :: l => x.toNat + smI l
theorem zmb (l : List Int) (i : Nat) (a : Int) (h : i < l.length) : smI (setL l i a) + (l.getD i 0).toNat = smI l + a.toNat := by
  induction l generalizing i with
  | nil => simp at h
  | cons x l ih =>
    cases i with
    | zero => simp [setL, smI]; omega
    | succ i =>
      have := ih i (by simpa using h)
      simp only [setL, smI, List.getD_cons_succ]
      omega
inductive Alike2 (S : List Pr) : Int -> Int -> Prop
  | refl (a : Int) : Alike2 S a a
  | pair {p : Pr} : p ∈ S -> Alike2 S p.x p.y
  | symm {a b : Int} : Alike2 S a b -> Alike2 S b a
  | trans {a b c : Int} : Alike2 S a b -> Alike2 S b c -> Alike2 S a c
def zbI (S : List Pr) (V : Nat) : Prop := ∀ p ∈ S, (0 <= p.x /\ p.x < (V : Int)) /\ 0 <= p.y /\ p.y < (V : Int)
structure GoodC (S : List Pr) (V : Nat) (l : List Int) : Prop where
  len : l.length = V
  nn : ∀ i : Nat, i < V -> 0 <= l.getD i 0
  le : ∀ i : Nat, i < V -> l.getD i 0 <= (i : Int)
  al : ∀ i : Nat, i < V -> Alike2 S (i : Int) (l.getD i 0)
def FixC (S : List Pr) (l : List Int) : Prop := ∀ p ∈ S, l.getD p.x.toNat 0 = l.getD p.y.toNat 0
theorem zrU {S : List Pr} {V : Nat} {l : List Int} (hS : zbI S V) (hf : FixC S l) {a b : Int} (h : Alike2 S a b) : l.getD a.toNat 0 = l.getD b.toNat 0 := by
  induction h with
  | refl => rfl
  | pair hp => exact hf _ hp
  | symm _ ih => exact ih.symm
  | trans _ _ h1 h2 => exact h1.trans h2
theorem zoh {S : List Pr} {V : Nat} {l m : List Int} (hS : zbI S V) (hl : GoodC S V l) (hm : GoodC S V m) (fl : FixC S l) (fm : FixC S m) : l = m := by
  have key : ∀ (l m : List Int), GoodC S V l -> GoodC S V m -> FixC S l -> ∀ i, i < V -> l.getD i 0 <= m.getD i 0 := by
    intro l m hl hm fl i hi
    have h1 := zrU hS fl (hm.al i hi)
    have h2 := hm.nn i hi
    have h3 := hm.le i hi
    have h4 := hl.le (m.getD i 0).toNat (by omega)
    rw [Int.toNat_natCast] at h1
    rw [h1]
    omega
  have hlen : l.length = m.length := by rw [hl.len, hm.len]
  refine List.ext_getElem hlen fun i h1 h2 => ?_
  have e1 : l.getD i 0 = l[i] := by simp [List.getD_eq_getElem?_getD, List.getElem?_eq_getElem h1]
  have e2 : m.getD i 0 = m[i] := by simp [List.getD_eq_getElem?_getD, List.getElem?_eq_getElem h2]
  have hi : i < V := by rw [← hl.len]; exact h1
  have := key l m hl hm fl i hi
  have := key m l hm hl fm i hi
  omega
theorem zjp {S : List Pr} {V : Nat} {l : List Int} (h : GoodC S V l) {i : Nat} {a : Int} (hi : i < V) (h0 : 0 <= a) (h1 : a <= l.getD i 0) (h2 : Alike2 S (i : Int) a) : GoodC S V (setL l i a) := by
  refine ⟨by rw [zaN]; exact h.len, fun j hj => ?_, fun j hj => ?_, fun j hj => ?_⟩
  . rw [zcx]
    split
    . exact h0
    . exact h.nn j hj
  . rw [zcx]
    split
    . rename_i hc; rw [hc.1]; exact Int.le_trans h1 (h.le i hi)
    . exact h.le j hj
  . rw [zcx]
    split
    . rename_i hc; rw [hc.1]; exact h2
    . exact h.al j hj
theorem zrV {S : List Pr} {V : Nat} {l : List Int} (h : GoodC S V l) {a : Int} (h0 : 0 <= a) (h1 : a < (V : Int)) : Alike2 S a (l.getD a.toNat 0) := by
  have := h.al a.toNat (by omega)
  rwa [Int.toNat_of_nonneg h0] at this
theorem zrW {S : List Pr} {V : Nat} {l : List Int} (hS : zbI S V) (h : GoodC S V l) {p : Pr} (hp : p ∈ S) :
    GoodC S V (setL (setL l p.x.toNat (mnI (l.getD p.x.toNat 0) (l.getD p.y.toNat 0))) p.y.toNat (mnI (l.getD p.x.toNat 0) (l.getD p.y.toNat 0))) /\
    smI (setL (setL l p.x.toNat (mnI (l.getD p.x.toNat 0) (l.getD p.y.toNat 0))) p.y.toNat (mnI (l.getD p.x.toNat 0) (l.getD p.y.toNat 0))) <= smI l /\
    (l.getD p.x.toNat 0 ≠ l.getD p.y.toNat 0 -> smI (setL (setL l p.x.toNat (mnI (l.getD p.x.toNat 0) (l.getD p.y.toNat 0))) p.y.toNat (mnI (l.getD p.x.toNat 0) (l.getD p.y.toNat 0))) < smI l) := by
  obtain ⟨⟨hx0, hx1⟩, hy0, hy1⟩ := hS p hp
  have hx : p.x.toNat < V := by omega
  have hy : p.y.toNat < V := by omega
  have ax := zrV h hx0 hx1
  have ay := zrV h hy0 hy1
  have ap : Alike2 S p.x p.y := .pair hp
  have cx : ((p.x.toNat : Nat) : Int) = p.x := Int.toNat_of_nonneg hx0
  have cy : ((p.y.toNat : Nat) : Int) = p.y := Int.toNat_of_nonneg hy0
  have nx := h.nn _ hx
  have ny := h.nn _ hy
  generalize hmin : mnI (l.getD p.x.toNat 0) (l.getD p.y.toNat 0) = m
  have hm : (m = l.getD p.x.toNat 0 \/ m = l.getD p.y.toNat 0) /\ m <= l.getD p.x.toNat 0 /\ m <= l.getD p.y.toNat 0 := by
    rw [← hmin]
    unfold mnI
    by_cases hlt : l.getD p.y.toNat 0 < l.getD p.x.toNat 0
    . rw [zad hlt, cond_true]; exact ⟨.inr rfl, by omega, by omega⟩
    . rw [zab hlt, cond_false]; exact ⟨.inl rfl, by omega, by omega⟩
  obtain ⟨hm1, hm2, hm3⟩ := hm
  have am : Alike2 S p.x m := by
    rcases hm1 with e | e
    . rw [e]; exact ax
    . rw [e]; exact ap.trans ay
  have g1 : GoodC S V (setL l p.x.toNat m) := zjp h hx (by omega) hm2 (by rw [cx]; exact am)
  have hy2 : m <= (setL l p.x.toNat m).getD p.y.toNat 0 := by
    rw [zcx]
    split
    . exact Int.le_refl _
    . exact hm3
  have g2 : GoodC S V (setL (setL l p.x.toNat m) p.y.toNat m) := zjp g1 hy (by omega) hy2 (by rw [cy]; exact ap.symm.trans am)
  have s1 := zmb l p.x.toNat m (by rw [h.len]; exact hx)
  have s2 := zmb (setL l p.x.toNat m) p.y.toNat m (by rw [g1.len]; exact hy)
  have hv : (setL l p.x.toNat m).getD p.y.toNat 0 = m /\ p.y.toNat = p.x.toNat \/ (setL l p.x.toNat m).getD p.y.toNat 0 = l.getD p.y.toNat 0 := by
    rw [zcx]
    split
    . rename_i hc; exact .inl ⟨rfl, hc.1⟩
    . exact .inr rfl
  refine ⟨g2, ?_, fun hne => ?_⟩
  . rcases hv with ⟨e, _⟩ | e <;> rw [e] at s2 <;> omega
  . rcases hv with ⟨e, e2⟩ | e
    . exact absurd (by rw [e2]) hne
    . rw [e] at s2
      omega
end
end Go.Proofs.Ytgimohchocjgcaa.V
