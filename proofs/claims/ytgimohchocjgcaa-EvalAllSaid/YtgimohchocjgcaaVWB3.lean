import Derived.Test.YtgimohchocjgcaaVWB1
import Derived.Test.YtgimohchocjgcaaVPA3
import Derived.KernelRfl
set_option linter.unusedVariables false
set_option linter.unusedSimpArgs false
namespace Go.Proofs.Ytgimohchocjgcaa.V
section
def ziE (N : Nat) (A_2 : (List Row) -> Int -> Int -> Option (Bool × Unit)) (A_5 : (List Row) -> Int -> Int -> (List Fr) -> Int -> Option (Bool × Unit)) (t8 : List Row) (t9 t10 : Int) (t15 : List Fr) (t16 : Int) : Option (Bool × Unit) :=
 cond ((ltI t16 (8 : Int))) (must (leI (0 : Int) t16 && (ltI t16 (↑(8 : Nat) : Int) && ltI t16 (↑t15.length : Int))) (Option.bind (q79 N ((List.getD t15 t16.toNat (Fr.zero)))) fun r0 => cond (!r0.1) (some ((false, ()))) (A_5 t8 t9 t10 t15 ((wr (t16 + (1 : Int))))))) (A_2 t8 t9 ((wr (t10 + (1 : Int)))))
theorem zvk : zq7 = ziE := by
 (repeat (apply funext; intro _))
 simp only [zq7, ziE, hide_eq, zEn, zad, zag, zah, zaf]
def zeQ (N : Nat) (A_2 : (List Row) -> Int -> Int -> Option (Bool × Unit)) (n : Nat) (t8 : List Row) (t9 t10 : Int) (t15 : List Fr) (t16 : Int) : Option (Bool × Unit) :=
 zan (fun A x => ziE N A_2 (fun t8 t9 t10 t15 t16 => A ((t8, (t9, (t10, (t15, (t16, ()))))), ())) x.1.1 x.1.2.1 x.1.2.2.1 x.1.2.2.2.1 x.1.2.2.2.2.1) n ((t8, (t9, (t10, (t15, (t16, ()))))), ())
theorem zvl : zq8 = zeQ := by
 (repeat (apply funext; intro _))
 simp only [zq8, zeQ, zvk, zad, zag, zah, zaf]
theorem zhl (N : Nat) (A_2 : (List Row) -> Int -> Int -> Option (Bool × Unit)) (n : Nat) (t8 : List Row) (t9 t10 : Int) (t15 : List Fr) (t16 : Int) : zeQ N A_2 (n + 1) t8 t9 t10 t15 t16 = ziE N A_2 (zeQ N A_2 n) t8 t9 t10 t15 t16 := rfl
def ziF (N : Nat) (A_2 : (List Row) -> Int -> Int -> Option (Bool × Unit)) (t8 : List Row) (t9 t10 : Int) : Option (Bool × Unit) :=
 cond ((ltI t10 t9)) (must (leI (0 : Int) t10 && ltI t10 (↑t8.length : Int)) (zeQ N A_2 N t8 t9 t10 ([(Row.q0 (List.getD t8 t10.toNat zrow)), (Row.q1 (List.getD t8 t10.toNat zrow)), (Row.q2 (List.getD t8 t10.toNat zrow)), (Row.q3 (List.getD t8 t10.toNat zrow)), (Row.q4 (List.getD t8 t10.toNat zrow)), (Row.q5 (List.getD t8 t10.toNat zrow)), (Row.q6 (List.getD t8 t10.toNat zrow)), (Row.q7 (List.getD t8 t10.toNat zrow))]) (0 : Int))) (some ((true, ())))
theorem zvm : zq9 = ziF := by
 (repeat (apply funext; intro _))
 simp only [zq9, ziF, hide_eq, zvl, zad, zag, zah, zaf]
def ziG (N n : Nat) (t8 : List Row) (t9 t10 : Int) : Option (Bool × Unit) :=
 zan (fun A x => ziF N (fun t8 t9 t10 => A ((t8, (t9, (t10, ()))), ())) x.1.1 x.1.2.1 x.1.2.2.1) n ((t8, (t9, (t10, ()))), ())
theorem zvn : zra = ziG := by
 (repeat (apply funext; intro _))
 simp only [zra, ziG, zvm, zad, zag, zah, zaf]
theorem zhm (N n : Nat) (t8 : List Row) (t9 t10 : Int) : ziG N (n + 1) t8 t9 t10 = ziF N (ziG N n) t8 t9 t10 := rfl
def q200 (N : Nat) (c0 v1 : Int) (v2 : List Row) (v3 : List Pr) : Option (Bool × Unit) :=
 ziG N N v2 ((↑v2.length : Int)) (0 : Int)
theorem zCc : p200 = q200 := by
 (repeat (apply funext; intro _))
 simp only [p200, q200, zvn, zad, zag, zah, zaf]
def zfj (N : Nat) (A_12 : (List Pr) -> Int -> Int -> Int -> Int -> (List Row) -> (List Pr) -> Option (Bool × Unit)) (t28 : List Pr) (t29 t30 ob0_0 ob0_1 : Int) (ob0_2 : List Row) (ob0_3 : List Pr) : Option (Bool × Unit) :=
 cond ((ltI t30 t29)) (must (leI (0 : Int) t30 && ltI t30 (↑t28.length : Int)) (cond ((ltI (mnI (Pr.x (List.getD t28 t30.toNat (Pr.mk (0 : Int) (0 : Int)))) (Pr.y (List.getD t28 t30.toNat (Pr.mk (0 : Int) (0 : Int))))) (0 : Int))) (some ((false, ()))) (cond ((leI ob0_1 (mxI (Pr.x (List.getD t28 t30.toNat (Pr.mk (0 : Int) (0 : Int)))) (Pr.y (List.getD t28 t30.toNat (Pr.mk (0 : Int) (0 : Int))))))) (some ((false, ()))) (A_12 t28 t29 ((wr (t30 + (1 : Int)))) ob0_0 ob0_1 ob0_2 ob0_3)))) (some ((true, ())))
theorem zsH : zl4 = zfj := by
 (repeat (apply funext; intro _))
 simp only [zl4, zfj, hide_eq, zad, zag, zah, zaf]
def zeh (N n : Nat) (t28 : List Pr) (t29 t30 ob0_0 ob0_1 : Int) (ob0_2 : List Row) (ob0_3 : List Pr) : Option (Bool × Unit) :=
 zan (fun A x => zfj N (fun t28 t29 t30 ob0_0 ob0_1 ob0_2 ob0_3 => A (((), (t28, (t29, (t30, ())))), ((ob0_0, (ob0_1, (ob0_2, (ob0_3, ())))), ()))) x.1.2.1 x.1.2.2.1 x.1.2.2.2.1 x.2.1.1 x.2.1.2.1 x.2.1.2.2.1 x.2.1.2.2.2.1) n (((), (t28, (t29, (t30, ())))), ((ob0_0, (ob0_1, (ob0_2, (ob0_3, ())))), ()))
theorem zsI : zl5 = zeh := by
 (repeat (apply funext; intro _))
 simp only [zl5, zeh, zsH, zad, zag, zah, zaf]
theorem zfO (N n : Nat) (t28 : List Pr) (t29 t30 ob0_0 ob0_1 : Int) (ob0_2 : List Row) (ob0_3 : List Pr) : zeh N (n + 1) t28 t29 t30 ob0_0 ob0_1 ob0_2 ob0_3 = zfj N (zeh N n) t28 t29 t30 ob0_0 ob0_1 ob0_2 ob0_3 := rfl
def ziH (N : Nat) (A_2 : (List Row) -> Int -> Int -> Int -> Int -> (List Row) -> (List Pr) -> Option (Bool × Unit)) (A_5 : (List Row) -> Int -> Int -> (List Int) -> Int -> Int -> Int -> (List Row) -> (List Pr) -> Option (Bool × Unit)) (t10 : List Row) (t11 t12 : Int) (t17 : List Int) (t18 ob0_0 ob0_1 : Int) (ob0_2 : List Row) (ob0_3 : List Pr) : Option (Bool × Unit) :=
 cond ((ltI t18 (3 : Int))) (must (leI (0 : Int) t18 && (ltI t18 (↑(3 : Nat) : Int) && ltI t18 (↑t17.length : Int))) (cond ((leI ob0_1 (List.getD t17 t18.toNat (0 : Int)))) (some ((false, ()))) (A_5 t10 t11 t12 t17 ((wr (t18 + (1 : Int)))) ob0_0 ob0_1 ob0_2 ob0_3))) (A_2 t10 t11 ((wr (t12 + (1 : Int)))) ob0_0 ob0_1 ob0_2 ob0_3)
theorem zvo : zrc = ziH := by
 (repeat (apply funext; intro _))
 simp only [zrc, ziH, hide_eq, zad, zag, zah, zaf]
def zeR (N : Nat) (A_2 : (List Row) -> Int -> Int -> Int -> Int -> (List Row) -> (List Pr) -> Option (Bool × Unit)) (n : Nat) (t10 : List Row) (t11 t12 : Int) (t17 : List Int) (t18 ob0_0 ob0_1 : Int) (ob0_2 : List Row) (ob0_3 : List Pr) : Option (Bool × Unit) :=
 zan (fun A x => ziH N A_2 (fun t10 t11 t12 t17 t18 ob0_0 ob0_1 ob0_2 ob0_3 => A (((), (t10, (t11, (t12, (t17, (t18, ())))))), ((ob0_0, (ob0_1, (ob0_2, (ob0_3, ())))), ()))) x.1.2.1 x.1.2.2.1 x.1.2.2.2.1 x.1.2.2.2.2.1 x.1.2.2.2.2.2.1 x.2.1.1 x.2.1.2.1 x.2.1.2.2.1 x.2.1.2.2.2.1) n (((), (t10, (t11, (t12, (t17, (t18, ())))))), ((ob0_0, (ob0_1, (ob0_2, (ob0_3, ())))), ()))
theorem zvp : zrd = zeR := by
 (repeat (apply funext; intro _))
 simp only [zrd, zeR, zvo, zad, zag, zah, zaf]
theorem zhn (N : Nat) (A_2 : (List Row) -> Int -> Int -> Int -> Int -> (List Row) -> (List Pr) -> Option (Bool × Unit)) (n : Nat) (t10 : List Row) (t11 t12 : Int) (t17 : List Int) (t18 ob0_0 ob0_1 : Int) (ob0_2 : List Row) (ob0_3 : List Pr) : zeR N A_2 (n + 1) t10 t11 t12 t17 t18 ob0_0 ob0_1 ob0_2 ob0_3 = ziH N A_2 (zeR N A_2 n) t10 t11 t12 t17 t18 ob0_0 ob0_1 ob0_2 ob0_3 := rfl
def ziI (N : Nat) (A_2 : (List Row) -> Int -> Int -> Int -> Int -> (List Row) -> (List Pr) -> Option (Bool × Unit)) (t10 : List Row) (t11 t12 ob0_0 ob0_1 : Int) (ob0_2 : List Row) (ob0_3 : List Pr) : Option (Bool × Unit) :=
 cond ((ltI t12 t11)) (must (leI (0 : Int) t12 && ltI t12 (↑t10.length : Int)) (zeR N A_2 N t10 t11 t12 ([Row.w0 (List.getD t10 t12.toNat zrow), Row.w1 (List.getD t10 t12.toNat zrow), Row.w2 (List.getD t10 t12.toNat zrow)]) (0 : Int) ob0_0 ob0_1 ob0_2 ob0_3)) (zeh N N ob0_3 ((↑ob0_3.length : Int)) (0 : Int) ob0_0 ob0_1 ob0_2 ob0_3)
theorem zvq : zre = ziI := by
 (repeat (apply funext; intro _))
 simp only [zre, ziI, hide_eq, zsI, zvp, zad, zag, zah, zaf]
def ziJ (N n : Nat) (t10 : List Row) (t11 t12 ob0_0 ob0_1 : Int) (ob0_2 : List Row) (ob0_3 : List Pr) : Option (Bool × Unit) :=
 zan (fun A x => ziI N (fun t10 t11 t12 ob0_0 ob0_1 ob0_2 ob0_3 => A (((), (t10, (t11, (t12, ())))), ((ob0_0, (ob0_1, (ob0_2, (ob0_3, ())))), ()))) x.1.2.1 x.1.2.2.1 x.1.2.2.2.1 x.2.1.1 x.2.1.2.1 x.2.1.2.2.1 x.2.1.2.2.2.1) n (((), (t10, (t11, (t12, ())))), ((ob0_0, (ob0_1, (ob0_2, (ob0_3, ())))), ()))
theorem zvr : zrf = ziJ := by
 (repeat (apply funext; intro _))
 simp only [zrf, ziJ, zvq, zad, zag, zah, zaf]
theorem zho (N n : Nat) (t10 : List Row) (t11 t12 ob0_0 ob0_1 : Int) (ob0_2 : List Row) (ob0_3 : List Pr) : ziJ N (n + 1) t10 t11 t12 ob0_0 ob0_1 ob0_2 ob0_3 = ziI N (ziJ N n) t10 t11 t12 ob0_0 ob0_1 ob0_2 ob0_3 := rfl
def q201 (N : Nat) (c0 v1 : Int) (v2 : List Row) (v3 : List Pr) : Option (Bool × Unit) :=
 ziJ N N v2 ((↑v2.length : Int)) (0 : Int) c0 v1 v2 v3
theorem zCd : p201 = q201 := by
 (repeat (apply funext; intro _))
 simp only [p201, q201, zvr, zad, zag, zah, zaf]
def q220 (N : Nat) (r0 : Row) : Option (Bool × Unit) :=
 Option.bind (q108 N (Stp.mk (7 : Int) r0.w0 (0 : Int) (0 : Int) (Fr.zero) (Fr.zero) (Fr.zero) (Fr.zero) (Fr.zero))) fun rr0 => cond ((leI (0 : Int) r0.w0)) (must (ltI (0 : Int) (↑rr0.1.length : Int)) (some (((zaH r0 (List.getD rr0.1 (0 : Nat) zrow)), ())))) (some ((false, ())))
theorem zCe : p220 = q220 := by
 (repeat (apply funext; intro _))
 simp only [p220, q220, hide_eq, zB8, zad, zag, zah, zaf]
def ziK (N : Nat) (A_2 : (List Row) -> Int -> Int -> Int -> Int -> (List Row) -> (List Pr) -> Option (Bool × Unit)) (t6 : List Row) (t7 t8 ob0_0 ob0_1 : Int) (ob0_2 : List Row) (ob0_3 : List Pr) : Option (Bool × Unit) :=
 cond ((ltI t8 t7)) (must (leI (0 : Int) t8 && ltI t8 (↑t6.length : Int)) (cond ((ltI t8 ob0_0)) (Option.bind (q220 N (Row.mk ((Row.q0 (List.getD t6 t8.toNat zrow))) ((Row.q1 (List.getD t6 t8.toNat zrow))) ((Row.q2 (List.getD t6 t8.toNat zrow))) ((Row.q3 (List.getD t6 t8.toNat zrow))) ((Row.q4 (List.getD t6 t8.toNat zrow))) ((Row.q5 (List.getD t6 t8.toNat zrow))) ((Row.q6 (List.getD t6 t8.toNat zrow))) ((Row.q7 (List.getD t6 t8.toNat zrow))) (Row.w0 (List.getD t6 t8.toNat zrow)) (Row.w1 (List.getD t6 t8.toNat zrow)) (Row.w2 (List.getD t6 t8.toNat zrow)))) fun r0 => cond (!r0.1) (some ((false, ()))) (cond ((ltI (mnI (mnI (Row.w0 (List.getD t6 t8.toNat zrow)) (Row.w1 (List.getD t6 t8.toNat zrow))) (Row.w2 (List.getD t6 t8.toNat zrow))) (-1 : Int))) (some ((false, ()))) (A_2 t6 t7 ((wr (t8 + (1 : Int)))) ob0_0 ob0_1 ob0_2 ob0_3))) (cond ((ltI (mnI (mnI (Row.w0 (List.getD t6 t8.toNat zrow)) (Row.w1 (List.getD t6 t8.toNat zrow))) (Row.w2 (List.getD t6 t8.toNat zrow))) (-1 : Int))) (some ((false, ()))) (A_2 t6 t7 ((wr (t8 + (1 : Int)))) ob0_0 ob0_1 ob0_2 ob0_3)))) (some ((true, ())))
theorem zvs : zri = ziK := by
 (repeat (apply funext; intro _))
 simp only [zri, ziK, hide_eq, zCe, zad, zag, zah, zaf]
def ziL (N n : Nat) (t6 : List Row) (t7 t8 ob0_0 ob0_1 : Int) (ob0_2 : List Row) (ob0_3 : List Pr) : Option (Bool × Unit) :=
 zan (fun A x => ziK N (fun t6 t7 t8 ob0_0 ob0_1 ob0_2 ob0_3 => A (((), (t6, (t7, (t8, ())))), ((ob0_0, (ob0_1, (ob0_2, (ob0_3, ())))), ()))) x.1.2.1 x.1.2.2.1 x.1.2.2.2.1 x.2.1.1 x.2.1.2.1 x.2.1.2.2.1 x.2.1.2.2.2.1) n (((), (t6, (t7, (t8, ())))), ((ob0_0, (ob0_1, (ob0_2, (ob0_3, ())))), ()))
theorem zvt : zrj = ziL := by
 (repeat (apply funext; intro _))
 simp only [zrj, ziL, zvs, zad, zag, zah, zaf]
theorem zhp (N n : Nat) (t6 : List Row) (t7 t8 ob0_0 ob0_1 : Int) (ob0_2 : List Row) (ob0_3 : List Pr) : ziL N (n + 1) t6 t7 t8 ob0_0 ob0_1 ob0_2 ob0_3 = ziK N (ziL N n) t6 t7 t8 ob0_0 ob0_1 ob0_2 ob0_3 := rfl
def q202 (N : Nat) (c0 v1 : Int) (v2 : List Row) (v3 : List Pr) : Option (Bool × Unit) :=
 ziL N N v2 ((↑v2.length : Int)) (0 : Int) c0 v1 v2 v3
theorem zCf : p202 = q202 := by
 (repeat (apply funext; intro _))
 simp only [p202, q202, zvt, zad, zag, zah, zaf]
def q119 (N : Nat) (c0 v1 : Int) (v2 : List Row) (v3 : List Pr) : Option (Int × Unit) :=
 cond ((ltI (8 : Int) c0)) (cond ((ltI (8 : Int) c0)) (some (((8 : Int), ()))) (cond ((ltI c0 (0 : Int))) (cond ((ltI c0 (0 : Int))) (some (((1 : Int), ()))) (Option.bind (q200 N c0 v1 v2 v3) fun r33 => cond (!r33.1) (some (((4 : Int), ()))) (Option.bind (q201 N c0 v1 v2 v3) fun r34 => cond (!r34.1) (some (((10 : Int), ()))) (Option.bind (q202 N c0 v1 v2 v3) fun r35 => cond (!r35.1) (some (((3 : Int), ()))) (some (((0 : Int), ()))))))) (cond ((ltI v1 (0 : Int))) (cond ((ltI v1 (0 : Int))) (some (((1 : Int), ()))) (Option.bind (q200 N c0 v1 v2 v3) fun r30 => cond (!r30.1) (some (((4 : Int), ()))) (Option.bind (q201 N c0 v1 v2 v3) fun r31 => cond (!r31.1) (some (((10 : Int), ()))) (Option.bind (q202 N c0 v1 v2 v3) fun r32 => cond (!r32.1) (some (((3 : Int), ()))) (some (((0 : Int), ()))))))) (cond ((ltI (↑v2.length : Int) c0)) (some (((1 : Int), ()))) (Option.bind (q200 N c0 v1 v2 v3) fun r27 => cond (!r27.1) (some (((4 : Int), ()))) (Option.bind (q201 N c0 v1 v2 v3) fun r28 => cond (!r28.1) (some (((10 : Int), ()))) (Option.bind (q202 N c0 v1 v2 v3) fun r29 => cond (!r29.1) (some (((3 : Int), ()))) (some (((0 : Int), ())))))))))) (cond ((ltI (200 : Int) v1)) (cond ((ltI (200 : Int) v1)) (some (((8 : Int), ()))) (cond ((ltI c0 (0 : Int))) (cond ((ltI c0 (0 : Int))) (some (((1 : Int), ()))) (Option.bind (q200 N c0 v1 v2 v3) fun r24 => cond (!r24.1) (some (((4 : Int), ()))) (Option.bind (q201 N c0 v1 v2 v3) fun r25 => cond (!r25.1) (some (((10 : Int), ()))) (Option.bind (q202 N c0 v1 v2 v3) fun r26 => cond (!r26.1) (some (((3 : Int), ()))) (some (((0 : Int), ()))))))) (cond ((ltI v1 (0 : Int))) (cond ((ltI v1 (0 : Int))) (some (((1 : Int), ()))) (Option.bind (q200 N c0 v1 v2 v3) fun r21 => cond (!r21.1) (some (((4 : Int), ()))) (Option.bind (q201 N c0 v1 v2 v3) fun r22 => cond (!r22.1) (some (((10 : Int), ()))) (Option.bind (q202 N c0 v1 v2 v3) fun r23 => cond (!r23.1) (some (((3 : Int), ()))) (some (((0 : Int), ()))))))) (cond ((ltI (↑v2.length : Int) c0)) (some (((1 : Int), ()))) (Option.bind (q200 N c0 v1 v2 v3) fun r18 => cond (!r18.1) (some (((4 : Int), ()))) (Option.bind (q201 N c0 v1 v2 v3) fun r19 => cond (!r19.1) (some (((10 : Int), ()))) (Option.bind (q202 N c0 v1 v2 v3) fun r20 => cond (!r20.1) (some (((3 : Int), ()))) (some (((0 : Int), ())))))))))) (cond ((ltI (64 : Int) (↑v2.length : Int))) (cond ((ltI (64 : Int) (↑v2.length : Int))) (some (((8 : Int), ()))) (cond ((ltI c0 (0 : Int))) (cond ((ltI c0 (0 : Int))) (some (((1 : Int), ()))) (Option.bind (q200 N c0 v1 v2 v3) fun r15 => cond (!r15.1) (some (((4 : Int), ()))) (Option.bind (q201 N c0 v1 v2 v3) fun r16 => cond (!r16.1) (some (((10 : Int), ()))) (Option.bind (q202 N c0 v1 v2 v3) fun r17 => cond (!r17.1) (some (((3 : Int), ()))) (some (((0 : Int), ()))))))) (cond ((ltI v1 (0 : Int))) (cond ((ltI v1 (0 : Int))) (some (((1 : Int), ()))) (Option.bind (q200 N c0 v1 v2 v3) fun r12 => cond (!r12.1) (some (((4 : Int), ()))) (Option.bind (q201 N c0 v1 v2 v3) fun r13 => cond (!r13.1) (some (((10 : Int), ()))) (Option.bind (q202 N c0 v1 v2 v3) fun r14 => cond (!r14.1) (some (((3 : Int), ()))) (some (((0 : Int), ()))))))) (cond ((ltI (↑v2.length : Int) c0)) (some (((1 : Int), ()))) (Option.bind (q200 N c0 v1 v2 v3) fun r9 => cond (!r9.1) (some (((4 : Int), ()))) (Option.bind (q201 N c0 v1 v2 v3) fun r10 => cond (!r10.1) (some (((10 : Int), ()))) (Option.bind (q202 N c0 v1 v2 v3) fun r11 => cond (!r11.1) (some (((3 : Int), ()))) (some (((0 : Int), ())))))))))) (cond ((ltI (200 : Int) (↑v3.length : Int))) (some (((8 : Int), ()))) (cond ((ltI c0 (0 : Int))) (cond ((ltI c0 (0 : Int))) (some (((1 : Int), ()))) (Option.bind (q200 N c0 v1 v2 v3) fun r6 => cond (!r6.1) (some (((4 : Int), ()))) (Option.bind (q201 N c0 v1 v2 v3) fun r7 => cond (!r7.1) (some (((10 : Int), ()))) (Option.bind (q202 N c0 v1 v2 v3) fun r8 => cond (!r8.1) (some (((3 : Int), ()))) (some (((0 : Int), ()))))))) (cond ((ltI v1 (0 : Int))) (cond ((ltI v1 (0 : Int))) (some (((1 : Int), ()))) (Option.bind (q200 N c0 v1 v2 v3) fun r3 => cond (!r3.1) (some (((4 : Int), ()))) (Option.bind (q201 N c0 v1 v2 v3) fun r4 => cond (!r4.1) (some (((10 : Int), ()))) (Option.bind (q202 N c0 v1 v2 v3) fun r5 => cond (!r5.1) (some (((3 : Int), ()))) (some (((0 : Int), ()))))))) (cond ((ltI (↑v2.length : Int) c0)) (some (((1 : Int), ()))) (Option.bind (q200 N c0 v1 v2 v3) fun r0 => cond (!r0.1) (some (((4 : Int), ()))) (Option.bind (q201 N c0 v1 v2 v3) fun r1 => cond (!r1.1) (some (((10 : Int), ()))) (Option.bind (q202 N c0 v1 v2 v3) fun r2 => cond (!r2.1) (some (((3 : Int), ()))) (some (((0 : Int), ()))))))))))))
theorem zsJ : p119 = q119 := by
 (repeat (apply funext; intro _))
 simp only [p119, q119, hide_eq, zCc, zCd, zCf, zad, zag, zah, zaf]
def zfk (N : Nat) (A_1000 : Int -> Int -> (List Row) -> (List Pr) -> (List Int) -> Option (List Int × Unit)) (A_19 : Bool -> Int -> Int -> Int -> Int -> (List Row) -> (List Pr) -> (List Int) -> Option (List Int × Unit)) (turned5 : Bool) (t64 t65 ob0_0 ob0_1 : Int) (ob0_2 : List Row) (ob0_3 : List Pr) (l3o : List Int) : Option (List Int × Unit) :=
 cond ((ltI t65 t64)) (must (leI (0 : Int) t65 && ltI t65 (↑l3o.length : Int)) (must (leI (0 : Int) (List.getD l3o t65.toNat (0 : Int)) && ltI (List.getD l3o t65.toNat (0 : Int)) (↑l3o.length : Int)) (cond ((ltI (List.getD l3o (Int.toNat (List.getD l3o t65.toNat (0 : Int))) (0 : Int)) (List.getD l3o t65.toNat (0 : Int)))) (must (leI (0 : Int) (List.getD l3o t65.toNat (0 : Int)) && ltI (List.getD l3o t65.toNat (0 : Int)) (↑l3o.length : Int)) (must (leI (0 : Int) t65 && ltI t65 (↑l3o.length : Int)) (A_19 true t64 ((wr (t65 + (1 : Int)))) ob0_0 ob0_1 ob0_2 ob0_3 (setL l3o t65.toNat (List.getD l3o (Int.toNat (List.getD l3o t65.toNat (0 : Int))) (0 : Int)))))) (A_19 turned5 t64 ((wr (t65 + (1 : Int)))) ob0_0 ob0_1 ob0_2 ob0_3 l3o)))) (cond turned5 (A_1000 ob0_0 ob0_1 ob0_2 ob0_3 l3o) (some ((l3o, ()))))
theorem zsK : zl7 = zfk := by
 (repeat (apply funext; intro _))
 simp only [zl7, zfk, hide_eq, zad, zag, zah, zaf]
def zei (N : Nat) (A_1000 : Int -> Int -> (List Row) -> (List Pr) -> (List Int) -> Option (List Int × Unit)) (n : Nat) (turned5 : Bool) (t64 t65 ob0_0 ob0_1 : Int) (ob0_2 : List Row) (ob0_3 : List Pr) (l3o : List Int) : Option (List Int × Unit) :=
 zan (fun A x => zfk N A_1000 (fun turned5 t64 t65 ob0_0 ob0_1 ob0_2 ob0_3 l3o => A (((), ((), (turned5, ((), (t64, (t65, ())))))), ((ob0_0, (ob0_1, (ob0_2, (ob0_3, ())))), (l3o, ())))) x.1.2.2.1 x.1.2.2.2.2.1 x.1.2.2.2.2.2.1 x.2.1.1 x.2.1.2.1 x.2.1.2.2.1 x.2.1.2.2.2.1 x.2.2.1) n (((), ((), (turned5, ((), (t64, (t65, ())))))), ((ob0_0, (ob0_1, (ob0_2, (ob0_3, ())))), (l3o, ())))
theorem zsL : zl8 = zei := by
 (repeat (apply funext; intro _))
 simp only [zl8, zei, zsK, zad, zag, zah, zaf]
theorem zfP (N : Nat) (A_1000 : Int -> Int -> (List Row) -> (List Pr) -> (List Int) -> Option (List Int × Unit)) (n : Nat) (turned5 : Bool) (t64 t65 ob0_0 ob0_1 : Int) (ob0_2 : List Row) (ob0_3 : List Pr) (l3o : List Int) : zei N A_1000 (n + 1) turned5 t64 t65 ob0_0 ob0_1 ob0_2 ob0_3 l3o = zfk N A_1000 (zei N A_1000 n) turned5 t64 t65 ob0_0 ob0_1 ob0_2 ob0_3 l3o := rfl
def zfl (N : Nat) (A_1000 : Int -> Int -> (List Row) -> (List Pr) -> (List Int) -> Option (List Int × Unit)) (A_11 : Bool -> (List Pr) -> Int -> Int -> Int -> Int -> (List Row) -> (List Pr) -> (List Int) -> Option (List Int × Unit)) (turned5 : Bool) (t29 : List Pr) (t30 t31 ob0_0 ob0_1 : Int) (ob0_2 : List Row) (ob0_3 : List Pr) (l3o : List Int) : Option (List Int × Unit) :=
 cond ((ltI t31 t30)) (must (leI (0 : Int) t31 && ltI t31 (↑t29.length : Int)) (must (leI (0 : Int) (Pr.x (List.getD t29 t31.toNat (Pr.mk (0 : Int) (0 : Int)))) && ltI (Pr.x (List.getD t29 t31.toNat (Pr.mk (0 : Int) (0 : Int)))) (↑l3o.length : Int)) (must (leI (0 : Int) (Pr.y (List.getD t29 t31.toNat (Pr.mk (0 : Int) (0 : Int)))) && ltI (Pr.y (List.getD t29 t31.toNat (Pr.mk (0 : Int) (0 : Int)))) (↑l3o.length : Int)) (cond (!eqI (List.getD l3o (Int.toNat (Pr.x (List.getD t29 t31.toNat (Pr.mk (0 : Int) (0 : Int))))) (0 : Int)) (List.getD l3o (Int.toNat (Pr.y (List.getD t29 t31.toNat (Pr.mk (0 : Int) (0 : Int))))) (0 : Int))) (must (leI (0 : Int) (Pr.x (List.getD t29 t31.toNat (Pr.mk (0 : Int) (0 : Int)))) && ltI (Pr.x (List.getD t29 t31.toNat (Pr.mk (0 : Int) (0 : Int)))) (↑l3o.length : Int)) (must (leI (0 : Int) (Pr.y (List.getD t29 t31.toNat (Pr.mk (0 : Int) (0 : Int)))) && ltI (Pr.y (List.getD t29 t31.toNat (Pr.mk (0 : Int) (0 : Int)))) (↑(List.length (setL l3o (Int.toNat (Pr.x (List.getD t29 t31.toNat (Pr.mk (0 : Int) (0 : Int))))) (mnI (List.getD l3o (Int.toNat (Pr.x (List.getD t29 t31.toNat (Pr.mk (0 : Int) (0 : Int))))) (0 : Int)) (List.getD l3o (Int.toNat (Pr.y (List.getD t29 t31.toNat (Pr.mk (0 : Int) (0 : Int))))) (0 : Int))))) : Int)) (A_11 true t29 t30 ((wr (t31 + (1 : Int)))) ob0_0 ob0_1 ob0_2 ob0_3 (setL (setL l3o (Int.toNat (Pr.x (List.getD t29 t31.toNat (Pr.mk (0 : Int) (0 : Int))))) (mnI (List.getD l3o (Int.toNat (Pr.x (List.getD t29 t31.toNat (Pr.mk (0 : Int) (0 : Int))))) (0 : Int)) (List.getD l3o (Int.toNat (Pr.y (List.getD t29 t31.toNat (Pr.mk (0 : Int) (0 : Int))))) (0 : Int)))) (Int.toNat (Pr.y (List.getD t29 t31.toNat (Pr.mk (0 : Int) (0 : Int))))) (mnI (List.getD l3o (Int.toNat (Pr.x (List.getD t29 t31.toNat (Pr.mk (0 : Int) (0 : Int))))) (0 : Int)) (List.getD l3o (Int.toNat (Pr.y (List.getD t29 t31.toNat (Pr.mk (0 : Int) (0 : Int))))) (0 : Int))))))) (A_11 turned5 t29 t30 ((wr (t31 + (1 : Int)))) ob0_0 ob0_1 ob0_2 ob0_3 l3o))))) (zei N A_1000 N turned5 ((↑l3o.length : Int)) (0 : Int) ob0_0 ob0_1 ob0_2 ob0_3 l3o)
theorem zsM : zl9 = zfl := by
 (repeat (apply funext; intro _))
 simp only [zl9, zfl, hide_eq, zsL, zad, zag, zah, zaf]
def zdx (N : Nat) (A_1000 : Int -> Int -> (List Row) -> (List Pr) -> (List Int) -> Option (List Int × Unit)) (n : Nat) (turned5 : Bool) (t29 : List Pr) (t30 t31 ob0_0 ob0_1 : Int) (ob0_2 : List Row) (ob0_3 : List Pr) (l3o : List Int) : Option (List Int × Unit) :=
 zan (fun A x => zfl N A_1000 (fun turned5 t29 t30 t31 ob0_0 ob0_1 ob0_2 ob0_3 l3o => A (((), ((), (turned5, (t29, (t30, (t31, ())))))), ((ob0_0, (ob0_1, (ob0_2, (ob0_3, ())))), (l3o, ())))) x.1.2.2.1 x.1.2.2.2.1 x.1.2.2.2.2.1 x.1.2.2.2.2.2.1 x.2.1.1 x.2.1.2.1 x.2.1.2.2.1 x.2.1.2.2.2.1 x.2.2.1) n (((), ((), (turned5, (t29, (t30, (t31, ())))))), ((ob0_0, (ob0_1, (ob0_2, (ob0_3, ())))), (l3o, ())))
theorem zsN : zma = zdx := by
 (repeat (apply funext; intro _))
 simp only [zma, zdx, zsM, zad, zag, zah, zaf]
theorem zfQ (N : Nat) (A_1000 : Int -> Int -> (List Row) -> (List Pr) -> (List Int) -> Option (List Int × Unit)) (n : Nat) (turned5 : Bool) (t29 : List Pr) (t30 t31 ob0_0 ob0_1 : Int) (ob0_2 : List Row) (ob0_3 : List Pr) (l3o : List Int) : zdx N A_1000 (n + 1) turned5 t29 t30 t31 ob0_0 ob0_1 ob0_2 ob0_3 l3o = zfl N A_1000 (zdx N A_1000 n) turned5 t29 t30 t31 ob0_0 ob0_1 ob0_2 ob0_3 l3o := rfl
def zcD (N : Nat) (A_1000 : Int -> Int -> (List Row) -> (List Pr) -> (List Int) -> Option (List Int × Unit)) (ob0_0 ob0_1 : Int) (ob0_2 : List Row) (ob0_3 : List Pr) (l3o : List Int) : Option (List Int × Unit) :=
 zdx N A_1000 N false ob0_3 ((↑ob0_3.length : Int)) (0 : Int) ob0_0 ob0_1 ob0_2 ob0_3 l3o
theorem zmG : zgZ = zcD := by
 (repeat (apply funext; intro _))
 simp only [zgZ, zcD, zsN, zad, zag, zah, zaf]
def zbc (N n : Nat) (ob0_0 ob0_1 : Int) (ob0_2 : List Row) (ob0_3 : List Pr) (l3o : List Int) : Option (List Int × Unit) :=
 zan (fun A x => zcD N (fun ob0_0 ob0_1 ob0_2 ob0_3 l3o => A (((), ((), ())), ((ob0_0, (ob0_1, (ob0_2, (ob0_3, ())))), (l3o, ())))) x.2.1.1 x.2.1.2.1 x.2.1.2.2.1 x.2.1.2.2.2.1 x.2.2.1) n (((), ((), ())), ((ob0_0, (ob0_1, (ob0_2, (ob0_3, ())))), (l3o, ())))
theorem zmH : zg0 = zbc := by
 (repeat (apply funext; intro _))
 simp only [zg0, zbc, zmG, zad, zag, zah, zaf]
theorem zdY (N n : Nat) (ob0_0 ob0_1 : Int) (ob0_2 : List Row) (ob0_3 : List Pr) (l3o : List Int) : zbc N (n + 1) ob0_0 ob0_1 ob0_2 ob0_3 l3o = zcD N (zbc N n) ob0_0 ob0_1 ob0_2 ob0_3 l3o := rfl
def ziM (N : Nat) (A_5 : Int -> Int -> Int -> Int -> (List Row) -> (List Pr) -> (List Int) -> Option (List Int × Unit)) (t19 t20 ob0_0 ob0_1 : Int) (ob0_2 : List Row) (ob0_3 : List Pr) (l3o : List Int) : Option (List Int × Unit) :=
 cond ((ltI t20 t19)) (must (leI (0 : Int) t20 && ltI t20 (↑l3o.length : Int)) (A_5 t19 ((wr (t20 + (1 : Int)))) ob0_0 ob0_1 ob0_2 ob0_3 (setL l3o t20.toNat t20))) (zbc N N ob0_0 ob0_1 ob0_2 ob0_3 l3o)
theorem zvu : zrm = ziM := by
 (repeat (apply funext; intro _))
 simp only [zrm, ziM, hide_eq, zmH, zad, zag, zah, zaf]
def ziN (N n : Nat) (t19 t20 ob0_0 ob0_1 : Int) (ob0_2 : List Row) (ob0_3 : List Pr) (l3o : List Int) : Option (List Int × Unit) :=
 zan (fun A x => ziM N (fun t19 t20 ob0_0 ob0_1 ob0_2 ob0_3 l3o => A (((), ((), (t19, (t20, ())))), ((ob0_0, (ob0_1, (ob0_2, (ob0_3, ())))), (l3o, ())))) x.1.2.2.1 x.1.2.2.2.1 x.2.1.1 x.2.1.2.1 x.2.1.2.2.1 x.2.1.2.2.2.1 x.2.2.1) n (((), ((), (t19, (t20, ())))), ((ob0_0, (ob0_1, (ob0_2, (ob0_3, ())))), (l3o, ())))
theorem zvv : zrn = ziN := by
 (repeat (apply funext; intro _))
 simp only [zrn, ziN, zvu, zad, zag, zah, zaf]
theorem zhq (N n : Nat) (t19 t20 ob0_0 ob0_1 : Int) (ob0_2 : List Row) (ob0_3 : List Pr) (l3o : List Int) : ziN N (n + 1) t19 t20 ob0_0 ob0_1 ob0_2 ob0_3 l3o = ziM N (ziN N n) t19 t20 ob0_0 ob0_1 ob0_2 ob0_3 l3o := rfl
def q134 (N : Nat) (c0 v1 : Int) (v2 : List Row) (v3 : List Pr) : Option (List Int × Unit) :=
 Option.bind (q119 N c0 v1 v2 v3) fun r0 => cond (!eqI r0.1 (0 : Int)) (some (([], ()))) (must (leI (0 : Int) v1 && (eqI v1 v1 && leN (Int.toNat v1 * (8 : Nat)) (140737488355328 : Nat))) (ziN N N ((↑(List.length (List.replicate v1.toNat (0 : Int))) : Int)) (0 : Int) c0 v1 v2 v3 (List.replicate v1.toNat (0 : Int))))
theorem zCg : p134 = q134 := by
 (repeat (apply funext; intro _))
 simp only [p134, q134, hide_eq, zvv, zsJ, zad, zag, zah, zaf]
end
section
def zfm (N : Nat) (A_7 : Bool -> Int -> Int -> (List Row) -> (List Pr) -> (List Int) -> Option (List Int × Unit)) (A_10 : Bool -> Int -> Int -> Int -> (List Row) -> (List Pr) -> (List Int) -> Option (List Int × Unit)) (again5 : Bool) (i6 ob0_0 ob0_1 : Int) (ob0_2 : List Row) (ob0_3 : List Pr) (l3o : List Int) : Option (List Int × Unit) :=
 cond ((ltI i6 (↑ob0_3.length : Int))) (must (leI (0 : Int) i6 && ltI i6 (↑ob0_3.length : Int)) (must (leI (0 : Int) i6 && ltI i6 (↑ob0_3.length : Int)) (must (leI (0 : Int) (Pr.x (List.getD ob0_3 i6.toNat (Pr.mk (0 : Int) (0 : Int)))) && ltI (Pr.x (List.getD ob0_3 i6.toNat (Pr.mk (0 : Int) (0 : Int)))) (↑l3o.length : Int)) (must (leI (0 : Int) (Pr.y (List.getD ob0_3 i6.toNat (Pr.mk (0 : Int) (0 : Int)))) && ltI (Pr.y (List.getD ob0_3 i6.toNat (Pr.mk (0 : Int) (0 : Int)))) (↑l3o.length : Int)) (cond again5 (must (leI (0 : Int) (Pr.x (List.getD ob0_3 i6.toNat (Pr.mk (0 : Int) (0 : Int)))) && ltI (Pr.x (List.getD ob0_3 i6.toNat (Pr.mk (0 : Int) (0 : Int)))) (↑l3o.length : Int)) (must (leI (0 : Int) (Pr.y (List.getD ob0_3 i6.toNat (Pr.mk (0 : Int) (0 : Int)))) && ltI (Pr.y (List.getD ob0_3 i6.toNat (Pr.mk (0 : Int) (0 : Int)))) (↑(List.length (setL l3o (Int.toNat (Pr.x (List.getD ob0_3 i6.toNat (Pr.mk (0 : Int) (0 : Int))))) (mnI (List.getD l3o (Int.toNat (Pr.x (List.getD ob0_3 i6.toNat (Pr.mk (0 : Int) (0 : Int))))) (0 : Int)) (List.getD l3o (Int.toNat (Pr.y (List.getD ob0_3 i6.toNat (Pr.mk (0 : Int) (0 : Int))))) (0 : Int))))) : Int)) (A_10 true ((wr (i6 + (1 : Int)))) ob0_0 ob0_1 ob0_2 ob0_3 (setL (setL l3o (Int.toNat (Pr.x (List.getD ob0_3 i6.toNat (Pr.mk (0 : Int) (0 : Int))))) (mnI (List.getD l3o (Int.toNat (Pr.x (List.getD ob0_3 i6.toNat (Pr.mk (0 : Int) (0 : Int))))) (0 : Int)) (List.getD l3o (Int.toNat (Pr.y (List.getD ob0_3 i6.toNat (Pr.mk (0 : Int) (0 : Int))))) (0 : Int)))) (Int.toNat (Pr.y (List.getD ob0_3 i6.toNat (Pr.mk (0 : Int) (0 : Int))))) (mnI (List.getD l3o (Int.toNat (Pr.x (List.getD ob0_3 i6.toNat (Pr.mk (0 : Int) (0 : Int))))) (0 : Int)) (List.getD l3o (Int.toNat (Pr.y (List.getD ob0_3 i6.toNat (Pr.mk (0 : Int) (0 : Int))))) (0 : Int))))))) (must (leI (0 : Int) (Pr.x (List.getD ob0_3 i6.toNat (Pr.mk (0 : Int) (0 : Int)))) && ltI (Pr.x (List.getD ob0_3 i6.toNat (Pr.mk (0 : Int) (0 : Int)))) (↑l3o.length : Int)) (cond (!eqI (List.getD l3o (Int.toNat (Pr.x (List.getD ob0_3 i6.toNat (Pr.mk (0 : Int) (0 : Int))))) (0 : Int)) (mnI (List.getD l3o (Int.toNat (Pr.x (List.getD ob0_3 i6.toNat (Pr.mk (0 : Int) (0 : Int))))) (0 : Int)) (List.getD l3o (Int.toNat (Pr.y (List.getD ob0_3 i6.toNat (Pr.mk (0 : Int) (0 : Int))))) (0 : Int)))) (must (leI (0 : Int) (Pr.x (List.getD ob0_3 i6.toNat (Pr.mk (0 : Int) (0 : Int)))) && ltI (Pr.x (List.getD ob0_3 i6.toNat (Pr.mk (0 : Int) (0 : Int)))) (↑l3o.length : Int)) (must (leI (0 : Int) (Pr.y (List.getD ob0_3 i6.toNat (Pr.mk (0 : Int) (0 : Int)))) && ltI (Pr.y (List.getD ob0_3 i6.toNat (Pr.mk (0 : Int) (0 : Int)))) (↑(List.length (setL l3o (Int.toNat (Pr.x (List.getD ob0_3 i6.toNat (Pr.mk (0 : Int) (0 : Int))))) (mnI (List.getD l3o (Int.toNat (Pr.x (List.getD ob0_3 i6.toNat (Pr.mk (0 : Int) (0 : Int))))) (0 : Int)) (List.getD l3o (Int.toNat (Pr.y (List.getD ob0_3 i6.toNat (Pr.mk (0 : Int) (0 : Int))))) (0 : Int))))) : Int)) (A_10 true ((wr (i6 + (1 : Int)))) ob0_0 ob0_1 ob0_2 ob0_3 (setL (setL l3o (Int.toNat (Pr.x (List.getD ob0_3 i6.toNat (Pr.mk (0 : Int) (0 : Int))))) (mnI (List.getD l3o (Int.toNat (Pr.x (List.getD ob0_3 i6.toNat (Pr.mk (0 : Int) (0 : Int))))) (0 : Int)) (List.getD l3o (Int.toNat (Pr.y (List.getD ob0_3 i6.toNat (Pr.mk (0 : Int) (0 : Int))))) (0 : Int)))) (Int.toNat (Pr.y (List.getD ob0_3 i6.toNat (Pr.mk (0 : Int) (0 : Int))))) (mnI (List.getD l3o (Int.toNat (Pr.x (List.getD ob0_3 i6.toNat (Pr.mk (0 : Int) (0 : Int))))) (0 : Int)) (List.getD l3o (Int.toNat (Pr.y (List.getD ob0_3 i6.toNat (Pr.mk (0 : Int) (0 : Int))))) (0 : Int))))))) (must (leI (0 : Int) (Pr.y (List.getD ob0_3 i6.toNat (Pr.mk (0 : Int) (0 : Int)))) && ltI (Pr.y (List.getD ob0_3 i6.toNat (Pr.mk (0 : Int) (0 : Int)))) (↑l3o.length : Int)) (must (leI (0 : Int) (Pr.x (List.getD ob0_3 i6.toNat (Pr.mk (0 : Int) (0 : Int)))) && ltI (Pr.x (List.getD ob0_3 i6.toNat (Pr.mk (0 : Int) (0 : Int)))) (↑l3o.length : Int)) (must (leI (0 : Int) (Pr.y (List.getD ob0_3 i6.toNat (Pr.mk (0 : Int) (0 : Int)))) && ltI (Pr.y (List.getD ob0_3 i6.toNat (Pr.mk (0 : Int) (0 : Int)))) (↑(List.length (setL l3o (Int.toNat (Pr.x (List.getD ob0_3 i6.toNat (Pr.mk (0 : Int) (0 : Int))))) (mnI (List.getD l3o (Int.toNat (Pr.x (List.getD ob0_3 i6.toNat (Pr.mk (0 : Int) (0 : Int))))) (0 : Int)) (List.getD l3o (Int.toNat (Pr.y (List.getD ob0_3 i6.toNat (Pr.mk (0 : Int) (0 : Int))))) (0 : Int))))) : Int)) (A_10 (!eqI (List.getD l3o (Int.toNat (Pr.y (List.getD ob0_3 i6.toNat (Pr.mk (0 : Int) (0 : Int))))) (0 : Int)) (mnI (List.getD l3o (Int.toNat (Pr.x (List.getD ob0_3 i6.toNat (Pr.mk (0 : Int) (0 : Int))))) (0 : Int)) (List.getD l3o (Int.toNat (Pr.y (List.getD ob0_3 i6.toNat (Pr.mk (0 : Int) (0 : Int))))) (0 : Int)))) ((wr (i6 + (1 : Int)))) ob0_0 ob0_1 ob0_2 ob0_3 (setL (setL l3o (Int.toNat (Pr.x (List.getD ob0_3 i6.toNat (Pr.mk (0 : Int) (0 : Int))))) (mnI (List.getD l3o (Int.toNat (Pr.x (List.getD ob0_3 i6.toNat (Pr.mk (0 : Int) (0 : Int))))) (0 : Int)) (List.getD l3o (Int.toNat (Pr.y (List.getD ob0_3 i6.toNat (Pr.mk (0 : Int) (0 : Int))))) (0 : Int)))) (Int.toNat (Pr.y (List.getD ob0_3 i6.toNat (Pr.mk (0 : Int) (0 : Int))))) (mnI (List.getD l3o (Int.toNat (Pr.x (List.getD ob0_3 i6.toNat (Pr.mk (0 : Int) (0 : Int))))) (0 : Int)) (List.getD l3o (Int.toNat (Pr.y (List.getD ob0_3 i6.toNat (Pr.mk (0 : Int) (0 : Int))))) (0 : Int))))))))))))))) (A_7 again5 ob0_0 ob0_1 ob0_2 ob0_3 l3o)
theorem zsO : zmb = zfm := by
 (repeat (apply funext; intro _))
 simp only [zmb, zfm, hide_eq, zad, zag, zah, zaf]
def zdy (N : Nat) (A_7 : Bool -> Int -> Int -> (List Row) -> (List Pr) -> (List Int) -> Option (List Int × Unit)) (n : Nat) (again5 : Bool) (i6 ob0_0 ob0_1 : Int) (ob0_2 : List Row) (ob0_3 : List Pr) (l3o : List Int) : Option (List Int × Unit) :=
 zan (fun A x => zfm N A_7 (fun again5 i6 ob0_0 ob0_1 ob0_2 ob0_3 l3o => A (((), ((), (again5, (i6, ())))), ((ob0_0, (ob0_1, (ob0_2, (ob0_3, ())))), (l3o, ())))) x.1.2.2.1 x.1.2.2.2.1 x.2.1.1 x.2.1.2.1 x.2.1.2.2.1 x.2.1.2.2.2.1 x.2.2.1) n (((), ((), (again5, (i6, ())))), ((ob0_0, (ob0_1, (ob0_2, (ob0_3, ())))), (l3o, ())))
theorem zsP : zmc = zdy := by
 (repeat (apply funext; intro _))
 simp only [zmc, zdy, zsO, zad, zag, zah, zaf]
theorem zfR (N : Nat) (A_7 : Bool -> Int -> Int -> (List Row) -> (List Pr) -> (List Int) -> Option (List Int × Unit)) (n : Nat) (again5 : Bool) (i6 ob0_0 ob0_1 : Int) (ob0_2 : List Row) (ob0_3 : List Pr) (l3o : List Int) : zdy N A_7 (n + 1) again5 i6 ob0_0 ob0_1 ob0_2 ob0_3 l3o = zfm N A_7 (zdy N A_7 n) again5 i6 ob0_0 ob0_1 ob0_2 ob0_3 l3o := rfl
def zfS (N : Nat) (A_7 : Bool -> Int -> Int -> (List Row) -> (List Pr) -> (List Int) -> Option (List Int × Unit)) (again5 : Bool) (ob0_0 ob0_1 : Int) (ob0_2 : List Row) (ob0_3 : List Pr) (l3o : List Int) : Option (List Int × Unit) :=
 cond again5 (zdy N A_7 N false (0 : Int) ob0_0 ob0_1 ob0_2 ob0_3 l3o) (some ((l3o, ())))
theorem zvw : zrp = zfS := by
 (repeat (apply funext; intro _))
 simp only [zrp, zfS, zsP, zad, zag, zah, zaf]
def zeS (N n : Nat) (again5 : Bool) (ob0_0 ob0_1 : Int) (ob0_2 : List Row) (ob0_3 : List Pr) (l3o : List Int) : Option (List Int × Unit) :=
 zan (fun A x => zfS N (fun again5 ob0_0 ob0_1 ob0_2 ob0_3 l3o => A (((), ((), (again5, ()))), ((ob0_0, (ob0_1, (ob0_2, (ob0_3, ())))), (l3o, ())))) x.1.2.2.1 x.2.1.1 x.2.1.2.1 x.2.1.2.2.1 x.2.1.2.2.2.1 x.2.2.1) n (((), ((), (again5, ()))), ((ob0_0, (ob0_1, (ob0_2, (ob0_3, ())))), (l3o, ())))
theorem zvx : zrq = zeS := by
 (repeat (apply funext; intro _))
 simp only [zrq, zeS, zvw, zad, zag, zah, zaf]
theorem zc9 (N n : Nat) (again5 : Bool) (ob0_0 ob0_1 : Int) (ob0_2 : List Row) (ob0_3 : List Pr) (l3o : List Int) : zeS N (n + 1) again5 ob0_0 ob0_1 ob0_2 ob0_3 l3o = zfS N (zeS N n) again5 ob0_0 ob0_1 ob0_2 ob0_3 l3o := rfl
def ziO (N : Nat) (A_3 : Int -> Int -> Int -> (List Row) -> (List Pr) -> (List Int) -> Option (List Int × Unit)) (i4 ob0_0 ob0_1 : Int) (ob0_2 : List Row) (ob0_3 : List Pr) (l3o : List Int) : Option (List Int × Unit) :=
 cond ((ltI i4 ob0_1)) (must (leI (0 : Int) i4 && ltI i4 (↑l3o.length : Int)) (A_3 ((wr (i4 + (1 : Int)))) ob0_0 ob0_1 ob0_2 ob0_3 (setL l3o i4.toNat i4))) (zeS N N true ob0_0 ob0_1 ob0_2 ob0_3 l3o)
theorem zvy : zrr = ziO := by
 (repeat (apply funext; intro _))
 simp only [zrr, ziO, hide_eq, zvx, zad, zag, zah, zaf]
def ziP (N n : Nat) (i4 ob0_0 ob0_1 : Int) (ob0_2 : List Row) (ob0_3 : List Pr) (l3o : List Int) : Option (List Int × Unit) :=
 zan (fun A x => ziO N (fun i4 ob0_0 ob0_1 ob0_2 ob0_3 l3o => A (((), ((), (i4, ()))), ((ob0_0, (ob0_1, (ob0_2, (ob0_3, ())))), (l3o, ())))) x.1.2.2.1 x.2.1.1 x.2.1.2.1 x.2.1.2.2.1 x.2.1.2.2.2.1 x.2.2.1) n (((), ((), (i4, ()))), ((ob0_0, (ob0_1, (ob0_2, (ob0_3, ())))), (l3o, ())))
theorem zvz : zrs = ziP := by
 (repeat (apply funext; intro _))
 simp only [zrs, ziP, zvy, zad, zag, zah, zaf]
theorem zhr (N n : Nat) (i4 ob0_0 ob0_1 : Int) (ob0_2 : List Row) (ob0_3 : List Pr) (l3o : List Int) : ziP N (n + 1) i4 ob0_0 ob0_1 ob0_2 ob0_3 l3o = ziO N (ziP N n) i4 ob0_0 ob0_1 ob0_2 ob0_3 l3o := rfl
def q135 (N : Nat) (c0 v1 : Int) (v2 : List Row) (v3 : List Pr) : Option (List Int × Unit) :=
 must (leI (0 : Int) v1 && (eqI v1 v1 && leN (Int.toNat v1 * (8 : Nat)) (140737488355328 : Nat))) (ziP N N (0 : Int) c0 v1 v2 v3 (List.replicate v1.toNat (0 : Int)))
theorem zCh : p135 = q135 := by
 (repeat (apply funext; intro _))
 simp only [p135, q135, zvz, zad, zag, zah, zaf]
def q189 (N : Nat) (c0 log1 : Int) (cell2 : List Row) (v3 : List Pr) (v4 v5 : Int) : Option (Int × Unit) :=
 must (leI (0 : Int) v4) (must (ltI v4 (18446744073709551616 : Int)) (must (!eqI ((shlI (1 : Int) (UInt64.toNat (UInt64.ofNat v4.toNat)))) (0 : Int)) (cond ((leI (↑cell2.length : Int) ((Int.tmod v5 ((shlI (1 : Int) (UInt64.toNat (UInt64.ofNat v4.toNat)))))))) (some (((-1 : Int), ()))) (must (!eqI ((shlI (1 : Int) (UInt64.toNat (UInt64.ofNat v4.toNat)))) (0 : Int)) (must (!eqI ((shlI (1 : Int) (UInt64.toNat (UInt64.ofNat v4.toNat)))) (0 : Int)) (must (leI (0 : Int) ((Int.tmod v5 ((shlI (1 : Int) (UInt64.toNat (UInt64.ofNat v4.toNat)))))) && ltI ((Int.tmod v5 ((shlI (1 : Int) (UInt64.toNat (UInt64.ofNat v4.toNat)))))) (↑cell2.length : Int)) (cond (eqI ((wr (Int.tdiv v5 ((shlI (1 : Int) (UInt64.toNat (UInt64.ofNat v4.toNat))))))) (↑(0 : Nat) : Int)) (some ((Row.w0 (List.getD cell2 (Int.toNat ((Int.tmod v5 ((shlI (1 : Int) (UInt64.toNat (UInt64.ofNat v4.toNat))))))) zrow), ()))) (cond (eqI ((wr (Int.tdiv v5 ((shlI (1 : Int) (UInt64.toNat (UInt64.ofNat v4.toNat))))))) (↑((0 : Nat) + (1 : Nat)) : Int)) (some ((Row.w1 (List.getD cell2 (Int.toNat ((Int.tmod v5 ((shlI (1 : Int) (UInt64.toNat (UInt64.ofNat v4.toNat))))))) zrow), ()))) (must (eqI ((wr (Int.tdiv v5 ((shlI (1 : Int) (UInt64.toNat (UInt64.ofNat v4.toNat))))))) (↑((0 : Nat) + (1 : Nat) + (1 : Nat)) : Int)) (some ((Row.w2 (List.getD cell2 (Int.toNat ((Int.tmod v5 ((shlI (1 : Int) (UInt64.toNat (UInt64.ofNat v4.toNat))))))) zrow), ()))))))))))))
theorem zCi : p189 = q189 := by
 (repeat (apply funext; intro _))
 simp only [p189, q189, hide_eq, zad, zag, zah, zaf]
end
section
theorem zcE (l : List Int) (i : Nat) (a : Int) (p : Nat) : (setL l i a).getD p 0 = if p = i /\ i < l.length then a else l.getD p 0 := by
 induction l generalizing i p with
 | nil => simp [setL]
 | cons x l ih =>
  cases i with
  | zero => cases p <;> simp [setL]
  | succ i =>
   cases p with
   | zero => simp [setL]
   | succ p =>
    have := ih i p
    simp only [List.getD_eq_getElem?_getD] at this
    simp [setL, this]
def smI : List Int -> Nat
 | [] => 0
 | x :: l => x.toNat + smI l
theorem zmI (l : List Int) (i : Nat) (a : Int) (h : i < l.length) : smI (setL l i a) + (l.getD i 0).toNat = smI l + a.toNat := by
 induction l generalizing i with
 | nil => simp at h
 | cons x l ih =>
  cases i with
  | zero => simp [setL, smI]; omega
  | succ i =>
   have := ih i (by simpa using h)
   simp only [setL, smI, List.getD_cons_succ]
   omega
inductive Alike2 (S : List Pr) : Int -> Int -> Prop
 | refl (a : Int) : Alike2 S a a
 | pair {p : Pr} : p ∈ S -> Alike2 S p.x p.y
 | symm {a b : Int} : Alike2 S a b -> Alike2 S b a
 | trans {a b c : Int} : Alike2 S a b -> Alike2 S b c -> Alike2 S a c
def zbK (S : List Pr) (V : Nat) : Prop := ∀ p ∈ S, (0 <= p.x /\ p.x < (V : Int)) /\ 0 <= p.y /\ p.y < (V : Int)
structure GoodC (S : List Pr) (V : Nat) (l : List Int) : Prop where
 len : l.length = V
 nn : ∀ i : Nat, i < V -> 0 <= l.getD i 0
 le : ∀ i : Nat, i < V -> l.getD i 0 <= (i : Int)
 al : ∀ i : Nat, i < V -> Alike2 S (i : Int) (l.getD i 0)
def FixC (S : List Pr) (l : List Int) : Prop := ∀ p ∈ S, l.getD p.x.toNat 0 = l.getD p.y.toNat 0
theorem zsQ {S : List Pr} {V : Nat} {l : List Int} (hS : zbK S V) (hf : FixC S l) {a b : Int} (h : Alike2 S a b) : l.getD a.toNat 0 = l.getD b.toNat 0 := by
 induction h with
 | refl => rfl
 | pair hp => exact hf _ hp
 | symm _ ih => exact ih.symm
 | trans _ _ h1 h2 => exact h1.trans h2
theorem zoR {S : List Pr} {V : Nat} {l m : List Int} (hS : zbK S V) (hl : GoodC S V l) (hm : GoodC S V m) (fl : FixC S l) (fm : FixC S m) : l = m := by
 have key : ∀ (l m : List Int), GoodC S V l -> GoodC S V m -> FixC S l -> ∀ i, i < V -> l.getD i 0 <= m.getD i 0 := by
  intro l m hl hm fl i hi
  have h1 := zsQ hS fl (hm.al i hi)
  have h2 := hm.nn i hi
  have h3 := hm.le i hi
  have h4 := hl.le (m.getD i 0).toNat (by omega)
  rw [Int.toNat_natCast] at h1
  rw [h1]
  omega
 have hlen : l.length = m.length := by rw [hl.len, hm.len]
 refine List.ext_getElem hlen fun i h1 h2 => ?_
 have e1 : l.getD i 0 = l[i] := by simp [List.getD_eq_getElem?_getD, List.getElem?_eq_getElem h1]
 have e2 : m.getD i 0 = m[i] := by simp [List.getD_eq_getElem?_getD, List.getElem?_eq_getElem h2]
 have hi : i < V := by rw [← hl.len]; exact h1
 have := key l m hl hm fl i hi
 have := key m l hm hl fm i hi
 omega
theorem zjL {S : List Pr} {V : Nat} {l : List Int} (h : GoodC S V l) {i : Nat} {a : Int} (hi : i < V) (h0 : 0 <= a) (h1 : a <= l.getD i 0) (h2 : Alike2 S (i : Int) a) : GoodC S V (setL l i a) := by
 refine ⟨by rw [zaQ]; exact h.len, fun j hj => ?_, fun j hj => ?_, fun j hj => ?_⟩
 ·rw [zcE]
  split
  ·exact h0
  ·exact h.nn j hj
 ·rw [zcE]
  split
  ·rename_i hc; rw [hc.1]; exact Int.le_trans h1 (h.le i hi)
  ·exact h.le j hj
 ·rw [zcE]
  split
  ·rename_i hc; rw [hc.1]; exact h2
  ·exact h.al j hj
theorem zsR {S : List Pr} {V : Nat} {l : List Int} (h : GoodC S V l) {a : Int} (h0 : 0 <= a) (h1 : a < (V : Int)) : Alike2 S a (l.getD a.toNat 0) := by
 have := h.al a.toNat (by omega)
 rwa [Int.toNat_of_nonneg h0] at this
theorem zsS {S : List Pr} {V : Nat} {l : List Int} (hS : zbK S V) (h : GoodC S V l) {p : Pr} (hp : p ∈ S) :
  GoodC S V (setL (setL l p.x.toNat (mnI (l.getD p.x.toNat 0) (l.getD p.y.toNat 0))) p.y.toNat (mnI (l.getD p.x.toNat 0) (l.getD p.y.toNat 0))) /\
  smI (setL (setL l p.x.toNat (mnI (l.getD p.x.toNat 0) (l.getD p.y.toNat 0))) p.y.toNat (mnI (l.getD p.x.toNat 0) (l.getD p.y.toNat 0))) <= smI l /\
  (l.getD p.x.toNat 0 ≠ l.getD p.y.toNat 0 -> smI (setL (setL l p.x.toNat (mnI (l.getD p.x.toNat 0) (l.getD p.y.toNat 0))) p.y.toNat (mnI (l.getD p.x.toNat 0) (l.getD p.y.toNat 0))) < smI l) := by
 obtain ⟨⟨hx0, hx1⟩, hy0, hy1⟩ := hS p hp
 have hx : p.x.toNat < V := by omega
 have hy : p.y.toNat < V := by omega
 have ax := zsR h hx0 hx1
 have ay := zsR h hy0 hy1
 have ap : Alike2 S p.x p.y := .pair hp
 have cx : ((p.x.toNat : Nat) : Int) = p.x := Int.toNat_of_nonneg hx0
 have cy : ((p.y.toNat : Nat) : Int) = p.y := Int.toNat_of_nonneg hy0
 have nx := h.nn _ hx
 have ny := h.nn _ hy
 generalize hmin : mnI (l.getD p.x.toNat 0) (l.getD p.y.toNat 0) = m
 have hm : (m = l.getD p.x.toNat 0 \/ m = l.getD p.y.toNat 0) /\ m <= l.getD p.x.toNat 0 /\ m <= l.getD p.y.toNat 0 := by
  rw [← hmin]
  unfold mnI
  by_cases hlt : l.getD p.y.toNat 0 < l.getD p.x.toNat 0
  ·rw [zab hlt, cond_true]; exact ⟨.inr rfl, by omega, by omega⟩
  ·rw [zaa hlt, cond_false]; exact ⟨.inl rfl, by omega, by omega⟩
 obtain ⟨hm1, hm2, hm3⟩ := hm
 have am : Alike2 S p.x m := by
  rcases hm1 with e | e
  ·rw [e]; exact ax
  ·rw [e]; exact ap.trans ay
 have g1 : GoodC S V (setL l p.x.toNat m) := zjL h hx (by omega) hm2 (by rw [cx]; exact am)
 have hy2 : m <= (setL l p.x.toNat m).getD p.y.toNat 0 := by
  rw [zcE]
  split
  ·exact Int.le_refl _
  ·exact hm3
 have g2 : GoodC S V (setL (setL l p.x.toNat m) p.y.toNat m) := zjL g1 hy (by omega) hy2 (by rw [cy]; exact ap.symm.trans am)
 have s1 := zmI l p.x.toNat m (by rw [h.len]; exact hx)
 have s2 := zmI (setL l p.x.toNat m) p.y.toNat m (by rw [g1.len]; exact hy)
 have hv : (setL l p.x.toNat m).getD p.y.toNat 0 = m /\ p.y.toNat = p.x.toNat \/ (setL l p.x.toNat m).getD p.y.toNat 0 = l.getD p.y.toNat 0 := by
  rw [zcE]
  split
  ·rename_i hc; exact .inl ⟨rfl, hc.1⟩
  ·exact .inr rfl
 refine ⟨g2, ?_, fun hne => ?_⟩
 ·rcases hv with ⟨e, _⟩ | e <;> rw [e] at s2 <;> omega
 ·rcases hv with ⟨e, e2⟩ | e
  ·exact absurd (by rw [e2]) hne
  ·rw [e] at s2
   omega
end
end Go.Proofs.Ytgimohchocjgcaa.V
