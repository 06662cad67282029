import Derived.Test.YtgimohchocjgcaaVEV1
import Derived.Test.YtgimohchocjgcaaVWC5
import Derived.KernelRfl
import Derived.Test.YtgimohchocjgcaaVPA3
set_option linter.unusedVariables false
set_option linter.unusedSimpArgs false
namespace Go.Proofs.Ytgimohchocjgcaa.V
section
def zbB (N : Nat) (A_1000 : Int -> Int -> Int -> (List Row) -> (List Pr) -> Option (Int × Unit)) (log3 ob0_0 ob0_1 : Int) (ob0_2 : List Row) (ob0_3 : List Pr) : Option (Int × Unit) :=
 cond ((ltI log3 (6 : Int))) (cond ((ltI ((shlI (1 : Int) (UInt64.toNat ((u64I log3))))) (↑ob0_2.length : Int))) (A_1000 ((wr (log3 + (1 : Int)))) ob0_0 ob0_1 ob0_2 ob0_3) (some ((log3, ())))) (some ((log3, ())))
theorem zmU : zg1 = zbB := by
 (repeat (apply funext; intro _))
 simp only [zg1, zbB, hide_eq, zad, zag, zah, zaf, zak, zal, zaH, zaq]
def zch (N n : Nat) (log3 ob0_0 ob0_1 : Int) (ob0_2 : List Row) (ob0_3 : List Pr) : Option (Int × Unit) :=
 zan (fun A x => zbB N (fun log3 ob0_0 ob0_1 ob0_2 ob0_3 => A (((), (log3, ())), ((ob0_0, (ob0_1, (ob0_2, (ob0_3, ())))), ()))) x.1.2.1 x.2.1.1 x.2.1.2.1 x.2.1.2.2.1 x.2.1.2.2.2.1) n (((), (log3, ())), ((ob0_0, (ob0_1, (ob0_2, (ob0_3, ())))), ()))
theorem zmV : zg2 = zch := by
 (repeat (apply funext; intro _))
 simp only [zg2, zch, zmU, zad, zag, zah, zaf, zak, zal, zaH, zaq]
theorem zbk (N n : Nat) (log3 ob0_0 ob0_1 : Int) (ob0_2 : List Row) (ob0_3 : List Pr) : zch N (n + 1) log3 ob0_0 ob0_1 ob0_2 ob0_3 = zbB N (zch N n) log3 ob0_0 ob0_1 ob0_2 ob0_3 := rfl
def q120 (N : Nat) (c0 v1 : Int) (v2 : List Row) (v3 : List Pr) : Option (Int × Unit) :=
 zch N N (1 : Int) c0 v1 v2 v3
theorem zCE : p120 = q120 := by
 (repeat (apply funext; intro _))
 simp only [p120, q120, zmV, zad, zag, zah, zaf, zak, zal, zaH, zaq]
def zfW (N : Nat) (A_5 : (List Fr) -> Int -> Int -> (List Fr) -> Option (List Fr × Int × Unit)) (t27 : List Fr) (t28 t29 : Int) (out6o : List Fr) : Option (List Fr × Int × Unit) :=
 cond ((ltI t29 t28)) (must (leI (0 : Int) t29 && ltI t29 (↑t27.length : Int)) (Option.bind (q84 N ((List.getD t27 t29.toNat (Fr.zero)))) fun rr0 => must (leI (0 : Int) t29 && ltI t29 (↑out6o.length : Int)) (A_5 t27 t28 ((wr (t29 + (1 : Int)))) (setL out6o t29.toNat (rr0.1))))) (some ((out6o, (0 : Int), ())))
theorem zvS : zrO = zfW := by
 (repeat (apply funext; intro _))
 simp only [zrO, zfW, hide_eq, zEm, zad, zag, zah, zaf, zak, zal, zaH, zaq]
def zhy (N n : Nat) (t27 : List Fr) (t28 t29 : Int) (out6o : List Fr) : Option (List Fr × Int × Unit) :=
 zan (fun A x => zfW N (fun t27 t28 t29 out6o => A (((), (t27, (t28, (t29, ())))), (out6o, ()))) x.1.2.1 x.1.2.2.1 x.1.2.2.2.1 x.2.1) n (((), (t27, (t28, (t29, ())))), (out6o, ()))
theorem zvT : zrP = zhy := by
 (repeat (apply funext; intro _))
 simp only [zrP, zhy, zvS, zad, zag, zah, zaf, zak, zal, zaH, zaq]
theorem zdc (N n : Nat) (t27 : List Fr) (t28 t29 : Int) (out6o : List Fr) : zhy N (n + 1) t27 t28 t29 out6o = zfW N (zhy N n) t27 t28 t29 out6o := rfl
def q146 (N : Nat) (log0 : Int) (public1 : List Fr) : Option (List Fr × Int × Unit) :=
 cond ((ltI log0 (1 : Int))) (some (([], (1 : Int), ()))) (cond ((ltI (6 : Int) log0)) (some (([], (1 : Int), ()))) (cond ((ltI ((shlI (1 : Int) (UInt64.toNat ((u64I log0))))) (↑public1.length : Int))) (some (([], (1 : Int), ()))) (must (leI (0 : Int) ((shlI (1 : Int) (UInt64.toNat ((u64I log0))))) && (eqI ((shlI (1 : Int) (UInt64.toNat ((u64I log0))))) ((shlI (1 : Int) (UInt64.toNat ((u64I log0))))) && leN (Int.toNat ((shlI (1 : Int) (UInt64.toNat ((u64I log0))))) * (32 : Nat)) (140737488355328 : Nat))) (zhy N N public1 ((↑public1.length : Int)) (0 : Int) (List.replicate (Int.toNat ((shlI (1 : Int) (UInt64.toNat ((u64I log0)))))) (Fr.zero))))))
theorem zwV : p146 = q146 := by
 (repeat (apply funext; intro _))
 simp only [p146, q146, hide_eq, zvT, zad, zag, zah, zaf, zak, zal, zaH, zaq]
def zdZ (N : Nat) (A_5 : Int -> (List Fr) -> Int -> Int -> Int -> (List Row) -> (List Pr) -> (List Fr) -> (List Fr) -> (List Fr) -> (List Fr) -> (List Fr) -> (List Fr) -> Option ((List Fr × List Fr × List Fr × Unit) × Int × Unit)) (A_9 : Int -> (List Fr) -> Int -> Int -> (List Row) -> Int -> Int -> Int -> Int -> (List Row) -> (List Pr) -> (List Fr) -> (List Fr) -> (List Fr) -> (List Fr) -> (List Fr) -> (List Fr) -> Option ((List Fr × List Fr × List Fr × Unit) × Int × Unit)) (log1 : Int) (vals2 : List Fr) (j9 t41 : Int) (t51 : List Row) (t52 t53 ob0_0 ob0_1 : Int) (ob0_2 : List Row) (ob0_3 : List Pr) (ob3 ob4 ob5 ob6 ob7 ob8 : List Fr) : Option ((List Fr × List Fr × List Fr × Unit) × Int × Unit) :=
 cond ((ltI t53 t52)) (must (leI (0 : Int) t53 && ltI t53 (↑t51.length : Int)) (cond (eqI j9 (↑(0 : Nat) : Int)) (must (eqI j9 (↑(0 : Nat) : Int)) (cond ((leI (0 : Int) (Row.w0 (List.getD t51 t53.toNat zrow)))) (must (leI (0 : Int) (Row.w0 (List.getD t51 t53.toNat zrow)) && ltI (Row.w0 (List.getD t51 t53.toNat zrow)) (↑vals2.length : Int)) (must (leI (0 : Int) t53 && ltI t53 (↑ob6.length : Int)) (A_9 log1 vals2 ((↑(0 : Nat) : Int)) t41 t51 t52 ((wr (t53 + (1 : Int)))) ob0_0 ob0_1 ob0_2 ob0_3 ob3 ob4 ob5 (setL ob6 t53.toNat (Fr.mk (Fr.a0 (List.getD vals2 (Int.toNat (Row.w0 (List.getD t51 t53.toNat zrow))) (Fr.zero))) (Fr.a1 (List.getD vals2 (Int.toNat (Row.w0 (List.getD t51 t53.toNat zrow))) (Fr.zero))) (Fr.a2 (List.getD vals2 (Int.toNat (Row.w0 (List.getD t51 t53.toNat zrow))) (Fr.zero))) (Fr.a3 (List.getD vals2 (Int.toNat (Row.w0 (List.getD t51 t53.toNat zrow))) (Fr.zero))))) ob7 ob8))) (A_9 log1 vals2 ((↑(0 : Nat) : Int)) t41 t51 t52 ((wr (t53 + (1 : Int)))) ob0_0 ob0_1 ob0_2 ob0_3 ob3 ob4 ob5 ob6 ob7 ob8))) (cond (eqI j9 (↑((0 : Nat) + (1 : Nat)) : Int)) (must (eqI j9 (↑((0 : Nat) + (1 : Nat)) : Int)) (cond ((leI (0 : Int) (Row.w1 (List.getD t51 t53.toNat zrow)))) (must (leI (0 : Int) (Row.w1 (List.getD t51 t53.toNat zrow)) && ltI (Row.w1 (List.getD t51 t53.toNat zrow)) (↑vals2.length : Int)) (must (leI (0 : Int) t53 && ltI t53 (↑ob7.length : Int)) (A_9 log1 vals2 ((↑((0 : Nat) + (1 : Nat)) : Int)) t41 t51 t52 ((wr (t53 + (1 : Int)))) ob0_0 ob0_1 ob0_2 ob0_3 ob3 ob4 ob5 ob6 (setL ob7 t53.toNat (Fr.mk (Fr.a0 (List.getD vals2 (Int.toNat (Row.w1 (List.getD t51 t53.toNat zrow))) (Fr.zero))) (Fr.a1 (List.getD vals2 (Int.toNat (Row.w1 (List.getD t51 t53.toNat zrow))) (Fr.zero))) (Fr.a2 (List.getD vals2 (Int.toNat (Row.w1 (List.getD t51 t53.toNat zrow))) (Fr.zero))) (Fr.a3 (List.getD vals2 (Int.toNat (Row.w1 (List.getD t51 t53.toNat zrow))) (Fr.zero))))) ob8))) (A_9 log1 vals2 ((↑((0 : Nat) + (1 : Nat)) : Int)) t41 t51 t52 ((wr (t53 + (1 : Int)))) ob0_0 ob0_1 ob0_2 ob0_3 ob3 ob4 ob5 ob6 ob7 ob8))) (must (eqI j9 (↑((0 : Nat) + (1 : Nat) + (1 : Nat)) : Int)) (must (eqI j9 (↑((0 : Nat) + (1 : Nat) + (1 : Nat)) : Int)) (cond ((leI (0 : Int) (Row.w2 (List.getD t51 t53.toNat zrow)))) (must (leI (0 : Int) (Row.w2 (List.getD t51 t53.toNat zrow)) && ltI (Row.w2 (List.getD t51 t53.toNat zrow)) (↑vals2.length : Int)) (must (leI (0 : Int) t53 && ltI t53 (↑ob8.length : Int)) (A_9 log1 vals2 ((↑((0 : Nat) + (1 : Nat) + (1 : Nat)) : Int)) t41 t51 t52 ((wr (t53 + (1 : Int)))) ob0_0 ob0_1 ob0_2 ob0_3 ob3 ob4 ob5 ob6 ob7 (setL ob8 t53.toNat (Fr.mk (Fr.a0 (List.getD vals2 (Int.toNat (Row.w2 (List.getD t51 t53.toNat zrow))) (Fr.zero))) (Fr.a1 (List.getD vals2 (Int.toNat (Row.w2 (List.getD t51 t53.toNat zrow))) (Fr.zero))) (Fr.a2 (List.getD vals2 (Int.toNat (Row.w2 (List.getD t51 t53.toNat zrow))) (Fr.zero))) (Fr.a3 (List.getD vals2 (Int.toNat (Row.w2 (List.getD t51 t53.toNat zrow))) (Fr.zero)))))))) (A_9 log1 vals2 ((↑((0 : Nat) + (1 : Nat) + (1 : Nat)) : Int)) t41 t51 t52 ((wr (t53 + (1 : Int)))) ob0_0 ob0_1 ob0_2 ob0_3 ob3 ob4 ob5 ob6 ob7 ob8))))))) (A_5 log1 vals2 ((wr (t41 + (1 : Int)))) ob0_0 ob0_1 ob0_2 ob0_3 ob3 ob4 ob5 ob6 ob7 ob8)
theorem zvU : zrS = zdZ := by
 (repeat (apply funext; intro _))
 simp only [zrS, zdZ, hide_eq, zad, zag, zah, zaf, zak, zal, zaH, zaq]
def zcG (N : Nat) (A_5 : Int -> (List Fr) -> Int -> Int -> Int -> (List Row) -> (List Pr) -> (List Fr) -> (List Fr) -> (List Fr) -> (List Fr) -> (List Fr) -> (List Fr) -> Option ((List Fr × List Fr × List Fr × Unit) × Int × Unit)) (n : Nat) (log1 : Int) (vals2 : List Fr) (j9 t41 : Int) (t51 : List Row) (t52 t53 ob0_0 ob0_1 : Int) (ob0_2 : List Row) (ob0_3 : List Pr) (ob3 ob4 ob5 ob6 ob7 ob8 : List Fr) : Option ((List Fr × List Fr × List Fr × Unit) × Int × Unit) :=
 zan (fun A x => zdZ N A_5 (fun log1 vals2 j9 t41 t51 t52 t53 ob0_0 ob0_1 ob0_2 ob0_3 ob3 ob4 ob5 ob6 ob7 ob8 => A ((log1, (vals2, ((), ((), ((), (j9, (t41, (t51, (t52, (t53, ())))))))))), ((ob0_0, (ob0_1, (ob0_2, (ob0_3, ())))), (((), ((), ((), ()))), (((), ((), ((), ()))), (ob3, (ob4, (ob5, (ob6, (ob7, (ob8, ()))))))))))) x.1.1 x.1.2.1 x.1.2.2.2.2.2.1 x.1.2.2.2.2.2.2.1 x.1.2.2.2.2.2.2.2.1 x.1.2.2.2.2.2.2.2.2.1 x.1.2.2.2.2.2.2.2.2.2.1 x.2.1.1 x.2.1.2.1 x.2.1.2.2.1 x.2.1.2.2.2.1 x.2.2.2.2.1 x.2.2.2.2.2.1 x.2.2.2.2.2.2.1 x.2.2.2.2.2.2.2.1 x.2.2.2.2.2.2.2.2.1 x.2.2.2.2.2.2.2.2.2.1) n ((log1, (vals2, ((), ((), ((), (j9, (t41, (t51, (t52, (t53, ())))))))))), ((ob0_0, (ob0_1, (ob0_2, (ob0_3, ())))), (((), ((), ((), ()))), (((), ((), ((), ()))), (ob3, (ob4, (ob5, (ob6, (ob7, (ob8, ()))))))))))
theorem zvV : zkD = zcG := by
 (repeat (apply funext; intro _))
 simp only [zkD, zcG, zvU, zad, zag, zah, zaf, zak, zal, zaH, zaq]
theorem zbN (N : Nat) (A_5 : Int -> (List Fr) -> Int -> Int -> Int -> (List Row) -> (List Pr) -> (List Fr) -> (List Fr) -> (List Fr) -> (List Fr) -> (List Fr) -> (List Fr) -> Option ((List Fr × List Fr × List Fr × Unit) × Int × Unit)) (n : Nat) (log1 : Int) (vals2 : List Fr) (j9 t41 : Int) (t51 : List Row) (t52 t53 ob0_0 ob0_1 : Int) (ob0_2 : List Row) (ob0_3 : List Pr) (ob3 ob4 ob5 ob6 ob7 ob8 : List Fr) : zcG N A_5 (n + 1) log1 vals2 j9 t41 t51 t52 t53 ob0_0 ob0_1 ob0_2 ob0_3 ob3 ob4 ob5 ob6 ob7 ob8 = zdZ N A_5 (zcG N A_5 n) log1 vals2 j9 t41 t51 t52 t53 ob0_0 ob0_1 ob0_2 ob0_3 ob3 ob4 ob5 ob6 ob7 ob8 := rfl
def ziX (N : Nat) (A_5 : Int -> (List Fr) -> Int -> Int -> Int -> (List Row) -> (List Pr) -> (List Fr) -> (List Fr) -> (List Fr) -> (List Fr) -> (List Fr) -> (List Fr) -> Option ((List Fr × List Fr × List Fr × Unit) × Int × Unit)) (log1 : Int) (vals2 : List Fr) (t41 ob0_0 ob0_1 : Int) (ob0_2 : List Row) (ob0_3 : List Pr) (ob3 ob4 ob5 ob6 ob7 ob8 : List Fr) : Option ((List Fr × List Fr × List Fr × Unit) × Int × Unit) :=
 cond ((ltI t41 (3 : Int))) (must (leI (0 : Int) ((shlI (1 : Int) (UInt64.toNat ((u64I log1))))) && (eqI ((shlI (1 : Int) (UInt64.toNat ((u64I log1))))) ((shlI (1 : Int) (UInt64.toNat ((u64I log1))))) && leN (Int.toNat ((shlI (1 : Int) (UInt64.toNat ((u64I log1))))) * (32 : Nat)) (140737488355328 : Nat))) (cond (eqI t41 (↑(0 : Nat) : Int)) (must (eqI t41 (↑(0 : Nat) : Int)) (zcG N A_5 N log1 vals2 ((↑(0 : Nat) : Int)) t41 ob0_2 ((↑ob0_2.length : Int)) (0 : Int) ob0_0 ob0_1 ob0_2 ob0_3 ob3 ob4 ob5 (List.replicate (Int.toNat ((shlI (1 : Int) (UInt64.toNat ((u64I log1)))))) (Fr.zero)) ob7 ob8)) (cond (eqI t41 (↑((0 : Nat) + (1 : Nat)) : Int)) (must (eqI t41 (↑((0 : Nat) + (1 : Nat)) : Int)) (zcG N A_5 N log1 vals2 ((↑((0 : Nat) + (1 : Nat)) : Int)) t41 ob0_2 ((↑ob0_2.length : Int)) (0 : Int) ob0_0 ob0_1 ob0_2 ob0_3 ob3 ob4 ob5 ob6 (List.replicate (Int.toNat ((shlI (1 : Int) (UInt64.toNat ((u64I log1)))))) (Fr.zero)) ob8)) (must (eqI t41 (↑((0 : Nat) + (1 : Nat) + (1 : Nat)) : Int)) (must (eqI t41 (↑((0 : Nat) + (1 : Nat) + (1 : Nat)) : Int)) (zcG N A_5 N log1 vals2 ((↑((0 : Nat) + (1 : Nat) + (1 : Nat)) : Int)) t41 ob0_2 ((↑ob0_2.length : Int)) (0 : Int) ob0_0 ob0_1 ob0_2 ob0_3 ob3 ob4 ob5 ob6 ob7 (List.replicate (Int.toNat ((shlI (1 : Int) (UInt64.toNat ((u64I log1)))))) (Fr.zero)))))))) (some (((ob6, ob7, ob8, ()), (0 : Int), ())))
theorem zvW : zrT = ziX := by
 (repeat (apply funext; intro _))
 simp only [zrT, ziX, hide_eq, zvV, zad, zag, zah, zaf, zak, zal, zaH, zaq]
def zdi (N n : Nat) (log1 : Int) (vals2 : List Fr) (t41 ob0_0 ob0_1 : Int) (ob0_2 : List Row) (ob0_3 : List Pr) (ob3 ob4 ob5 ob6 ob7 ob8 : List Fr) : Option ((List Fr × List Fr × List Fr × Unit) × Int × Unit) :=
 zan (fun A x => ziX N (fun log1 vals2 t41 ob0_0 ob0_1 ob0_2 ob0_3 ob3 ob4 ob5 ob6 ob7 ob8 => A ((log1, (vals2, ((), ((), ((), (t41, ())))))), ((ob0_0, (ob0_1, (ob0_2, (ob0_3, ())))), (((), ((), ((), ()))), (((), ((), ((), ()))), (ob3, (ob4, (ob5, (ob6, (ob7, (ob8, ()))))))))))) x.1.1 x.1.2.1 x.1.2.2.2.2.2.1 x.2.1.1 x.2.1.2.1 x.2.1.2.2.1 x.2.1.2.2.2.1 x.2.2.2.2.1 x.2.2.2.2.2.1 x.2.2.2.2.2.2.1 x.2.2.2.2.2.2.2.1 x.2.2.2.2.2.2.2.2.1 x.2.2.2.2.2.2.2.2.2.1) n ((log1, (vals2, ((), ((), ((), (t41, ())))))), ((ob0_0, (ob0_1, (ob0_2, (ob0_3, ())))), (((), ((), ((), ()))), (((), ((), ((), ()))), (ob3, (ob4, (ob5, (ob6, (ob7, (ob8, ()))))))))))
theorem zvX : zrU = zdi := by
 (repeat (apply funext; intro _))
 simp only [zrU, zdi, zvW, zad, zag, zah, zaf, zak, zal, zaH, zaq]
theorem zhz (N n : Nat) (log1 : Int) (vals2 : List Fr) (t41 ob0_0 ob0_1 : Int) (ob0_2 : List Row) (ob0_3 : List Pr) (ob3 ob4 ob5 ob6 ob7 ob8 : List Fr) : zdi N (n + 1) log1 vals2 t41 ob0_0 ob0_1 ob0_2 ob0_3 ob3 ob4 ob5 ob6 ob7 ob8 = ziX N (zdi N n) log1 vals2 t41 ob0_0 ob0_1 ob0_2 ob0_3 ob3 ob4 ob5 ob6 ob7 ob8 := rfl
def q145 (N : Nat) (c0 log1 : Int) (vals2 : List Row) (v3 : List Pr) (v4 : Int) (v5 : List Fr) : Option ((List Fr × List Fr × List Fr × Unit) × Int × Unit) :=
 cond ((ltI v4 (1 : Int))) (some ((([], [], [], ()), (1 : Int), ()))) (cond ((ltI (6 : Int) v4)) (some ((([], [], [], ()), (1 : Int), ()))) (cond ((ltI ((shlI (1 : Int) (UInt64.toNat ((u64I v4))))) (↑vals2.length : Int))) (some ((([], [], [], ()), (1 : Int), ()))) (cond (!eqI (↑v5.length : Int) log1) (some ((([], [], [], ()), (1 : Int), ()))) (Option.bind (q119 N c0 log1 vals2 v3) fun rr0 => cond (!eqI rr0.1 (0 : Int)) (some ((([], [], [], ()), (1 : Int), ()))) (zdi N N v4 v5 (0 : Int) c0 log1 vals2 v3 [] [] [] [] [] [])))))
theorem ztl : p145 = q145 := by
 (repeat (apply funext; intro _))
 simp only [p145, q145, hide_eq, zvX, zsJ, zad, zag, zah, zaf, zak, zal, zaH, zaq]
def zcH (N : Nat) (A_1000 : Int -> Int -> Int -> (List Row) -> (List Pr) -> (List Fr) -> (List Fr) -> (List Fr) -> (List Fr) -> Option (Int × Int × Unit)) (i16 ob0_0 ob0_1 : Int) (ob0_2 : List Row) (ob0_3 : List Pr) (own14o ob3 ob4 ob5 : List Fr) : Option (Int × Int × Unit) :=
 cond ((ltI i16 (↑ob0_2.length : Int))) (must (leI (0 : Int) i16 && ltI i16 (↑ob0_2.length : Int)) (must (!eqI (↑own14o.length : Int) (0 : Int)) (must (leI (0 : Int) ((Int.tmod ((wr (i16 + (1 : Int)))) (↑own14o.length : Int))) && ltI ((Int.tmod ((wr (i16 + (1 : Int)))) (↑own14o.length : Int))) (↑ob3.length : Int)) (must (leI (0 : Int) i16 && ltI i16 (↑ob3.length : Int)) (must (leI (0 : Int) i16 && ltI i16 (↑ob4.length : Int)) (must (leI (0 : Int) i16 && ltI i16 (↑ob5.length : Int)) (Option.bind (q106 N ([(Row.q0 (List.getD ob0_2 i16.toNat zrow)), (Row.q1 (List.getD ob0_2 i16.toNat zrow)), (Row.q2 (List.getD ob0_2 i16.toNat zrow)), (Row.q3 (List.getD ob0_2 i16.toNat zrow)), (Row.q4 (List.getD ob0_2 i16.toNat zrow)), (Row.q5 (List.getD ob0_2 i16.toNat zrow)), (Row.q6 (List.getD ob0_2 i16.toNat zrow)), (Row.q7 (List.getD ob0_2 i16.toNat zrow))]) ((List.getD ob3 i16.toNat (Fr.zero))) ((List.getD ob4 i16.toNat (Fr.zero))) ((List.getD ob5 i16.toNat (Fr.zero))) (Fr.mk (Fr.a0 (List.getD ob3 (Int.toNat ((Int.tmod ((wr (i16 + (1 : Int)))) (↑own14o.length : Int)))) (Fr.zero))) (Fr.a1 (List.getD ob3 (Int.toNat ((Int.tmod ((wr (i16 + (1 : Int)))) (↑own14o.length : Int)))) (Fr.zero))) (Fr.a2 (List.getD ob3 (Int.toNat ((Int.tmod ((wr (i16 + (1 : Int)))) (↑own14o.length : Int)))) (Fr.zero))) (Fr.a3 (List.getD ob3 (Int.toNat ((Int.tmod ((wr (i16 + (1 : Int)))) (↑own14o.length : Int)))) (Fr.zero))))) fun rr2 => must (leI (0 : Int) i16 && ltI i16 (↑own14o.length : Int)) (Option.bind (q80 N (rr2.1) ((List.getD own14o i16.toNat (Fr.zero)))) fun rr3 => cond (!eqF rr3.1 (Fr.mk (0 : UInt64) 0 0 0)) (some ((i16, (12 : Int), ()))) (cond ((ltI ((wr (i16 + (1 : Int)))) (↑own14o.length : Int))) (A_1000 ((wr (i16 + (1 : Int)))) ob0_0 ob0_1 ob0_2 ob0_3 own14o ob3 ob4 ob5) (some (((0 : Int), (0 : Int), ())))))))))))) (must (!eqI (↑own14o.length : Int) (0 : Int)) (must (leI (0 : Int) ((Int.tmod ((wr (i16 + (1 : Int)))) (↑own14o.length : Int))) && ltI ((Int.tmod ((wr (i16 + (1 : Int)))) (↑own14o.length : Int))) (↑ob3.length : Int)) (must (leI (0 : Int) i16 && ltI i16 (↑ob3.length : Int)) (must (leI (0 : Int) i16 && ltI i16 (↑ob4.length : Int)) (must (leI (0 : Int) i16 && ltI i16 (↑ob5.length : Int)) (Option.bind (q106 N ([Fr.zero, Fr.zero, Fr.zero, Fr.zero, Fr.zero, Fr.zero, Fr.zero, Fr.zero]) ((List.getD ob3 i16.toNat (Fr.zero))) ((List.getD ob4 i16.toNat (Fr.zero))) ((List.getD ob5 i16.toNat (Fr.zero))) (Fr.mk (Fr.a0 (List.getD ob3 (Int.toNat ((Int.tmod ((wr (i16 + (1 : Int)))) (↑own14o.length : Int)))) (Fr.zero))) (Fr.a1 (List.getD ob3 (Int.toNat ((Int.tmod ((wr (i16 + (1 : Int)))) (↑own14o.length : Int)))) (Fr.zero))) (Fr.a2 (List.getD ob3 (Int.toNat ((Int.tmod ((wr (i16 + (1 : Int)))) (↑own14o.length : Int)))) (Fr.zero))) (Fr.a3 (List.getD ob3 (Int.toNat ((Int.tmod ((wr (i16 + (1 : Int)))) (↑own14o.length : Int)))) (Fr.zero))))) fun rr0 => must (leI (0 : Int) i16 && ltI i16 (↑own14o.length : Int)) (Option.bind (q80 N (rr0.1) ((List.getD own14o i16.toNat (Fr.zero)))) fun rr1 => cond (!eqF rr1.1 (Fr.mk (0 : UInt64) 0 0 0)) (some ((i16, (12 : Int), ()))) (cond ((ltI ((wr (i16 + (1 : Int)))) (↑own14o.length : Int))) (A_1000 ((wr (i16 + (1 : Int)))) ob0_0 ob0_1 ob0_2 ob0_3 own14o ob3 ob4 ob5) (some (((0 : Int), (0 : Int), ())))))))))))
theorem zmW : zg3 = zcH := by
 (repeat (apply funext; intro _))
 simp only [zg3, zcH, hide_eq, zB7, zyI, zad, zag, zah, zaf, zak, zal, zaH, zaq]
def zci (N n : Nat) (i16 ob0_0 ob0_1 : Int) (ob0_2 : List Row) (ob0_3 : List Pr) (own14o ob3 ob4 ob5 : List Fr) : Option (Int × Int × Unit) :=
 zan (fun A x => zcH N (fun i16 ob0_0 ob0_1 ob0_2 ob0_3 own14o ob3 ob4 ob5 => A (((), ((), ((), (i16, ())))), ((ob0_0, (ob0_1, (ob0_2, (ob0_3, ())))), (((), ((), ((), ()))), (own14o, (ob3, (ob4, (ob5, ())))))))) x.1.2.2.2.1 x.2.1.1 x.2.1.2.1 x.2.1.2.2.1 x.2.1.2.2.2.1 x.2.2.2.1 x.2.2.2.2.1 x.2.2.2.2.2.1 x.2.2.2.2.2.2.1) n (((), ((), ((), (i16, ())))), ((ob0_0, (ob0_1, (ob0_2, (ob0_3, ())))), (((), ((), ((), ()))), (own14o, (ob3, (ob4, (ob5, ())))))))
theorem zmX : zg4 = zci := by
 (repeat (apply funext; intro _))
 simp only [zg4, zci, zmW, zad, zag, zah, zaf, zak, zal, zaH, zaq]
theorem zd0 (N n : Nat) (i16 ob0_0 ob0_1 : Int) (ob0_2 : List Row) (ob0_3 : List Pr) (own14o ob3 ob4 ob5 : List Fr) : zci N (n + 1) i16 ob0_0 ob0_1 ob0_2 ob0_3 own14o ob3 ob4 ob5 = zcH N (zci N n) i16 ob0_0 ob0_1 ob0_2 ob0_3 own14o ob3 ob4 ob5 := rfl
def zd1 (N : Nat) (A_9 : (List Fr) -> (List Fr) -> Int -> Int -> Int -> Int -> (List Row) -> (List Pr) -> (List Int) -> Option (Int × Int × Unit)) (public1 vals2 : List Fr) (t38 t39 ob0_0 ob0_1 : Int) (ob0_2 : List Row) (ob0_3 : List Pr) (t37o : List Int) : Option (Int × Int × Unit) :=
 cond ((ltI t39 t38)) (must (leI (0 : Int) t39 && ltI t39 (↑t37o.length : Int)) (must (leI (0 : Int) t39 && ltI t39 (↑vals2.length : Int)) (must (leI (0 : Int) (List.getD t37o t39.toNat (0 : Int)) && ltI (List.getD t37o t39.toNat (0 : Int)) (↑vals2.length : Int)) (cond (!eqL El.u64 [Fr.a0 (List.getD vals2 t39.toNat (Fr.zero)), Fr.a1 (List.getD vals2 t39.toNat (Fr.zero)), Fr.a2 (List.getD vals2 t39.toNat (Fr.zero)), Fr.a3 (List.getD vals2 t39.toNat (Fr.zero))] [Fr.a0 (List.getD vals2 (Int.toNat (List.getD t37o t39.toNat (0 : Int))) (Fr.zero)), Fr.a1 (List.getD vals2 (Int.toNat (List.getD t37o t39.toNat (0 : Int))) (Fr.zero)), Fr.a2 (List.getD vals2 (Int.toNat (List.getD t37o t39.toNat (0 : Int))) (Fr.zero)), Fr.a3 (List.getD vals2 (Int.toNat (List.getD t37o t39.toNat (0 : Int))) (Fr.zero))]) (some ((t39, (13 : Int), ()))) (A_9 public1 vals2 t38 ((wr (t39 + (1 : Int)))) ob0_0 ob0_1 ob0_2 ob0_3 t37o))))) (Option.bind (q120 N ob0_0 ob0_1 ob0_2 ob0_3) fun rr0 => Option.bind (q145 N ob0_0 ob0_1 ob0_2 ob0_3 rr0.1 vals2) fun rr1 => Option.bind (q146 N rr0.1 public1) fun rr2 => zci N N (0 : Int) ob0_0 ob0_1 ob0_2 ob0_3 rr2.1 (rr1.1.1) (Prod.fst (rr1.1.2)) (Prod.fst (Prod.snd (rr1.1.2))))
theorem zvY : zrW = zd1 := by
 (repeat (apply funext; intro _))
 simp only [zrW, zd1, hide_eq, zmX, zCE, ztl, zwV, zad, zag, zah, zaf, zak, zal, zaH, zaq]
def zcj (N n : Nat) (public1 vals2 : List Fr) (t38 t39 ob0_0 ob0_1 : Int) (ob0_2 : List Row) (ob0_3 : List Pr) (t37o : List Int) : Option (Int × Int × Unit) :=
 zan (fun A x => zd1 N (fun public1 vals2 t38 t39 ob0_0 ob0_1 ob0_2 ob0_3 t37o => A ((public1, (vals2, ((), ((), (t38, (t39, ())))))), ((ob0_0, (ob0_1, (ob0_2, (ob0_3, ())))), (t37o, ())))) x.1.1 x.1.2.1 x.1.2.2.2.2.1 x.1.2.2.2.2.2.1 x.2.1.1 x.2.1.2.1 x.2.1.2.2.1 x.2.1.2.2.2.1 x.2.2.1) n ((public1, (vals2, ((), ((), (t38, (t39, ())))))), ((ob0_0, (ob0_1, (ob0_2, (ob0_3, ())))), (t37o, ())))
theorem zvZ : zrX = zcj := by
 (repeat (apply funext; intro _))
 simp only [zrX, zcj, zvY, zad, zag, zah, zaf, zak, zal, zaH, zaq]
theorem zbd (N n : Nat) (public1 vals2 : List Fr) (t38 t39 ob0_0 ob0_1 : Int) (ob0_2 : List Row) (ob0_3 : List Pr) (t37o : List Int) : zcj N (n + 1) public1 vals2 t38 t39 ob0_0 ob0_1 ob0_2 ob0_3 t37o = zd1 N (zcj N n) public1 vals2 t38 t39 ob0_0 ob0_1 ob0_2 ob0_3 t37o := rfl
def q143 (N : Nat) (c0 public1 : Int) (vals2 : List Row) (v3 : List Pr) (v4 v5 : List Fr) : Option (Int × Int × Unit) :=
 Option.bind (q119 N c0 public1 vals2 v3) fun rr0 => cond (!eqI rr0.1 (0 : Int)) (some (((0 : Int), Prod.fst rr0, ()))) (cond (!eqI (↑v4.length : Int) c0) (some (((0 : Int), (14 : Int), ()))) (cond (!eqI (↑v5.length : Int) public1) (some (((0 : Int), (1 : Int), ()))) (Option.bind (q134 N c0 public1 vals2 v3) fun rr1 => zcj N N v4 v5 ((↑rr1.1.length : Int)) (0 : Int) c0 public1 vals2 v3 rr1.1)))
theorem zwW : p143 = q143 := by
 (repeat (apply funext; intro _))
 simp only [p143, q143, hide_eq, zvZ, zsJ, zCg, zad, zag, zah, zaf, zak, zal, zaH, zaq]
def q142 (N : Nat) : Option (Bool × Unit) :=
 Option.bind (q95 N ([(1 : UInt8), (1 : UInt8), (0 : UInt8), (0 : UInt8), (0 : UInt8)]) (1 : Int)) fun rr0 => Option.bind (q143 N (rr0.1.1) (Prod.fst (rr0.1.2)) (Prod.fst (Prod.snd (rr0.1.2))) (Prod.fst (Prod.snd (Prod.snd (rr0.1.2)))) (Prod.fst (Prod.snd (Prod.snd (Prod.snd (rr0.1.2))))) (Prod.fst (Prod.snd (Prod.snd (Prod.snd (Prod.snd (rr0.1.2))))))) fun rr1 => must (leN (((0 : Nat) + List.length (Prod.fst (Prod.snd (Prod.snd (Prod.snd (Prod.snd (rr0.1.2))))))) * (32 : Nat)) (140737488355328 : Nat)) (must (ltI (2 : Int) (↑(List.length (Prod.fst (Prod.snd (Prod.snd (Prod.snd (Prod.snd (rr0.1.2))))))) : Int)) (Option.bind (q143 N (rr0.1.1) (Prod.fst (rr0.1.2)) (Prod.fst (Prod.snd (rr0.1.2))) (Prod.fst (Prod.snd (Prod.snd (rr0.1.2)))) (Prod.fst (Prod.snd (Prod.snd (Prod.snd (rr0.1.2))))) (setL (Prod.fst (Prod.snd (Prod.snd (Prod.snd (Prod.snd (rr0.1.2)))))) (2 : Nat) (Fr.mk (77 : UInt64) (0 : UInt64) (0 : UInt64) (0 : UInt64)))) fun rr2 => Option.bind (q145 N (rr0.1.1) (Prod.fst (rr0.1.2)) (Prod.fst (Prod.snd (rr0.1.2))) (Prod.fst (Prod.snd (Prod.snd (rr0.1.2)))) (1 : Int) (Prod.fst (Prod.snd (Prod.snd (Prod.snd (Prod.snd (rr0.1.2))))))) fun rr3 => cond ((eqI (rr1.2.1) (0 : Int))) (cond ((eqI (rr2.2.1) (12 : Int))) (cond ((eqI rr2.1 (0 : Int))) (cond ((eqI (rr3.2.1) (0 : Int))) (some (((eqI (↑(List.length (rr3.1.1)) : Int) (2 : Int)), ()))) (some ((false, ())))) (some ((false, ())))) (some ((false, ())))) (some ((false, ())))))
theorem zCF : p142 = q142 := by
 (repeat (apply funext; intro _))
 simp only [p142, q142, hide_eq, zwW, ztl, zCo, zad, zag, zah, zaf, zak, zal, zaH, zaq]
end
section
theorem ixk {i n : Nat} (h : i < n) : (leI 0 (i : Int) && ltI (i : Int) (n : Int)) = true := by rw [zas, zab (by omega)]; rfl
def ceV (rows : List Row) (v : List Fr) (i j : Nat) : Fr := if i < rows.length /\ 0 <= rw3 (rows.getD i zrow) j then v.getD (rw3 (rows.getD i zrow) j).toNat Fr.zero else Fr.zero
def zcI (rows : List Row) (v : List Fr) (n j : Nat) (l : List Fr) : Prop := l.length = n /\ ∀ i, i < n -> l.getD i Fr.zero = ceV rows v i j
theorem zge (n i : Nat) : (List.replicate n Fr.zero).getD i Fr.zero = Fr.zero := by
 rw [List.getD_eq_getElem?_getD, List.getElem?_replicate]
 split <;> rfl
abbrev zzk := Int -> (List Fr) -> Int -> Int -> Int -> (List Row) -> (List Pr) -> (List Fr) -> (List Fr) -> (List Fr) -> (List Fr) -> (List Fr) -> (List Fr) -> Option ((List Fr × List Fr × List Fr × Unit) × Int × Unit)
section
variable {N n V : Nat} {c0 log : Int} {rows : List Row} {S : List Pr} {v : List Fr} (hn : n <= 64) (hr : rows.length <= n) (hv : v.length = V) (hin : ∀ r ∈ rows, ∀ j, -1 <= rw3 r j /\ rw3 r j < (V : Int))
include hn hr hv hin
theorem zCG {A : zzk} {j41 : Nat} (h41 : j41 < 10) {o1 o2 : List Fr} : ∀ (k t f : Nat) (o0 : List Fr), t + k = rows.length -> k < f -> o0.length = n -> (∀ i, i < t -> o0.getD i Fr.zero = ceV rows v i 0) -> (∀ i, t <= i -> o0.getD i Fr.zero = Fr.zero) ->
  ∃ o', zcG N A f log v ((0 : Nat) : Int) (j41 : Int) rows (rows.length : Int) (t : Int) c0 (V : Int) rows S [] [] [] o0 o1 o2 = A log v ((j41 + 1 : Nat) : Int) c0 (V : Int) rows S [] [] [] o' o1 o2 /\ zcI rows v n 0 o'
 | 0, t, f + 1, o0, h1, h2, h3, h4, h5 => by
  refine ⟨o0, ?_, h3, fun i hi => ?_⟩
  ·rw [zbN]
   unfold zdZ
   rw [zaa (by omega), cond_false, zar (by omega)]
  ·rcases Nat.lt_or_ge i t with h | h
   ·exact h4 i h
   ·rw [h5 i h]
    unfold ceV
    rw [if_neg (fun hc => absurd hc.1 (by omega))]
 | k + 1, t, f + 1, o0, h1, h2, h3, h4, h5 => by
  have hmem : rows.getD t zrow ∈ rows := zkS (by omega)
  have hw := hin _ hmem 0
  have ih := zCG (A := A) h41 (o1 := o1) (o2 := o2) k (t + 1) f
  rw [zbN]
  unfold zdZ
  rw [zab (by omega), cond_true, zaA (by omega : (0 : Int) <= (t : Int)), Bool.and_self, mst2]
  rw [show eqI ((0 : Nat) : Int) ((0 : Nat) : Int) = true from rfl, cond_true, mst2]
  rw [Int.toNat_natCast, zar (by omega)]
  rw [show (rows.getD t zrow).w0 = rw3 (rows.getD t zrow) 0 from rfl]
  by_cases hneg : 0 <= rw3 (rows.getD t zrow) 0
  ·obtain ⟨x, hx⟩ : ∃ x : Nat, rw3 (rows.getD t zrow) 0 = (x : Int) := ⟨(rw3 (rows.getD t zrow) 0).toNat, by omega⟩
   rw [hx] at hw hneg ⊢
   rw [zaA (by omega : (0 : Int) <= (x : Int)), zab (by omega : (x : Int) < (v.length : Int)), cond_true, zab (by omega : (t : Int) < (o0.length : Int))]
   simp only [Bool.and_self, mst2, zad, Int.toNat_natCast]
   refine ih _ (by omega) (by omega) (by rw [zaQ]; exact h3) (fun i hi => ?_) (fun i hi => ?_)
   ·rw [zaG]
    by_cases e : i = t
    ·rw [if_pos ⟨e, by omega⟩, e]
     unfold ceV
     rw [if_pos ⟨by omega, by rw [hx]; omega⟩, hx, Int.toNat_natCast]
    ·rw [if_neg (fun hc => e hc.1)]; exact h4 i (by omega)
   ·rw [zaG, if_neg (fun hc => absurd hc.1 (by omega))]; exact h5 i (by omega)
  ·rw [zaF hneg, cond_false]
   refine ih _ (by omega) (by omega) h3 (fun i hi => ?_) (fun i hi => h5 i (by omega))
   by_cases e : i = t
   ·rw [e, h5 t (Nat.le_refl _)]
    unfold ceV
    rw [if_neg (fun hc => hneg hc.2)]
   ·exact h4 i (by omega)
theorem zCH {A : zzk} {j41 : Nat} (h41 : j41 < 10) {o0 o2 : List Fr} : ∀ (k t f : Nat) (o1 : List Fr), t + k = rows.length -> k < f -> o1.length = n -> (∀ i, i < t -> o1.getD i Fr.zero = ceV rows v i 1) -> (∀ i, t <= i -> o1.getD i Fr.zero = Fr.zero) ->
  ∃ o', zcG N A f log v ((1 : Nat) : Int) (j41 : Int) rows (rows.length : Int) (t : Int) c0 (V : Int) rows S [] [] [] o0 o1 o2 = A log v ((j41 + 1 : Nat) : Int) c0 (V : Int) rows S [] [] [] o0 o' o2 /\ zcI rows v n 1 o'
 | 0, t, f + 1, o1, h1, h2, h3, h4, h5 => by
  refine ⟨o1, ?_, h3, fun i hi => ?_⟩
  ·rw [zbN]
   unfold zdZ
   rw [zaa (by omega), cond_false, zar (by omega)]
  ·rcases Nat.lt_or_ge i t with h | h
   ·exact h4 i h
   ·rw [h5 i h]
    unfold ceV
    rw [if_neg (fun hc => absurd hc.1 (by omega))]
 | k + 1, t, f + 1, o1, h1, h2, h3, h4, h5 => by
  have hmem : rows.getD t zrow ∈ rows := zkS (by omega)
  have hw := hin _ hmem 1
  have ih := zCH (A := A) h41 (o0 := o0) (o2 := o2) k (t + 1) f
  rw [zbN]
  unfold zdZ
  rw [zab (by omega), cond_true, zaA (by omega : (0 : Int) <= (t : Int)), Bool.and_self, mst2]
  rw [show eqI ((1 : Nat) : Int) ((0 : Nat) : Int) = false from rfl, cond_false, show eqI ((1 : Nat) : Int) ((0 + 1 : Nat) : Int) = true from rfl, cond_true, mst2]
  rw [Int.toNat_natCast, zar (by omega)]
  rw [show (rows.getD t zrow).w1 = rw3 (rows.getD t zrow) 1 from rfl]
  by_cases hneg : 0 <= rw3 (rows.getD t zrow) 1
  ·obtain ⟨x, hx⟩ : ∃ x : Nat, rw3 (rows.getD t zrow) 1 = (x : Int) := ⟨(rw3 (rows.getD t zrow) 1).toNat, by omega⟩
   rw [hx] at hw hneg ⊢
   rw [zaA (by omega : (0 : Int) <= (x : Int)), zab (by omega : (x : Int) < (v.length : Int)), cond_true, zab (by omega : (t : Int) < (o1.length : Int))]
   simp only [Bool.and_self, mst2, zad, Int.toNat_natCast]
   refine ih _ (by omega) (by omega) (by rw [zaQ]; exact h3) (fun i hi => ?_) (fun i hi => ?_)
   ·rw [zaG]
    by_cases e : i = t
    ·rw [if_pos ⟨e, by omega⟩, e]
     unfold ceV
     rw [if_pos ⟨by omega, by rw [hx]; omega⟩, hx, Int.toNat_natCast]
    ·rw [if_neg (fun hc => e hc.1)]; exact h4 i (by omega)
   ·rw [zaG, if_neg (fun hc => absurd hc.1 (by omega))]; exact h5 i (by omega)
  ·rw [zaF hneg, cond_false]
   refine ih _ (by omega) (by omega) h3 (fun i hi => ?_) (fun i hi => h5 i (by omega))
   by_cases e : i = t
   ·rw [e, h5 t (Nat.le_refl _)]
    unfold ceV
    rw [if_neg (fun hc => hneg hc.2)]
   ·exact h4 i (by omega)
theorem zCI {A : zzk} {j41 : Nat} (h41 : j41 < 10) {o0 o1 : List Fr} : ∀ (k t f : Nat) (o2 : List Fr), t + k = rows.length -> k < f -> o2.length = n -> (∀ i, i < t -> o2.getD i Fr.zero = ceV rows v i 2) -> (∀ i, t <= i -> o2.getD i Fr.zero = Fr.zero) ->
  ∃ o', zcG N A f log v ((2 : Nat) : Int) (j41 : Int) rows (rows.length : Int) (t : Int) c0 (V : Int) rows S [] [] [] o0 o1 o2 = A log v ((j41 + 1 : Nat) : Int) c0 (V : Int) rows S [] [] [] o0 o1 o' /\ zcI rows v n 2 o'
 | 0, t, f + 1, o2, h1, h2, h3, h4, h5 => by
  refine ⟨o2, ?_, h3, fun i hi => ?_⟩
  ·rw [zbN]
   unfold zdZ
   rw [zaa (by omega), cond_false, zar (by omega)]
  ·rcases Nat.lt_or_ge i t with h | h
   ·exact h4 i h
   ·rw [h5 i h]
    unfold ceV
    rw [if_neg (fun hc => absurd hc.1 (by omega))]
 | k + 1, t, f + 1, o2, h1, h2, h3, h4, h5 => by
  have hmem : rows.getD t zrow ∈ rows := zkS (by omega)
  have hw := hin _ hmem 2
  have ih := zCI (A := A) h41 (o0 := o0) (o1 := o1) k (t + 1) f
  rw [zbN]
  unfold zdZ
  rw [zab (by omega), cond_true, zaA (by omega : (0 : Int) <= (t : Int)), Bool.and_self, mst2]
  rw [show eqI ((2 : Nat) : Int) ((0 : Nat) : Int) = false from rfl, cond_false, show eqI ((2 : Nat) : Int) ((0 + 1 : Nat) : Int) = false from rfl, cond_false, show eqI ((2 : Nat) : Int) ((0 + 1 + 1 : Nat) : Int) = true from rfl, mst2, mst2]
  rw [Int.toNat_natCast, zar (by omega)]
  rw [show (rows.getD t zrow).w2 = rw3 (rows.getD t zrow) 2 from rfl]
  by_cases hneg : 0 <= rw3 (rows.getD t zrow) 2
  ·obtain ⟨x, hx⟩ : ∃ x : Nat, rw3 (rows.getD t zrow) 2 = (x : Int) := ⟨(rw3 (rows.getD t zrow) 2).toNat, by omega⟩
   rw [hx] at hw hneg ⊢
   rw [zaA (by omega : (0 : Int) <= (x : Int)), zab (by omega : (x : Int) < (v.length : Int)), cond_true, zab (by omega : (t : Int) < (o2.length : Int))]
   simp only [Bool.and_self, mst2, zad, Int.toNat_natCast]
   refine ih _ (by omega) (by omega) (by rw [zaQ]; exact h3) (fun i hi => ?_) (fun i hi => ?_)
   ·rw [zaG]
    by_cases e : i = t
    ·rw [if_pos ⟨e, by omega⟩, e]
     unfold ceV
     rw [if_pos ⟨by omega, by rw [hx]; omega⟩, hx, Int.toNat_natCast]
    ·rw [if_neg (fun hc => e hc.1)]; exact h4 i (by omega)
   ·rw [zaG, if_neg (fun hc => absurd hc.1 (by omega))]; exact h5 i (by omega)
  ·rw [zaF hneg, cond_false]
   refine ih _ (by omega) (by omega) h3 (fun i hi => ?_) (fun i hi => h5 i (by omega))
   by_cases e : i = t
   ·rw [e, h5 t (Nat.le_refl _)]
    unfold ceV
    rw [if_neg (fun hc => hneg hc.2)]
   ·exact h4 i (by omega)
end
theorem zmY {N V L : Nat} (hN : 2000 <= N) {c0 : Int} {rows : List Row} {S : List Pr} {v : List Fr} (hg : GoodCirc c0 (V : Int) rows S) (h1 : 1 <= L) (h6 : L <= 6) (hr : rows.length <= 2 ^ L) (hv : v.length = V) :
  ∃ o0 o1 o2, q145 N c0 (V : Int) rows S (L : Int) v = some ((o0, o1, o2, ()), 0, ()) /\ zcI rows v (2 ^ L) 0 o0 /\ zcI rows v (2 ^ L) 1 o1 /\ zcI rows v (2 ^ L) 2 o2 := by
 have hV := hg.v200
 have hle := zaZ h6
 have hp := zc8 L
 have hin : ∀ r ∈ rows, ∀ j, -1 <= rw3 r j /\ rw3 r j < (V : Int) := fun r hr j => hg.vars hr j
 obtain ⟨n, rfl⟩ : ∃ n, N = n + 1 + 1 + 1 + 1 := ⟨N - 4, by omega⟩
 have hrep : (List.replicate (2 ^ L) Fr.zero).length = 2 ^ L := List.length_replicate
 obtain ⟨o0, e0, i0⟩ := zCG (N := n + 1 + 1 + 1 + 1) (c0 := c0) (log := (L : Int)) (S := S) (A := zdi (n + 1 + 1 + 1 + 1) (n + 1 + 1 + 1)) (j41 := 0) hle hr hv hin (by omega) (o1 := []) (o2 := []) rows.length 0 (n + 1 + 1 + 1 + 1) (List.replicate (2 ^ L) Fr.zero) (by omega) (by omega) hrep (fun i hi => absurd hi (by omega)) (fun i _ => zge _ _)
 obtain ⟨o1, e1, i1⟩ := zCH (N := n + 1 + 1 + 1 + 1) (c0 := c0) (log := (L : Int)) (S := S) (A := zdi (n + 1 + 1 + 1 + 1) (n + 1 + 1)) (j41 := 1) hle hr hv hin (by omega) (o0 := o0) (o2 := []) rows.length 0 (n + 1 + 1 + 1 + 1) (List.replicate (2 ^ L) Fr.zero) (by omega) (by omega) hrep (fun i hi => absurd hi (by omega)) (fun i _ => zge _ _)
 obtain ⟨o2, e2, i2⟩ := zCI (N := n + 1 + 1 + 1 + 1) (c0 := c0) (log := (L : Int)) (S := S) (A := zdi (n + 1 + 1 + 1 + 1) (n + 1)) (j41 := 2) hle hr hv hin (by omega) (o0 := o0) (o1 := o1) rows.length 0 (n + 1 + 1 + 1 + 1) (List.replicate (2 ^ L) Fr.zero) (by omega) (by omega) hrep (fun i hi => absurd hi (by omega)) (fun i _ => zge _ _)
 refine ⟨o0, o1, o2, ?_, i0, i1, i2⟩
 unfold q145
 rw [zaa (by omega), cond_false, zaa (by omega), cond_false, sh1 h6, zaa (by omega), cond_false, zax (by rw [hv]), Bool.not_true, cond_false]
 rw [zmQ (by omega) c0 (V : Int) rows S (by have := hg.rows; omega) (by have := hg.same; omega), hg.may]
 simp only [bsm]
 rw [zax rfl, Bool.not_true, cond_false]
 have st : ∀ (j f : Nat) (o0 o1 o2 : List Fr) (R : Option ((List Fr × List Fr × List Fr × Unit) × Int × Unit)), j < 3 ->
   (j = 0 -> zcG (n + 1 + 1 + 1 + 1) (zdi (n + 1 + 1 + 1 + 1) f) (n + 1 + 1 + 1 + 1) (L : Int) v ((0 : Nat) : Int) ((0 : Nat) : Int) rows (rows.length : Int) ((0 : Nat) : Int) c0 (V : Int) rows S [] [] [] (List.replicate (2 ^ L) Fr.zero) o1 o2 = R) ->
   (j = 1 -> zcG (n + 1 + 1 + 1 + 1) (zdi (n + 1 + 1 + 1 + 1) f) (n + 1 + 1 + 1 + 1) (L : Int) v ((1 : Nat) : Int) ((1 : Nat) : Int) rows (rows.length : Int) ((0 : Nat) : Int) c0 (V : Int) rows S [] [] [] o0 (List.replicate (2 ^ L) Fr.zero) o2 = R) ->
   (j = 2 -> zcG (n + 1 + 1 + 1 + 1) (zdi (n + 1 + 1 + 1 + 1) f) (n + 1 + 1 + 1 + 1) (L : Int) v ((2 : Nat) : Int) ((2 : Nat) : Int) rows (rows.length : Int) ((0 : Nat) : Int) c0 (V : Int) rows S [] [] [] o0 o1 (List.replicate (2 ^ L) Fr.zero) = R) ->
   zdi (n + 1 + 1 + 1 + 1) (f + 1) (L : Int) v (j : Int) c0 (V : Int) rows S [] [] [] o0 o1 o2 = R := fun j f o0 o1 o2 R hj a b c => by
  rw [zhz]
  unfold ziX
  rw [zab (by omega), cond_true, sh1 h6, zas, zax rfl, Int.toNat_natCast, zaE (by omega)]
  simp only [Bool.and_self, mst2]
  obtain rfl | rfl | rfl : j = 0 \/ j = 1 \/ j = 2 := by omega
  ·exact a rfl
  ·exact b rfl
  ·exact c rfl
 refine st 0 (n + 1 + 1 + 1) [] [] [] _ (by omega) (fun _ => e0.trans ?_) (fun h => absurd h (by omega)) (fun h => absurd h (by omega))
 refine st 1 (n + 1 + 1) o0 [] [] _ (by omega) (fun h => absurd h (by omega)) (fun _ => e1.trans ?_) (fun h => absurd h (by omega))
 refine st 2 (n + 1) o0 o1 [] _ (by omega) (fun h => absurd h (by omega)) (fun h => absurd h (by omega)) (fun _ => e2.trans ?_)
 rw [zhz]
 unfold ziX
 rw [zaa (by omega), cond_false]
def ownV (pub : List Fr) (i : Nat) : Fr := if i < pub.length then fneg (pub.getD i Fr.zero) else Fr.zero
theorem ztm {N n : Nat} (hN : 2000 <= N) {pub : List Fr} (hn : n <= 64) (hp : pub.length <= n) (hs : ∀ x ∈ pub, Sc x) : ∀ (k t f : Nat) (o : List Fr), t + k = pub.length -> k < f -> o.length = n -> (∀ i, i < t -> o.getD i Fr.zero = ownV pub i) -> (∀ i, t <= i -> o.getD i Fr.zero = Fr.zero) ->
  ∃ o', zhy N f pub (pub.length : Int) (t : Int) o = some (o', 0, ()) /\ o'.length = n /\ ∀ i, i < n -> o'.getD i Fr.zero = ownV pub i
 | 0, t, f + 1, o, h1, h2, h3, h4, h5 => by
  refine ⟨o, ?_, h3, fun i hi => ?_⟩
  ·rw [zdc]
   unfold zfW
   rw [zaa (by omega), cond_false]
  ·rcases Nat.lt_or_ge i t with h | h
   ·exact h4 i h
   ·rw [h5 i h]
    unfold ownV
    rw [if_neg (by omega)]
 | k + 1, t, f + 1, o, h1, h2, h3, h4, h5 => by
  have hsc : Sc (pub.getD t Fr.zero) := by
   rw [List.getD_eq_getElem?_getD, List.getElem?_eq_getElem (by omega : t < pub.length)]
   exact hs _ (List.getElem_mem _)
  rw [zdc]
  unfold zfW
  rw [zab (by omega), cond_true, zaA (by omega : (0 : Int) <= (t : Int)), Bool.and_self, mst2, Int.toNat_natCast, zwH (by omega) hsc]
  simp only [bsm]
  rw [zab (by omega : (t : Int) < (o.length : Int)), Bool.and_self, mst2, zar (by omega)]
  refine ztm hN hn hp hs k (t + 1) f _ (by omega) (by omega) (by rw [zaQ]; exact h3) (fun i hi => ?_) (fun i hi => ?_)
  ·rw [zaG]
   by_cases e : i = t
   ·rw [if_pos ⟨e, by omega⟩, e]
    unfold ownV
    rw [if_pos (by omega)]
    rfl
   ·rw [if_neg (fun hc => e hc.1)]; exact h4 i (by omega)
  ·rw [zaG, if_neg (fun hc => absurd hc.1 (by omega))]; exact h5 i (by omega)
theorem ztn {N L : Nat} (hN : 2000 <= N) {pub : List Fr} (h1 : 1 <= L) (h6 : L <= 6) (hp : pub.length <= 2 ^ L) (hs : ∀ x ∈ pub, Sc x) :
  ∃ o, q146 N (L : Int) pub = some (o, 0, ()) /\ o.length = 2 ^ L /\ ∀ i, i < 2 ^ L -> o.getD i Fr.zero = ownV pub i := by
 have hle := zaZ h6
 obtain ⟨o, e, h⟩ := ztm (N := N) hN hle hp hs pub.length 0 N (List.replicate (2 ^ L) Fr.zero) (by omega) (by omega) List.length_replicate (fun i hi => absurd hi (by omega)) (fun i _ => zge _ _)
 refine ⟨o, ?_, h⟩
 unfold q146
 rw [zaa (by omega), cond_false, zaa (by omega), cond_false, sh1 h6, zaa (by omega), cond_false, zas, zax rfl, Int.toNat_natCast, zaE (by omega)]
 simp only [Bool.and_self, mst2]
 exact e
theorem znR {N : Nat} (c0 v1 : Int) (v2 : List Row) (v3 : List Pr) : ∀ (d k f : Nat), 1 <= k -> k + d = 6 -> d < f -> ∃ L : Nat, k <= L /\ L <= 6 /\ (v2.length <= 2 ^ L \/ L = 6) /\ zch N f (k : Int) c0 v1 v2 v3 = some ((L : Int), ())
 | 0, k, f + 1, h1, h2, h3 => by
  refine ⟨k, Nat.le_refl _, by omega, .inr (by omega), ?_⟩
  rw [zbk]
  unfold zbB
  rw [zaa (by omega), cond_false]
 | d + 1, k, f + 1, h1, h2, h3 => by
  by_cases hl : 2 ^ k < v2.length
  ·obtain ⟨L, a, b, c, e⟩ := znR (N := N) c0 v1 v2 v3 d (k + 1) f (by omega) (by omega) (by omega)
   refine ⟨L, by omega, b, c, ?_⟩
   rw [zbk]
   unfold zbB
   rw [zab (by omega), cond_true, sh1 (by omega), zab (by omega), cond_true, zar (by omega)]
   exact e
  ·refine ⟨k, Nat.le_refl _, by omega, .inl (by omega), ?_⟩
   rw [zbk]
   unfold zbB
   rw [zab (by omega), cond_true, sh1 (by omega), zaa (by omega), cond_false]
theorem zzl {N : Nat} (hN : 100 <= N) (c0 v1 : Int) {v2 : List Row} (v3 : List Pr) (h : v2.length <= 64) : ∃ L : Nat, 1 <= L /\ L <= 6 /\ v2.length <= 2 ^ L /\ q120 N c0 v1 v2 v3 = some ((L : Int), ()) := by
 obtain ⟨L, a, b, c, e⟩ := znR (N := N) c0 v1 v2 v3 5 1 N (by omega) (by omega) (by omega)
 refine ⟨L, a, b, ?_, e⟩
 rcases c with c | rfl
 ·exact c
 ·omega
end
section
def selL (rows : List Row) (i : Nat) : List Fr := if i < rows.length then [(rows.getD i zrow).q0, (rows.getD i zrow).q1, (rows.getD i zrow).q2, (rows.getD i zrow).q3, (rows.getD i zrow).q4, (rows.getD i zrow).q5, (rows.getD i zrow).q6, (rows.getD i zrow).q7] else [Fr.zero, Fr.zero, Fr.zero, Fr.zero, Fr.zero, Fr.zero, Fr.zero, Fr.zero]
def rowV (rows : List Row) (v pub : List Fr) (n i : Nat) : Fr := fadd (gval (selL rows i) (ceV rows v i 0) (ceV rows v i 1) (ceV rows v i 2) (ceV rows v ((i + 1) % n) 0)) (ownV pub i)
def zv0 (rows : List Row) : Prop := ∀ r ∈ rows, Sc r.q0 /\ Sc r.q1 /\ Sc r.q2 /\ Sc r.q3 /\ Sc r.q4 /\ Sc r.q5 /\ Sc r.q6 /\ Sc r.q7
theorem zcn {x : Fr} (h : bg x = false) : Sc x := by
 unfold bg at h
 unfold Sc
 simpa using h
theorem zto {rows : List Row} (h : rows.any bigR = false) : zv0 rows := fun r hr => by
 have h1 := List.any_eq_false.mp h r hr
 unfold bigR at h1
 simp only [Bool.or_eq_true, not_or, Bool.not_eq_true] at h1
 obtain ⟨⟨⟨⟨⟨⟨⟨a0, a1⟩, a2⟩, a3⟩, a4⟩, a5⟩, a6⟩, a7⟩ := h1
 exact ⟨zcn a0, zcn a1, zcn a2, zcn a3, zcn a4, zcn a5, zcn a6, zcn a7⟩
theorem zv1 : ∀ i, Sc ([Fr.zero, Fr.zero, Fr.zero, Fr.zero, Fr.zero, Fr.zero, Fr.zero, Fr.zero].getD i Fr.zero) := by
 intro i
 match i with
 | 0 | 1 | 2 | 3 | 4 | 5 | 6 | 7 => exact zaC
 | i + 8 => exact zaC
theorem zzm {rows : List Row} (h : zv0 rows) (i : Nat) : ∀ j, Sc ((selL rows i).getD j Fr.zero) := by
 intro j
 unfold selL
 split
 ·rename_i hi
  obtain ⟨a0, a1, a2, a3, a4, a5, a6, a7⟩ := h _ (zkS hi)
  match j with
  | 0 => exact a0
  | 1 => exact a1
  | 2 => exact a2
  | 3 => exact a3
  | 4 => exact a4
  | 5 => exact a5
  | 6 => exact a6
  | 7 => exact a7
  | j + 8 => exact zaC
 ·exact zv1 j
theorem znS (rows : List Row) (i : Nat) : (selL rows i).length = 8 := by unfold selL; split <;> rfl
theorem ztp {l : List Fr} (h : ∀ x ∈ l, Sc x) (i : Nat) : Sc (l.getD i Fr.zero) := by
 rcases Nat.lt_or_ge i l.length with h1 | h1
 ·rw [List.getD_eq_getElem?_getD, List.getElem?_eq_getElem h1]; exact h _ (List.getElem_mem h1)
 ·rw [List.getD_eq_getElem?_getD, List.getElem?_eq_none h1]; exact zaC
theorem zfX {rows : List Row} {v : List Fr} (h : ∀ x ∈ v, Sc x) (i j : Nat) : Sc (ceV rows v i j) := by
 unfold ceV
 split
 ·exact ztp h _
 ·exact zaC
theorem ztq (pub : List Fr) (i : Nat) : Sc (ownV pub i) := by
 unfold ownV
 split
 ·exact ztf _
 ·exact zaC
section
variable {N n : Nat} (hN : 2000 <= N) {c0 v1 : Int} {rows : List Row} {S : List Pr} {v pub own o0 o1 o2 : List Fr} (hn : n <= 64) (h1 : 1 <= n) (hsel : zv0 rows) (hv : ∀ x ∈ v, Sc x)
 (hi0 : zcI rows v n 0 o0) (hi1 : zcI rows v n 1 o1) (hi2 : zcI rows v n 2 o2) (hol : own.length = n) (ho : ∀ i, i < n -> own.getD i Fr.zero = ownV pub i)
include hN hn h1 hsel hv hi0 hi1 hi2 hol ho
theorem znT {A : Int -> Int -> Int -> (List Row) -> (List Pr) -> (List Fr) -> (List Fr) -> (List Fr) -> (List Fr) -> Option (Int × Int × Unit)} {i : Nat} (hi : i < n) :
  zcH N A (i : Int) c0 v1 rows S own o0 o1 o2 = cond (!eqF (rowV rows v pub n i) Fr.zero) (some ((i : Int), 12, ())) (cond (ltI ((i + 1 : Nat) : Int) (n : Int)) (A ((i + 1 : Nat) : Int) c0 v1 rows S own o0 o1 o2) (some (0, 0, ()))) := by
 have hm : (i + 1) % n < n := Nat.mod_lt _ (by omega)
 have e0 := hi0.2 i hi
 have e1 := hi1.2 i hi
 have e2 := hi2.2 i hi
 have e3 := hi0.2 _ hm
 have e4 := ho i hi
 have hsum : q80 N (gval (selL rows i) (ceV rows v i 0) (ceV rows v i 1) (ceV rows v i 2) (ceV rows v ((i + 1) % n) 0)) (ownV pub i) = some (rowV rows v pub n i, ()) := addF (by omega) (zsG _ _ _ _ _) (ztq _ _)
 have hval : q106 N (selL rows i) (ceV rows v i 0) (ceV rows v i 1) (ceV rows v i 2) (ceV rows v ((i + 1) % n) 0) = some (gval (selL rows i) (ceV rows v i 0) (ceV rows v i 1) (ceV rows v i 2) (ceV rows v ((i + 1) % n) 0), ()) :=
  zy0 (by omega) (znS _ _) (zzm hsel i) (zfX hv _ _) (zfX hv _ _) (zfX hv _ _) (zfX hv _ _)
 have b0 : (leI 0 (i : Int) && ltI (i : Int) (o0.length : Int)) = true := ixk (by rw [hi0.1]; exact hi)
 have b1 : (leI 0 (i : Int) && ltI (i : Int) (o1.length : Int)) = true := ixk (by rw [hi1.1]; exact hi)
 have b2 : (leI 0 (i : Int) && ltI (i : Int) (o2.length : Int)) = true := ixk (by rw [hi2.1]; exact hi)
 have b3 : (leI 0 (i : Int) && ltI (i : Int) (n : Int)) = true := ixk hi
 have b4 : (leI 0 (((i + 1) % n : Nat) : Int) && ltI (((i + 1) % n : Nat) : Int) (o0.length : Int)) = true := ixk (by rw [hi0.1]; exact hm)
 unfold zcH
 rw [zar (by omega), hol, zaV (by omega : ¬ (n : Int) = 0), zgc, b0, b1, b2, b3, b4]
 simp only [Bool.not_false, mst2, zad, Int.toNat_natCast, e0, e1, e2, e3, e4]
 by_cases hr : i < rows.length
 ·rw [zab (by omega), cond_true, zaA (by omega), Bool.and_self, mst2]
  have hs : selL rows i = [(rows.getD i zrow).q0, (rows.getD i zrow).q1, (rows.getD i zrow).q2, (rows.getD i zrow).q3, (rows.getD i zrow).q4, (rows.getD i zrow).q5, (rows.getD i zrow).q6, (rows.getD i zrow).q7] := by unfold selL; rw [if_pos hr]
  rw [← hs, hval]
  simp only [bsm]
  rw [hsum]
  simp only [bsm]
  rfl
 ·rw [zaa (by omega), cond_false]
  have hs : selL rows i = [Fr.zero, Fr.zero, Fr.zero, Fr.zero, Fr.zero, Fr.zero, Fr.zero, Fr.zero] := by unfold selL; rw [if_neg hr]
  rw [← hs, hval]
  simp only [bsm]
  rw [hsum]
  simp only [bsm]
  rfl
theorem znU : ∀ (k i f : Nat), i + k + 1 = n -> k < f -> ∃ r, zci N f (i : Int) c0 v1 rows S own o0 o1 o2 = some r /\
  ((∃ j, i <= j /\ j < n /\ rowV rows v pub n j ≠ Fr.zero /\ (∀ m, i <= m -> m < j -> rowV rows v pub n m = Fr.zero) /\ r = ((j : Int), 12, ())) \/ ((∀ m, i <= m -> m < n -> rowV rows v pub n m = Fr.zero) /\ r = (0, 0, ())))
 | k, i, f + 1, hk, hf => by
  rw [zd0, znT hN hn h1 hsel hv hi0 hi1 hi2 hol ho (by omega)]
  by_cases hz : rowV rows v pub n i = Fr.zero
  ·rw [zve hz, Bool.not_true, cond_false]
   cases k with
   | zero =>
    rw [zaa (by omega), cond_false]
    refine ⟨_, rfl, .inr ⟨fun m h1 h2 => ?_, rfl⟩⟩
    rw [show m = i by omega]; exact hz
   | succ k =>
    rw [zab (by omega), cond_true]
    obtain ⟨r, e, h⟩ := znU k (i + 1) f (by omega) (by omega)
    refine ⟨r, e, ?_⟩
    rcases h with ⟨j, a, b, c, d, e⟩ | ⟨a, b⟩
    ·refine .inl ⟨j, by omega, b, c, fun m h1 h2 => ?_, e⟩
     by_cases hm : m = i
     ·rw [hm]; exact hz
     ·exact d m (by omega) h2
    ·refine .inr ⟨fun m h1 h2 => ?_, b⟩
     by_cases hm : m = i
     ·rw [hm]; exact hz
     ·exact a m (by omega) h2
  ·rw [zsC hz, Bool.not_false, cond_true]
   exact ⟨_, rfl, .inl ⟨i, Nat.le_refl _, by omega, hz, fun m h1 h2 => absurd h1 (by omega), rfl⟩⟩
end
theorem znV {N V : Nat} (hV : V <= 200) {c0 : Int} {rows : List Row} {S : List Pr} {v pub : List Fr} {cl : List Int} (hv : v.length = V) (hcl : cl.length = V) (hin : ∀ i, i < V -> ∃ c : Nat, c < V /\ cl.getD i 0 = (c : Int)) : ∀ (k t f : Nat), t + k = V -> k < f ->
  (∃ i, t <= i /\ i < V /\ v.getD i Fr.zero ≠ v.getD (cl.getD i 0).toNat Fr.zero /\ zcj N f pub v (V : Int) (t : Int) c0 (V : Int) rows S cl = some ((i : Int), 13, ())) \/
  ((∀ i, t <= i -> i < V -> v.getD i Fr.zero = v.getD (cl.getD i 0).toNat Fr.zero) /\ zcj N f pub v (V : Int) (t : Int) c0 (V : Int) rows S cl = zcj N 1 pub v (V : Int) (V : Int) c0 (V : Int) rows S cl)
 | 0, t, f + 1, h1, h2 => by
  right
  refine ⟨fun i a b => absurd a (by omega), ?_⟩
  rw [show t = V by omega, zbd, zbd]
  unfold zd1
  rw [zaa (by omega), cond_false, cond_false]
 | k + 1, t, f + 1, h1, h2 => by
  obtain ⟨c, hc, ec⟩ := hin t (by omega)
  have step : zcj N (f + 1) pub v (V : Int) (t : Int) c0 (V : Int) rows S cl = cond (!decide (v.getD t Fr.zero = v.getD (cl.getD t 0).toNat Fr.zero)) (some ((t : Int), 13, ())) (zcj N f pub v (V : Int) ((t + 1 : Nat) : Int) c0 (V : Int) rows S cl) := by
   rw [zbd]
   unfold zd1
   rw [zab (by omega), cond_true, hcl, hv, Int.toNat_natCast, ec, ixk (by omega : t < V), ixk hc, zkJ, zar (by omega), Int.toNat_natCast]
   simp only [mst2]
  by_cases he : v.getD t Fr.zero = v.getD (cl.getD t 0).toNat Fr.zero
  ·rw [step, decide_eq_true he, Bool.not_true, cond_false]
   rcases znV (N := N) (c0 := c0) (rows := rows) (S := S) (pub := pub) hV hv hcl hin k (t + 1) f (by omega) (by omega) with ⟨i, a, b, c, d⟩ | ⟨a, b⟩
   ·exact .inl ⟨i, by omega, b, c, d⟩
   ·refine .inr ⟨fun i h1 h2 => ?_, b⟩
    by_cases e : i = t
    ·rw [e]; exact he
    ·exact a i (by omega) h2
  ·left
   exact ⟨t, Nat.le_refl _, by omega, he, by rw [step, decide_eq_false he, Bool.not_false, cond_true]⟩
theorem zv2 {N V : Nat} (hN : 100000 <= N) {c0 : Int} {rows : List Row} {S : List Pr} {v pub : List Fr} (hg : GoodCirc c0 (V : Int) rows S) (hv : v.length = V) (hvs : ∀ x ∈ v, Sc x) (hp : (pub.length : Int) = c0) (hps : ∀ x ∈ pub, Sc x) :
  ∃ r L, q143 N c0 (V : Int) rows S pub v = some r /\ 1 <= L /\ L <= 6 /\ rows.length <= 2 ^ L /\
   ((∃ i : Nat, i < V /\ r = ((i : Int), 13, ()) /\ ¬ ∀ p ∈ S, v.getD p.x.toNat Fr.zero = v.getD p.y.toNat Fr.zero) \/
    ((∀ p ∈ S, v.getD p.x.toNat Fr.zero = v.getD p.y.toNat Fr.zero) /\
     ((∃ j, j < 2 ^ L /\ rowV rows v pub (2 ^ L) j ≠ Fr.zero /\ (∀ m, m < j -> rowV rows v pub (2 ^ L) m = Fr.zero) /\ r = ((j : Int), 12, ())) \/ ((∀ m, m < 2 ^ L -> rowV rows v pub (2 ^ L) m = Fr.zero) /\ r = (0, 0, ()))))) := by
 have hV := hg.v200
 have hS := hg.pairs (V := V) rfl
 have hm : q119 N c0 (V : Int) rows S = some (0, ()) := by
  rw [zmQ (by omega) c0 (V : Int) rows S (by have := hg.rows; omega) (by have := hg.same; omega), hg.may]
 obtain ⟨cl, e4, _, gc, fc⟩ := ziQ (c0 := c0) (v2 := rows) hS (by have := hg.same; omega) (by omega) hN hm
 have hin : ∀ i, i < V -> ∃ c : Nat, c < V /\ cl.getD i 0 = (c : Int) := fun i hi => ⟨(cl.getD i 0).toNat, by have := gc.nn i hi; have := gc.le i hi; omega, by have := gc.nn i hi; omega⟩
 obtain ⟨L, h1, h6, hr, eL⟩ := zzl (N := N) (by omega) c0 (V : Int) S hg.rows
 have hle := zaZ h6
 have hp2 := zc8 L
 obtain ⟨o0, o1, o2, e5, i0, i1, i2⟩ := zmY (N := N) (by omega) hg h1 h6 hr hv
 obtain ⟨own, e6, l6, o6⟩ := ztn (N := N) (by omega) h1 h6 (by have := hg.pub; omega) hps
 obtain ⟨r, e7, h7⟩ := znU (N := N) (n := 2 ^ L) (c0 := c0) (v1 := (V : Int)) (S := S) (by omega) hle hp2 (zto hg.big) hvs i0 i1 i2 l6 o6 (2 ^ L - 1) 0 N (by omega) (by omega)
 have hst : q143 N c0 (V : Int) rows S pub v = zcj N N pub v (V : Int) 0 c0 (V : Int) rows S cl := by
  unfold q143
  rw [hm]
  simp only [bsm]
  rw [zax rfl, Bool.not_true, cond_false, zax hp, Bool.not_true, cond_false, zax (by rw [hv]), Bool.not_true, cond_false, e4]
  simp only [bsm]
  rw [gc.len]
 have hlast : zcj N 1 pub v (V : Int) (V : Int) c0 (V : Int) rows S cl = some r := by
  rw [show (1 : Nat) = 0 + 1 from rfl, zbd]
  unfold zd1
  rw [zaa (by omega), cond_false, eL]
  simp only [bsm]
  rw [e5]
  simp only [bsm]
  rw [e6]
  simp only [bsm]
  exact e7
 rcases znV (N := N) (c0 := c0) (rows := rows) (S := S) (pub := pub) (by omega) hv gc.len hin V 0 N (by omega) (by omega) with ⟨i, _, b, c, d⟩ | ⟨a, b⟩
 ·refine ⟨_, L, hst.trans d, h1, h6, hr, .inl ⟨i, b, rfl, fun hall => c ?_⟩⟩
  have al := gc.al i b
  have : ∀ a b : Int, Alike2 S a b -> v.getD a.toNat Fr.zero = v.getD b.toNat Fr.zero := by
   intro a b h
   induction h with
   | refl => rfl
   | pair hp => exact hall _ hp
   | symm _ ih => exact ih.symm
   | trans _ _ h1 h2 => exact h1.trans h2
  exact this _ _ al
 ·refine ⟨r, L, (hst.trans b).trans hlast, h1, h6, hr, .inr ⟨fun p hp => ?_, ?_⟩⟩
  ·obtain ⟨⟨x0, x1⟩, y0, y1⟩ := hS p hp
   rw [a p.x.toNat (Nat.zero_le _) (by omega), a p.y.toNat (Nat.zero_le _) (by omega), fc p hp]
  ·rcases h7 with ⟨j, _, b, c, d, e⟩ | ⟨c, d⟩
   ·exact .inl ⟨j, b, c, fun m hm => d m (Nat.zero_le _) hm, e⟩
   ·exact .inr ⟨fun m hm => c m (Nat.zero_le _) hm, d⟩
end
section
theorem ziY {P : Int} : ∀ (k : Nat) {l : List Row} {i : Nat}, zdb P i l = false -> zdb P i (l.take k) = false
 | 0, _, _, _ => rfl
 | k + 1, [], _, _ => rfl
 | k + 1, r :: l, i, h => by
  unfold zdb at h
  simp only [Bool.or_eq_false_iff] at h
  rw [List.take_succ_cons]
  unfold zdb
  rw [ziY k h.2]
  simp only [Bool.or_eq_false_iff, and_true]
  exact h.1
theorem GoodCirc.take {c0 v1 : Int} {rows : List Row} {S : List Pr} (h : GoodCirc c0 v1 rows S) {i : Nat} (hi : c0 <= (i : Int)) : GoodCirc c0 v1 (rows.take i) S := by
 refine ⟨h.p0, h.p8, h.v0, h.v200, ?_, h.same, ?_, ?_, ?_, h.unkp, ziY i h.form⟩
 ·have := h.rows; rw [List.length_take]; omega
 ·have := h.pub; rw [List.length_take]; omega
 ·exact List.any_eq_false.2 fun r hr => List.any_eq_false.1 h.big r (List.mem_of_mem_take hr)
 ·exact List.any_eq_false.2 fun r hr => List.any_eq_false.1 h.unk r (List.mem_of_mem_take hr)
def PvI (s : PlS) : Prop := ∀ x ∈ s.pv, Sc x
theorem Gate.pvI {g : Nat} {s s' : PlS} (hg : Gate s s') (hi : PlI g s) (h : PvI s) : PvI s' := by
 cases hg with
 | pub n x hx hp =>
  intro y hy
  simp only [List.mem_append, List.mem_singleton] at hy
  rcases hy with hy | rfl
  ·exact h y hy
  ·exact hi.val x
 | _ => exact h
theorem zzn {l : List Fr} (h : ∀ x ∈ l, Sc x) {a : Fr} (ha : Sc a) (i : Nat) : ∀ x ∈ setL l i a, Sc x := by
 induction l generalizing i with
 | nil => intro x hx; cases hx
 | cons y l ih =>
  cases i with
  | zero =>
   intro x hx
   simp only [setL, List.mem_cons] at hx
   rcases hx with rfl | hx
   ·exact ha
   ·exact h x (List.mem_cons_of_mem _ hx)
  | succ i =>
   intro x hx
   simp only [setL, List.mem_cons] at hx
   rcases hx with rfl | hx
   ·exact h _ List.mem_cons_self
   ·exact ih (fun z hz => h z (List.mem_cons_of_mem _ hz)) i x hx
theorem zCJ : q142 100000 = some (true, ()) := by kernel_rfl
end
end Go.Proofs.Ytgimohchocjgcaa.V
