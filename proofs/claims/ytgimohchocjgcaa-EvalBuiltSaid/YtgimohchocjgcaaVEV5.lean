import Derived.Test.YtgimohchocjgcaaVEV1
import Derived.Test.YtgimohchocjgcaaVWC5
import Derived.KernelRfl
import Derived.Test.YtgimohchocjgcaaVPA3
set_option linter.unusedVariables false
set_option linter.unusedSimpArgs false
namespace Go.Proofs.Ytgimohchocjgcaa.V
section
def zcb (N : Nat) (A_1000 : Int -> Int -> Int -> (List Row) -> (List Pr) -> Option (Int × Unit)) (log3 ob0_0 ob0_1 : Int) (ob0_2 : List Row) (ob0_3 : List Pr) : Option (Int × Unit) :=
  cond ((ltI log3 (6 : Int))) (cond ((ltI ((shlI (1 : Int) (UInt64.toNat ((u64I log3))))) (↑ob0_2.length : Int))) (A_1000 ((wr (log3 + (1 : Int)))) ob0_0 ob0_1 ob0_2 ob0_3) (some ((log3, ())))) (some ((log3, ())))
theorem zmm : zgC = zcb := by
  (repeat (apply funext; intro _))
  simp only [zgC, zcb, hide_eq, zaf, zai, zaj, zah, zas, zav, zaU, zaA]
def zcz (N n : Nat) (log3 ob0_0 ob0_1 : Int) (ob0_2 : List Row) (ob0_3 : List Pr) : Option (Int × Unit) :=
  zam (fun A x => zcb N (fun log3 ob0_0 ob0_1 ob0_2 ob0_3 => A (((), (log3, ())), ((ob0_0, (ob0_1, (ob0_2, (ob0_3, ())))), ()))) x.1.2.1 x.2.1.1 x.2.1.2.1 x.2.1.2.2.1 x.2.1.2.2.2.1) n (((), (log3, ())), ((ob0_0, (ob0_1, (ob0_2, (ob0_3, ())))), ()))
theorem zmn : zgD = zcz := by
  (repeat (apply funext; intro _))
  simp only [zgD, zcz, zmm, zaf, zai, zaj, zah, zas, zav, zaU, zaA]
theorem zcj (N n : Nat) (log3 ob0_0 ob0_1 : Int) (ob0_2 : List Row) (ob0_3 : List Pr) : zcz N (n + 1) log3 ob0_0 ob0_1 ob0_2 ob0_3 = zcb N (zcz N n) log3 ob0_0 ob0_1 ob0_2 ob0_3 := rfl
def q120 (N : Nat) (c0 v1 : Int) (v2 : List Row) (v3 : List Pr) : Option (Int × Unit) :=
  zcz N N (1 : Int) c0 v1 v2 v3
theorem zAS : p120 = q120 := by
  (repeat (apply funext; intro _))
  simp only [p120, q120, zmn, zaf, zai, zaj, zah, zas, zav, zaU, zaA]
def ziy (N : Nat) (A_5 : (List Fr) -> Int -> Int -> (List Fr) -> Option (List Fr × Int × Unit)) (t27 : List Fr) (t28 t29 : Int) (out6o : List Fr) : Option (List Fr × Int × Unit) :=
  cond ((ltI t29 t28)) (must (leI (0 : Int) t29 && ltI t29 (↑t27.length : Int)) (Option.bind (q84 N ((List.getD t27 t29.toNat (Fr.zero)))) fun rr0 => must (leI (0 : Int) t29 && ltI t29 (↑out6o.length : Int)) (A_5 t27 t28 ((wr (t29 + (1 : Int)))) (setL out6o t29.toNat (rr0.1))))) (some ((out6o, (0 : Int), ())))
theorem zuw : zqY = ziy := by
  (repeat (apply funext; intro _))
  simp only [zqY, ziy, hide_eq, zCE, zaf, zai, zaj, zah, zas, zav, zaU, zaA]
def ziz (N n : Nat) (t27 : List Fr) (t28 t29 : Int) (out6o : List Fr) : Option (List Fr × Int × Unit) :=
  zam (fun A x => ziy N (fun t27 t28 t29 out6o => A (((), (t27, (t28, (t29, ())))), (out6o, ()))) x.1.2.1 x.1.2.2.1 x.1.2.2.2.1 x.2.1) n (((), (t27, (t28, (t29, ())))), (out6o, ()))
theorem zux : zqZ = ziz := by
  (repeat (apply funext; intro _))
  simp only [zqZ, ziz, zuw, zaf, zai, zaj, zah, zas, zav, zaU, zaA]
theorem zha (N n : Nat) (t27 : List Fr) (t28 t29 : Int) (out6o : List Fr) : ziz N (n + 1) t27 t28 t29 out6o = ziy N (ziz N n) t27 t28 t29 out6o := rfl
def q146 (N : Nat) (log0 : Int) (public1 : List Fr) : Option (List Fr × Int × Unit) :=
  cond ((ltI log0 (1 : Int))) (some (([], (1 : Int), ()))) (cond ((ltI (6 : Int) log0)) (some (([], (1 : Int), ()))) (cond ((ltI ((shlI (1 : Int) (UInt64.toNat ((u64I log0))))) (↑public1.length : Int))) (some (([], (1 : Int), ()))) (must (leI (0 : Int) ((shlI (1 : Int) (UInt64.toNat ((u64I log0))))) && (eqI ((shlI (1 : Int) (UInt64.toNat ((u64I log0))))) ((shlI (1 : Int) (UInt64.toNat ((u64I log0))))) && leN (Int.toNat ((shlI (1 : Int) (UInt64.toNat ((u64I log0))))) * (32 : Nat)) (140737488355328 : Nat))) (ziz N N public1 ((↑public1.length : Int)) (0 : Int) (List.replicate (Int.toNat ((shlI (1 : Int) (UInt64.toNat ((u64I log0)))))) (Fr.zero))))))
theorem zAT : p146 = q146 := by
  (repeat (apply funext; intro _))
  simp only [p146, q146, hide_eq, zux, zaf, zai, zaj, zah, zas, zav, zaU, zaA]
def zdO (N : Nat) (A_5 : Int -> (List Fr) -> Int -> Int -> Int -> (List Row) -> (List Pr) -> (List Fr) -> (List Fr) -> (List Fr) -> (List Fr) -> (List Fr) -> (List Fr) -> Option ((List Fr × List Fr × List Fr × Unit) × Int × Unit)) (A_9 : Int -> (List Fr) -> Int -> Int -> (List Row) -> Int -> Int -> Int -> Int -> (List Row) -> (List Pr) -> (List Fr) -> (List Fr) -> (List Fr) -> (List Fr) -> (List Fr) -> (List Fr) -> Option ((List Fr × List Fr × List Fr × Unit) × Int × Unit)) (log1 : Int) (vals2 : List Fr) (j9 t41 : Int) (t51 : List Row) (t52 t53 ob0_0 ob0_1 : Int) (ob0_2 : List Row) (ob0_3 : List Pr) (ob3 ob4 ob5 ob6 ob7 ob8 : List Fr) : Option ((List Fr × List Fr × List Fr × Unit) × Int × Unit) :=
  cond ((ltI t53 t52)) (must (leI (0 : Int) t53 && ltI t53 (↑t51.length : Int)) (cond (eqI j9 (↑(0 : Nat) : Int)) (must (eqI j9 (↑(0 : Nat) : Int)) (cond ((leI (0 : Int) (Row.w0 (List.getD t51 t53.toNat zrow)))) (must (leI (0 : Int) (Row.w0 (List.getD t51 t53.toNat zrow)) && ltI (Row.w0 (List.getD t51 t53.toNat zrow)) (↑vals2.length : Int)) (must (leI (0 : Int) t53 && ltI t53 (↑ob6.length : Int)) (A_9 log1 vals2 ((↑(0 : Nat) : Int)) t41 t51 t52 ((wr (t53 + (1 : Int)))) ob0_0 ob0_1 ob0_2 ob0_3 ob3 ob4 ob5 (setL ob6 t53.toNat (Fr.mk (Fr.a0 (List.getD vals2 (Int.toNat (Row.w0 (List.getD t51 t53.toNat zrow))) (Fr.zero))) (Fr.a1 (List.getD vals2 (Int.toNat (Row.w0 (List.getD t51 t53.toNat zrow))) (Fr.zero))) (Fr.a2 (List.getD vals2 (Int.toNat (Row.w0 (List.getD t51 t53.toNat zrow))) (Fr.zero))) (Fr.a3 (List.getD vals2 (Int.toNat (Row.w0 (List.getD t51 t53.toNat zrow))) (Fr.zero))))) ob7 ob8))) (A_9 log1 vals2 ((↑(0 : Nat) : Int)) t41 t51 t52 ((wr (t53 + (1 : Int)))) ob0_0 ob0_1 ob0_2 ob0_3 ob3 ob4 ob5 ob6 ob7 ob8))) (cond (eqI j9 (↑((0 : Nat) + (1 : Nat)) : Int)) (must (eqI j9 (↑((0 : Nat) + (1 : Nat)) : Int)) (cond ((leI (0 : Int) (Row.w1 (List.getD t51 t53.toNat zrow)))) (must (leI (0 : Int) (Row.w1 (List.getD t51 t53.toNat zrow)) && ltI (Row.w1 (List.getD t51 t53.toNat zrow)) (↑vals2.length : Int)) (must (leI (0 : Int) t53 && ltI t53 (↑ob7.length : Int)) (A_9 log1 vals2 ((↑((0 : Nat) + (1 : Nat)) : Int)) t41 t51 t52 ((wr (t53 + (1 : Int)))) ob0_0 ob0_1 ob0_2 ob0_3 ob3 ob4 ob5 ob6 (setL ob7 t53.toNat (Fr.mk (Fr.a0 (List.getD vals2 (Int.toNat (Row.w1 (List.getD t51 t53.toNat zrow))) (Fr.zero))) (Fr.a1 (List.getD vals2 (Int.toNat (Row.w1 (List.getD t51 t53.toNat zrow))) (Fr.zero))) (Fr.a2 (List.getD vals2 (Int.toNat (Row.w1 (List.getD t51 t53.toNat zrow))) (Fr.zero))) (Fr.a3 (List.getD vals2 (Int.toNat (Row.w1 (List.getD t51 t53.toNat zrow))) (Fr.zero))))) ob8))) (A_9 log1 vals2 ((↑((0 : Nat) + (1 : Nat)) : Int)) t41 t51 t52 ((wr (t53 + (1 : Int)))) ob0_0 ob0_1 ob0_2 ob0_3 ob3 ob4 ob5 ob6 ob7 ob8))) (must (eqI j9 (↑((0 : Nat) + (1 : Nat) + (1 : Nat)) : Int)) (must (eqI j9 (↑((0 : Nat) + (1 : Nat) + (1 : Nat)) : Int)) (cond ((leI (0 : Int) (Row.w2 (List.getD t51 t53.toNat zrow)))) (must (leI (0 : Int) (Row.w2 (List.getD t51 t53.toNat zrow)) && ltI (Row.w2 (List.getD t51 t53.toNat zrow)) (↑vals2.length : Int)) (must (leI (0 : Int) t53 && ltI t53 (↑ob8.length : Int)) (A_9 log1 vals2 ((↑((0 : Nat) + (1 : Nat) + (1 : Nat)) : Int)) t41 t51 t52 ((wr (t53 + (1 : Int)))) ob0_0 ob0_1 ob0_2 ob0_3 ob3 ob4 ob5 ob6 ob7 (setL ob8 t53.toNat (Fr.mk (Fr.a0 (List.getD vals2 (Int.toNat (Row.w2 (List.getD t51 t53.toNat zrow))) (Fr.zero))) (Fr.a1 (List.getD vals2 (Int.toNat (Row.w2 (List.getD t51 t53.toNat zrow))) (Fr.zero))) (Fr.a2 (List.getD vals2 (Int.toNat (Row.w2 (List.getD t51 t53.toNat zrow))) (Fr.zero))) (Fr.a3 (List.getD vals2 (Int.toNat (Row.w2 (List.getD t51 t53.toNat zrow))) (Fr.zero)))))))) (A_9 log1 vals2 ((↑((0 : Nat) + (1 : Nat) + (1 : Nat)) : Int)) t41 t51 t52 ((wr (t53 + (1 : Int)))) ob0_0 ob0_1 ob0_2 ob0_3 ob3 ob4 ob5 ob6 ob7 ob8))))))) (A_5 log1 vals2 ((wr (t41 + (1 : Int)))) ob0_0 ob0_1 ob0_2 ob0_3 ob3 ob4 ob5 ob6 ob7 ob8)
theorem zuy : zq1 = zdO := by
  (repeat (apply funext; intro _))
  simp only [zq1, zdO, hide_eq, zaf, zai, zaj, zah, zas, zav, zaU, zaA]
def zcA (N : Nat) (A_5 : Int -> (List Fr) -> Int -> Int -> Int -> (List Row) -> (List Pr) -> (List Fr) -> (List Fr) -> (List Fr) -> (List Fr) -> (List Fr) -> (List Fr) -> Option ((List Fr × List Fr × List Fr × Unit) × Int × Unit)) (n : Nat) (log1 : Int) (vals2 : List Fr) (j9 t41 : Int) (t51 : List Row) (t52 t53 ob0_0 ob0_1 : Int) (ob0_2 : List Row) (ob0_3 : List Pr) (ob3 ob4 ob5 ob6 ob7 ob8 : List Fr) : Option ((List Fr × List Fr × List Fr × Unit) × Int × Unit) :=
  zam (fun A x => zdO N A_5 (fun log1 vals2 j9 t41 t51 t52 t53 ob0_0 ob0_1 ob0_2 ob0_3 ob3 ob4 ob5 ob6 ob7 ob8 => A ((log1, (vals2, ((), ((), ((), (j9, (t41, (t51, (t52, (t53, ())))))))))), ((ob0_0, (ob0_1, (ob0_2, (ob0_3, ())))), (((), ((), ((), ()))), (((), ((), ((), ()))), (ob3, (ob4, (ob5, (ob6, (ob7, (ob8, ()))))))))))) x.1.1 x.1.2.1 x.1.2.2.2.2.2.1 x.1.2.2.2.2.2.2.1 x.1.2.2.2.2.2.2.2.1 x.1.2.2.2.2.2.2.2.2.1 x.1.2.2.2.2.2.2.2.2.2.1 x.2.1.1 x.2.1.2.1 x.2.1.2.2.1 x.2.1.2.2.2.1 x.2.2.2.2.1 x.2.2.2.2.2.1 x.2.2.2.2.2.2.1 x.2.2.2.2.2.2.2.1 x.2.2.2.2.2.2.2.2.1 x.2.2.2.2.2.2.2.2.2.1) n ((log1, (vals2, ((), ((), ((), (j9, (t41, (t51, (t52, (t53, ())))))))))), ((ob0_0, (ob0_1, (ob0_2, (ob0_3, ())))), (((), ((), ((), ()))), (((), ((), ((), ()))), (ob3, (ob4, (ob5, (ob6, (ob7, (ob8, ()))))))))))
theorem zuz : zkl = zcA := by
  (repeat (apply funext; intro _))
  simp only [zkl, zcA, zuy, zaf, zai, zaj, zah, zas, zav, zaU, zaA]
theorem zbL (N : Nat) (A_5 : Int -> (List Fr) -> Int -> Int -> Int -> (List Row) -> (List Pr) -> (List Fr) -> (List Fr) -> (List Fr) -> (List Fr) -> (List Fr) -> (List Fr) -> Option ((List Fr × List Fr × List Fr × Unit) × Int × Unit)) (n : Nat) (log1 : Int) (vals2 : List Fr) (j9 t41 : Int) (t51 : List Row) (t52 t53 ob0_0 ob0_1 : Int) (ob0_2 : List Row) (ob0_3 : List Pr) (ob3 ob4 ob5 ob6 ob7 ob8 : List Fr) : zcA N A_5 (n + 1) log1 vals2 j9 t41 t51 t52 t53 ob0_0 ob0_1 ob0_2 ob0_3 ob3 ob4 ob5 ob6 ob7 ob8 = zdO N A_5 (zcA N A_5 n) log1 vals2 j9 t41 t51 t52 t53 ob0_0 ob0_1 ob0_2 ob0_3 ob3 ob4 ob5 ob6 ob7 ob8 := rfl
def ziA (N : Nat) (A_5 : Int -> (List Fr) -> Int -> Int -> Int -> (List Row) -> (List Pr) -> (List Fr) -> (List Fr) -> (List Fr) -> (List Fr) -> (List Fr) -> (List Fr) -> Option ((List Fr × List Fr × List Fr × Unit) × Int × Unit)) (log1 : Int) (vals2 : List Fr) (t41 ob0_0 ob0_1 : Int) (ob0_2 : List Row) (ob0_3 : List Pr) (ob3 ob4 ob5 ob6 ob7 ob8 : List Fr) : Option ((List Fr × List Fr × List Fr × Unit) × Int × Unit) :=
  cond ((ltI t41 (3 : Int))) (must (leI (0 : Int) ((shlI (1 : Int) (UInt64.toNat ((u64I log1))))) && (eqI ((shlI (1 : Int) (UInt64.toNat ((u64I log1))))) ((shlI (1 : Int) (UInt64.toNat ((u64I log1))))) && leN (Int.toNat ((shlI (1 : Int) (UInt64.toNat ((u64I log1))))) * (32 : Nat)) (140737488355328 : Nat))) (cond (eqI t41 (↑(0 : Nat) : Int)) (must (eqI t41 (↑(0 : Nat) : Int)) (zcA N A_5 N log1 vals2 ((↑(0 : Nat) : Int)) t41 ob0_2 ((↑ob0_2.length : Int)) (0 : Int) ob0_0 ob0_1 ob0_2 ob0_3 ob3 ob4 ob5 (List.replicate (Int.toNat ((shlI (1 : Int) (UInt64.toNat ((u64I log1)))))) (Fr.zero)) ob7 ob8)) (cond (eqI t41 (↑((0 : Nat) + (1 : Nat)) : Int)) (must (eqI t41 (↑((0 : Nat) + (1 : Nat)) : Int)) (zcA N A_5 N log1 vals2 ((↑((0 : Nat) + (1 : Nat)) : Int)) t41 ob0_2 ((↑ob0_2.length : Int)) (0 : Int) ob0_0 ob0_1 ob0_2 ob0_3 ob3 ob4 ob5 ob6 (List.replicate (Int.toNat ((shlI (1 : Int) (UInt64.toNat ((u64I log1)))))) (Fr.zero)) ob8)) (must (eqI t41 (↑((0 : Nat) + (1 : Nat) + (1 : Nat)) : Int)) (must (eqI t41 (↑((0 : Nat) + (1 : Nat) + (1 : Nat)) : Int)) (zcA N A_5 N log1 vals2 ((↑((0 : Nat) + (1 : Nat) + (1 : Nat)) : Int)) t41 ob0_2 ((↑ob0_2.length : Int)) (0 : Int) ob0_0 ob0_1 ob0_2 ob0_3 ob3 ob4 ob5 ob6 ob7 (List.replicate (Int.toNat ((shlI (1 : Int) (UInt64.toNat ((u64I log1)))))) (Fr.zero)))))))) (some (((ob6, ob7, ob8, ()), (0 : Int), ())))
theorem zuA : zq2 = ziA := by
  (repeat (apply funext; intro _))
  simp only [zq2, ziA, hide_eq, zuz, zaf, zai, zaj, zah, zas, zav, zaU, zaA]
def zdb (N n : Nat) (log1 : Int) (vals2 : List Fr) (t41 ob0_0 ob0_1 : Int) (ob0_2 : List Row) (ob0_3 : List Pr) (ob3 ob4 ob5 ob6 ob7 ob8 : List Fr) : Option ((List Fr × List Fr × List Fr × Unit) × Int × Unit) :=
  zam (fun A x => ziA N (fun log1 vals2 t41 ob0_0 ob0_1 ob0_2 ob0_3 ob3 ob4 ob5 ob6 ob7 ob8 => A ((log1, (vals2, ((), ((), ((), (t41, ())))))), ((ob0_0, (ob0_1, (ob0_2, (ob0_3, ())))), (((), ((), ((), ()))), (((), ((), ((), ()))), (ob3, (ob4, (ob5, (ob6, (ob7, (ob8, ()))))))))))) x.1.1 x.1.2.1 x.1.2.2.2.2.2.1 x.2.1.1 x.2.1.2.1 x.2.1.2.2.1 x.2.1.2.2.2.1 x.2.2.2.2.1 x.2.2.2.2.2.1 x.2.2.2.2.2.2.1 x.2.2.2.2.2.2.2.1 x.2.2.2.2.2.2.2.2.1 x.2.2.2.2.2.2.2.2.2.1) n ((log1, (vals2, ((), ((), ((), (t41, ())))))), ((ob0_0, (ob0_1, (ob0_2, (ob0_3, ())))), (((), ((), ((), ()))), (((), ((), ((), ()))), (ob3, (ob4, (ob5, (ob6, (ob7, (ob8, ()))))))))))
theorem zuB : zq3 = zdb := by
  (repeat (apply funext; intro _))
  simp only [zq3, zdb, zuA, zaf, zai, zaj, zah, zas, zav, zaU, zaA]
theorem zhb (N n : Nat) (log1 : Int) (vals2 : List Fr) (t41 ob0_0 ob0_1 : Int) (ob0_2 : List Row) (ob0_3 : List Pr) (ob3 ob4 ob5 ob6 ob7 ob8 : List Fr) : zdb N (n + 1) log1 vals2 t41 ob0_0 ob0_1 ob0_2 ob0_3 ob3 ob4 ob5 ob6 ob7 ob8 = ziA N (zdb N n) log1 vals2 t41 ob0_0 ob0_1 ob0_2 ob0_3 ob3 ob4 ob5 ob6 ob7 ob8 := rfl
def q145 (N : Nat) (c0 log1 : Int) (vals2 : List Row) (v3 : List Pr) (v4 : Int) (v5 : List Fr) : Option ((List Fr × List Fr × List Fr × Unit) × Int × Unit) :=
  cond ((ltI v4 (1 : Int))) (some ((([], [], [], ()), (1 : Int), ()))) (cond ((ltI (6 : Int) v4)) (some ((([], [], [], ()), (1 : Int), ()))) (cond ((ltI ((shlI (1 : Int) (UInt64.toNat ((u64I v4))))) (↑vals2.length : Int))) (some ((([], [], [], ()), (1 : Int), ()))) (cond (!eqI (↑v5.length : Int) log1) (some ((([], [], [], ()), (1 : Int), ()))) (Option.bind (q119 N c0 log1 vals2 v3) fun rr0 => cond (!eqI rr0.1 (0 : Int)) (some ((([], [], [], ()), (1 : Int), ()))) (zdb N N v4 v5 (0 : Int) c0 log1 vals2 v3 [] [] [] [] [] [])))))
theorem zvD : p145 = q145 := by
  (repeat (apply funext; intro _))
  simp only [p145, q145, hide_eq, zuB, zrP, zaf, zai, zaj, zah, zas, zav, zaU, zaA]
def zcB (N : Nat) (A_1000 : Int -> Int -> Int -> (List Row) -> (List Pr) -> (List Fr) -> (List Fr) -> (List Fr) -> (List Fr) -> Option (Int × Int × Unit)) (i16 ob0_0 ob0_1 : Int) (ob0_2 : List Row) (ob0_3 : List Pr) (own14o ob3 ob4 ob5 : List Fr) : Option (Int × Int × Unit) :=
  cond ((ltI i16 (↑ob0_2.length : Int))) (must (leI (0 : Int) i16 && ltI i16 (↑ob0_2.length : Int)) (must (!eqI (↑own14o.length : Int) (0 : Int)) (must (leI (0 : Int) ((Int.tmod ((wr (i16 + (1 : Int)))) (↑own14o.length : Int))) && ltI ((Int.tmod ((wr (i16 + (1 : Int)))) (↑own14o.length : Int))) (↑ob3.length : Int)) (must (leI (0 : Int) i16 && ltI i16 (↑ob3.length : Int)) (must (leI (0 : Int) i16 && ltI i16 (↑ob4.length : Int)) (must (leI (0 : Int) i16 && ltI i16 (↑ob5.length : Int)) (Option.bind (q106 N ([(Row.q0 (List.getD ob0_2 i16.toNat zrow)), (Row.q1 (List.getD ob0_2 i16.toNat zrow)), (Row.q2 (List.getD ob0_2 i16.toNat zrow)), (Row.q3 (List.getD ob0_2 i16.toNat zrow)), (Row.q4 (List.getD ob0_2 i16.toNat zrow)), (Row.q5 (List.getD ob0_2 i16.toNat zrow)), (Row.q6 (List.getD ob0_2 i16.toNat zrow)), (Row.q7 (List.getD ob0_2 i16.toNat zrow))]) ((List.getD ob3 i16.toNat (Fr.zero))) ((List.getD ob4 i16.toNat (Fr.zero))) ((List.getD ob5 i16.toNat (Fr.zero))) (Fr.mk (Fr.a0 (List.getD ob3 (Int.toNat ((Int.tmod ((wr (i16 + (1 : Int)))) (↑own14o.length : Int)))) (Fr.zero))) (Fr.a1 (List.getD ob3 (Int.toNat ((Int.tmod ((wr (i16 + (1 : Int)))) (↑own14o.length : Int)))) (Fr.zero))) (Fr.a2 (List.getD ob3 (Int.toNat ((Int.tmod ((wr (i16 + (1 : Int)))) (↑own14o.length : Int)))) (Fr.zero))) (Fr.a3 (List.getD ob3 (Int.toNat ((Int.tmod ((wr (i16 + (1 : Int)))) (↑own14o.length : Int)))) (Fr.zero))))) fun rr2 => must (leI (0 : Int) i16 && ltI i16 (↑own14o.length : Int)) (Option.bind (q80 N (rr2.1) ((List.getD own14o i16.toNat (Fr.zero)))) fun rr3 => cond (!eqF rr3.1 (Fr.mk (0 : UInt64) 0 0 0)) (some ((i16, (12 : Int), ()))) (cond ((ltI ((wr (i16 + (1 : Int)))) (↑own14o.length : Int))) (A_1000 ((wr (i16 + (1 : Int)))) ob0_0 ob0_1 ob0_2 ob0_3 own14o ob3 ob4 ob5) (some (((0 : Int), (0 : Int), ())))))))))))) (must (!eqI (↑own14o.length : Int) (0 : Int)) (must (leI (0 : Int) ((Int.tmod ((wr (i16 + (1 : Int)))) (↑own14o.length : Int))) && ltI ((Int.tmod ((wr (i16 + (1 : Int)))) (↑own14o.length : Int))) (↑ob3.length : Int)) (must (leI (0 : Int) i16 && ltI i16 (↑ob3.length : Int)) (must (leI (0 : Int) i16 && ltI i16 (↑ob4.length : Int)) (must (leI (0 : Int) i16 && ltI i16 (↑ob5.length : Int)) (Option.bind (q106 N ([Fr.zero, Fr.zero, Fr.zero, Fr.zero, Fr.zero, Fr.zero, Fr.zero, Fr.zero]) ((List.getD ob3 i16.toNat (Fr.zero))) ((List.getD ob4 i16.toNat (Fr.zero))) ((List.getD ob5 i16.toNat (Fr.zero))) (Fr.mk (Fr.a0 (List.getD ob3 (Int.toNat ((Int.tmod ((wr (i16 + (1 : Int)))) (↑own14o.length : Int)))) (Fr.zero))) (Fr.a1 (List.getD ob3 (Int.toNat ((Int.tmod ((wr (i16 + (1 : Int)))) (↑own14o.length : Int)))) (Fr.zero))) (Fr.a2 (List.getD ob3 (Int.toNat ((Int.tmod ((wr (i16 + (1 : Int)))) (↑own14o.length : Int)))) (Fr.zero))) (Fr.a3 (List.getD ob3 (Int.toNat ((Int.tmod ((wr (i16 + (1 : Int)))) (↑own14o.length : Int)))) (Fr.zero))))) fun rr0 => must (leI (0 : Int) i16 && ltI i16 (↑own14o.length : Int)) (Option.bind (q80 N (rr0.1) ((List.getD own14o i16.toNat (Fr.zero)))) fun rr1 => cond (!eqF rr1.1 (Fr.mk (0 : UInt64) 0 0 0)) (some ((i16, (12 : Int), ()))) (cond ((ltI ((wr (i16 + (1 : Int)))) (↑own14o.length : Int))) (A_1000 ((wr (i16 + (1 : Int)))) ob0_0 ob0_1 ob0_2 ob0_3 own14o ob3 ob4 ob5) (some (((0 : Int), (0 : Int), ())))))))))))
theorem zmo : zgE = zcB := by
  (repeat (apply funext; intro _))
  simp only [zgE, zcB, hide_eq, zAw, zxg, zaf, zai, zaj, zah, zas, zav, zaU, zaA]
def zcC (N n : Nat) (i16 ob0_0 ob0_1 : Int) (ob0_2 : List Row) (ob0_3 : List Pr) (own14o ob3 ob4 ob5 : List Fr) : Option (Int × Int × Unit) :=
  zam (fun A x => zcB N (fun i16 ob0_0 ob0_1 ob0_2 ob0_3 own14o ob3 ob4 ob5 => A (((), ((), ((), (i16, ())))), ((ob0_0, (ob0_1, (ob0_2, (ob0_3, ())))), (((), ((), ((), ()))), (own14o, (ob3, (ob4, (ob5, ())))))))) x.1.2.2.2.1 x.2.1.1 x.2.1.2.1 x.2.1.2.2.1 x.2.1.2.2.2.1 x.2.2.2.1 x.2.2.2.2.1 x.2.2.2.2.2.1 x.2.2.2.2.2.2.1) n (((), ((), ((), (i16, ())))), ((ob0_0, (ob0_1, (ob0_2, (ob0_3, ())))), (((), ((), ((), ()))), (own14o, (ob3, (ob4, (ob5, ())))))))
theorem zmp : zgF = zcC := by
  (repeat (apply funext; intro _))
  simp only [zgF, zcC, zmo, zaf, zai, zaj, zah, zas, zav, zaU, zaA]
theorem zhu (N n : Nat) (i16 ob0_0 ob0_1 : Int) (ob0_2 : List Row) (ob0_3 : List Pr) (own14o ob3 ob4 ob5 : List Fr) : zcC N (n + 1) i16 ob0_0 ob0_1 ob0_2 ob0_3 own14o ob3 ob4 ob5 = zcB N (zcC N n) i16 ob0_0 ob0_1 ob0_2 ob0_3 own14o ob3 ob4 ob5 := rfl
def zhc (N : Nat) (A_9 : (List Fr) -> (List Fr) -> Int -> Int -> Int -> Int -> (List Row) -> (List Pr) -> (List Int) -> Option (Int × Int × Unit)) (public1 vals2 : List Fr) (t38 t39 ob0_0 ob0_1 : Int) (ob0_2 : List Row) (ob0_3 : List Pr) (t37o : List Int) : Option (Int × Int × Unit) :=
  cond ((ltI t39 t38)) (must (leI (0 : Int) t39 && ltI t39 (↑t37o.length : Int)) (must (leI (0 : Int) t39 && ltI t39 (↑vals2.length : Int)) (must (leI (0 : Int) (List.getD t37o t39.toNat (0 : Int)) && ltI (List.getD t37o t39.toNat (0 : Int)) (↑vals2.length : Int)) (cond (!eqL El.u64 [Fr.a0 (List.getD vals2 t39.toNat (Fr.zero)), Fr.a1 (List.getD vals2 t39.toNat (Fr.zero)), Fr.a2 (List.getD vals2 t39.toNat (Fr.zero)), Fr.a3 (List.getD vals2 t39.toNat (Fr.zero))] [Fr.a0 (List.getD vals2 (Int.toNat (List.getD t37o t39.toNat (0 : Int))) (Fr.zero)), Fr.a1 (List.getD vals2 (Int.toNat (List.getD t37o t39.toNat (0 : Int))) (Fr.zero)), Fr.a2 (List.getD vals2 (Int.toNat (List.getD t37o t39.toNat (0 : Int))) (Fr.zero)), Fr.a3 (List.getD vals2 (Int.toNat (List.getD t37o t39.toNat (0 : Int))) (Fr.zero))]) (some ((t39, (13 : Int), ()))) (A_9 public1 vals2 t38 ((wr (t39 + (1 : Int)))) ob0_0 ob0_1 ob0_2 ob0_3 t37o))))) (Option.bind (q120 N ob0_0 ob0_1 ob0_2 ob0_3) fun rr0 => Option.bind (q145 N ob0_0 ob0_1 ob0_2 ob0_3 rr0.1 vals2) fun rr1 => Option.bind (q146 N rr0.1 public1) fun rr2 => zcC N N (0 : Int) ob0_0 ob0_1 ob0_2 ob0_3 rr2.1 (rr1.1.1) (Prod.fst (rr1.1.2)) (Prod.fst (Prod.snd (rr1.1.2))))
theorem zuC : zq6 = zhc := by
  (repeat (apply funext; intro _))
  simp only [zq6, zhc, hide_eq, zmp, zAS, zvD, zAT, zaf, zai, zaj, zah, zas, zav, zaU, zaA]
def zdc (N n : Nat) (public1 vals2 : List Fr) (t38 t39 ob0_0 ob0_1 : Int) (ob0_2 : List Row) (ob0_3 : List Pr) (t37o : List Int) : Option (Int × Int × Unit) :=
  zam (fun A x => zhc N (fun public1 vals2 t38 t39 ob0_0 ob0_1 ob0_2 ob0_3 t37o => A ((public1, (vals2, ((), ((), (t38, (t39, ())))))), ((ob0_0, (ob0_1, (ob0_2, (ob0_3, ())))), (t37o, ())))) x.1.1 x.1.2.1 x.1.2.2.2.2.1 x.1.2.2.2.2.2.1 x.2.1.1 x.2.1.2.1 x.2.1.2.2.1 x.2.1.2.2.2.1 x.2.2.1) n ((public1, (vals2, ((), ((), (t38, (t39, ())))))), ((ob0_0, (ob0_1, (ob0_2, (ob0_3, ())))), (t37o, ())))
theorem zuD : zq7 = zdc := by
  (repeat (apply funext; intro _))
  simp only [zq7, zdc, zuC, zaf, zai, zaj, zah, zas, zav, zaU, zaA]
theorem zc4 (N n : Nat) (public1 vals2 : List Fr) (t38 t39 ob0_0 ob0_1 : Int) (ob0_2 : List Row) (ob0_3 : List Pr) (t37o : List Int) : zdc N (n + 1) public1 vals2 t38 t39 ob0_0 ob0_1 ob0_2 ob0_3 t37o = zhc N (zdc N n) public1 vals2 t38 t39 ob0_0 ob0_1 ob0_2 ob0_3 t37o := rfl
def q143 (N : Nat) (c0 public1 : Int) (vals2 : List Row) (v3 : List Pr) (v4 v5 : List Fr) : Option (Int × Int × Unit) :=
  Option.bind (q119 N c0 public1 vals2 v3) fun rr0 => cond (!eqI rr0.1 (0 : Int)) (some (((0 : Int), Prod.fst rr0, ()))) (cond (!eqI (↑v4.length : Int) c0) (some (((0 : Int), (14 : Int), ()))) (cond (!eqI (↑v5.length : Int) public1) (some (((0 : Int), (1 : Int), ()))) (Option.bind (q134 N c0 public1 vals2 v3) fun rr1 => zdc N N v4 v5 ((↑rr1.1.length : Int)) (0 : Int) c0 public1 vals2 v3 rr1.1)))
theorem zvE : p143 = q143 := by
  (repeat (apply funext; intro _))
  simp only [p143, q143, hide_eq, zuD, zrP, zAD, zaf, zai, zaj, zah, zas, zav, zaU, zaA]
def q142 (N : Nat) : Option (Bool × Unit) :=
  Option.bind (q95 N ([(1 : UInt8), (1 : UInt8), (0 : UInt8), (0 : UInt8), (0 : UInt8)]) (1 : Int)) fun rr0 => Option.bind (q143 N (rr0.1.1) (Prod.fst (rr0.1.2)) (Prod.fst (Prod.snd (rr0.1.2))) (Prod.fst (Prod.snd (Prod.snd (rr0.1.2)))) (Prod.fst (Prod.snd (Prod.snd (Prod.snd (rr0.1.2))))) (Prod.fst (Prod.snd (Prod.snd (Prod.snd (Prod.snd (rr0.1.2))))))) fun rr1 => must (leN (((0 : Nat) + List.length (Prod.fst (Prod.snd (Prod.snd (Prod.snd (Prod.snd (rr0.1.2))))))) * (32 : Nat)) (140737488355328 : Nat)) (must (ltI (2 : Int) (↑(List.length (Prod.fst (Prod.snd (Prod.snd (Prod.snd (Prod.snd (rr0.1.2))))))) : Int)) (Option.bind (q143 N (rr0.1.1) (Prod.fst (rr0.1.2)) (Prod.fst (Prod.snd (rr0.1.2))) (Prod.fst (Prod.snd (Prod.snd (rr0.1.2)))) (Prod.fst (Prod.snd (Prod.snd (Prod.snd (rr0.1.2))))) (setL (Prod.fst (Prod.snd (Prod.snd (Prod.snd (Prod.snd (rr0.1.2)))))) (2 : Nat) (Fr.mk (77 : UInt64) (0 : UInt64) (0 : UInt64) (0 : UInt64)))) fun rr2 => Option.bind (q145 N (rr0.1.1) (Prod.fst (rr0.1.2)) (Prod.fst (Prod.snd (rr0.1.2))) (Prod.fst (Prod.snd (Prod.snd (rr0.1.2)))) (1 : Int) (Prod.fst (Prod.snd (Prod.snd (Prod.snd (Prod.snd (rr0.1.2))))))) fun rr3 => cond ((eqI (rr1.2.1) (0 : Int))) (cond ((eqI (rr2.2.1) (12 : Int))) (cond ((eqI rr2.1 (0 : Int))) (cond ((eqI (rr3.2.1) (0 : Int))) (some (((eqI (↑(List.length (rr3.1.1)) : Int) (2 : Int)), ()))) (some ((false, ())))) (some ((false, ())))) (some ((false, ())))) (some ((false, ())))))
theorem zAU : p142 = q142 := by
  (repeat (apply funext; intro _))
  simp only [p142, q142, hide_eq, zvE, zvD, zAJ, zaf, zai, zaj, zah, zas, zav, zaU, zaA]
end
section
theorem ixk {i n : Nat} (h : i < n) : (leI 0 (i : Int) && ltI (i : Int) (n : Int)) = true := by rw [zaz, zad (by omega)]; rfl
def ceV (rows : List Row) (v : List Fr) (i j : Nat) : Fr := if i < rows.length /\ 0 <= rw3 (rows.getD i zrow) j then v.getD (rw3 (rows.getD i zrow) j).toNat Fr.zero else Fr.zero
def zjv (rows : List Row) (v : List Fr) (n j : Nat) (l : List Fr) : Prop := l.length = n /\ ∀ i, i < n -> l.getD i Fr.zero = ceV rows v i j
theorem zfO (n i : Nat) : (List.replicate n Fr.zero).getD i Fr.zero = Fr.zero := by
  rw [List.getD_eq_getElem?_getD, List.getElem?_replicate]
  split <;> rfl
abbrev zxQ := Int -> (List Fr) -> Int -> Int -> Int -> (List Row) -> (List Pr) -> (List Fr) -> (List Fr) -> (List Fr) -> (List Fr) -> (List Fr) -> (List Fr) -> Option ((List Fr × List Fr × List Fr × Unit) × Int × Unit)
section
variable {N n V : Nat} {c0 log : Int} {rows : List Row} {S : List Pr} {v : List Fr} (hn : n <= 64) (hr : rows.length <= n) (hv : v.length = V) (hin : ∀ r ∈ rows, ∀ j, -1 <= rw3 r j /\ rw3 r j < (V : Int))
include hn hr hv hin
theorem zAV {A : zxQ} {j41 : Nat} (h41 : j41 < 10) {o1 o2 : List Fr} : ∀ (k t f : Nat) (o0 : List Fr), t + k = rows.length -> k < f -> o0.length = n -> (∀ i, i < t -> o0.getD i Fr.zero = ceV rows v i 0) -> (∀ i, t <= i -> o0.getD i Fr.zero = Fr.zero) ->
    ∃ o', zcA N A f log v ((0 : Nat) : Int) (j41 : Int) rows (rows.length : Int) (t : Int) c0 (V : Int) rows S [] [] [] o0 o1 o2 = A log v ((j41 + 1 : Nat) : Int) c0 (V : Int) rows S [] [] [] o' o1 o2 /\ zjv rows v n 0 o'
  | 0, t, f + 1, o0, h1, h2, h3, h4, h5 => by
    refine ⟨o0, ?_, h3, fun i hi => ?_⟩
    . rw [zbL]
      unfold zdO
      rw [zab (by omega), cond_false, zax (by omega)]
    . rcases Nat.lt_or_ge i t with h | h
      . exact h4 i h
      . rw [h5 i h]
        unfold ceV
        rw [if_neg (fun hc => absurd hc.1 (by omega))]
  | k + 1, t, f + 1, o0, h1, h2, h3, h4, h5 => by
    have hmem : rows.getD t zrow ∈ rows := ziw (by omega)
    have hw := hin _ hmem 0
    have ih := zAV (A := A) h41 (o1 := o1) (o2 := o2) k (t + 1) f
    rw [zbL]
    unfold zdO
    rw [zad (by omega), cond_true, zaK (by omega : (0 : Int) <= (t : Int)), Bool.and_self, mst2]
    rw [show eqI ((0 : Nat) : Int) ((0 : Nat) : Int) = true from rfl, cond_true, mst2]
    rw [Int.toNat_natCast, zax (by omega)]
    rw [show (rows.getD t zrow).w0 = rw3 (rows.getD t zrow) 0 from rfl]
    by_cases hneg : 0 <= rw3 (rows.getD t zrow) 0
    . obtain ⟨x, hx⟩ : ∃ x : Nat, rw3 (rows.getD t zrow) 0 = (x : Int) := ⟨(rw3 (rows.getD t zrow) 0).toNat, by omega⟩
      rw [hx] at hw hneg ⊢
      rw [zaK (by omega : (0 : Int) <= (x : Int)), zad (by omega : (x : Int) < (v.length : Int)), cond_true, zad (by omega : (t : Int) < (o0.length : Int))]
      simp only [Bool.and_self, mst2, zaf, Int.toNat_natCast]
      refine ih _ (by omega) (by omega) (by rw [zaN]; exact h3) (fun i hi => ?_) (fun i hi => ?_)
      . rw [zaD]
        by_cases e : i = t
        . rw [if_pos ⟨e, by omega⟩, e]
          unfold ceV
          rw [if_pos ⟨by omega, by rw [hx]; omega⟩, hx, Int.toNat_natCast]
        . rw [if_neg (fun hc => e hc.1)]; exact h4 i (by omega)
      . rw [zaD, if_neg (fun hc => absurd hc.1 (by omega))]; exact h5 i (by omega)
    . rw [zaC hneg, cond_false]
      refine ih _ (by omega) (by omega) h3 (fun i hi => ?_) (fun i hi => h5 i (by omega))
      by_cases e : i = t
      . rw [e, h5 t (Nat.le_refl _)]
        unfold ceV
        rw [if_neg (fun hc => hneg hc.2)]
      . exact h4 i (by omega)
theorem zAW {A : zxQ} {j41 : Nat} (h41 : j41 < 10) {o0 o2 : List Fr} : ∀ (k t f : Nat) (o1 : List Fr), t + k = rows.length -> k < f -> o1.length = n -> (∀ i, i < t -> o1.getD i Fr.zero = ceV rows v i 1) -> (∀ i, t <= i -> o1.getD i Fr.zero = Fr.zero) ->
    ∃ o', zcA N A f log v ((1 : Nat) : Int) (j41 : Int) rows (rows.length : Int) (t : Int) c0 (V : Int) rows S [] [] [] o0 o1 o2 = A log v ((j41 + 1 : Nat) : Int) c0 (V : Int) rows S [] [] [] o0 o' o2 /\ zjv rows v n 1 o'
  | 0, t, f + 1, o1, h1, h2, h3, h4, h5 => by
    refine ⟨o1, ?_, h3, fun i hi => ?_⟩
    . rw [zbL]
      unfold zdO
      rw [zab (by omega), cond_false, zax (by omega)]
    . rcases Nat.lt_or_ge i t with h | h
      . exact h4 i h
      . rw [h5 i h]
        unfold ceV
        rw [if_neg (fun hc => absurd hc.1 (by omega))]
  | k + 1, t, f + 1, o1, h1, h2, h3, h4, h5 => by
    have hmem : rows.getD t zrow ∈ rows := ziw (by omega)
    have hw := hin _ hmem 1
    have ih := zAW (A := A) h41 (o0 := o0) (o2 := o2) k (t + 1) f
    rw [zbL]
    unfold zdO
    rw [zad (by omega), cond_true, zaK (by omega : (0 : Int) <= (t : Int)), Bool.and_self, mst2]
    rw [show eqI ((1 : Nat) : Int) ((0 : Nat) : Int) = false from rfl, cond_false, show eqI ((1 : Nat) : Int) ((0 + 1 : Nat) : Int) = true from rfl, cond_true, mst2]
    rw [Int.toNat_natCast, zax (by omega)]
    rw [show (rows.getD t zrow).w1 = rw3 (rows.getD t zrow) 1 from rfl]
    by_cases hneg : 0 <= rw3 (rows.getD t zrow) 1
    . obtain ⟨x, hx⟩ : ∃ x : Nat, rw3 (rows.getD t zrow) 1 = (x : Int) := ⟨(rw3 (rows.getD t zrow) 1).toNat, by omega⟩
      rw [hx] at hw hneg ⊢
      rw [zaK (by omega : (0 : Int) <= (x : Int)), zad (by omega : (x : Int) < (v.length : Int)), cond_true, zad (by omega : (t : Int) < (o1.length : Int))]
      simp only [Bool.and_self, mst2, zaf, Int.toNat_natCast]
      refine ih _ (by omega) (by omega) (by rw [zaN]; exact h3) (fun i hi => ?_) (fun i hi => ?_)
      . rw [zaD]
        by_cases e : i = t
        . rw [if_pos ⟨e, by omega⟩, e]
          unfold ceV
          rw [if_pos ⟨by omega, by rw [hx]; omega⟩, hx, Int.toNat_natCast]
        . rw [if_neg (fun hc => e hc.1)]; exact h4 i (by omega)
      . rw [zaD, if_neg (fun hc => absurd hc.1 (by omega))]; exact h5 i (by omega)
    . rw [zaC hneg, cond_false]
      refine ih _ (by omega) (by omega) h3 (fun i hi => ?_) (fun i hi => h5 i (by omega))
      by_cases e : i = t
      . rw [e, h5 t (Nat.le_refl _)]
        unfold ceV
        rw [if_neg (fun hc => hneg hc.2)]
      . exact h4 i (by omega)
theorem zAX {A : zxQ} {j41 : Nat} (h41 : j41 < 10) {o0 o1 : List Fr} : ∀ (k t f : Nat) (o2 : List Fr), t + k = rows.length -> k < f -> o2.length = n -> (∀ i, i < t -> o2.getD i Fr.zero = ceV rows v i 2) -> (∀ i, t <= i -> o2.getD i Fr.zero = Fr.zero) ->
    ∃ o', zcA N A f log v ((2 : Nat) : Int) (j41 : Int) rows (rows.length : Int) (t : Int) c0 (V : Int) rows S [] [] [] o0 o1 o2 = A log v ((j41 + 1 : Nat) : Int) c0 (V : Int) rows S [] [] [] o0 o1 o' /\ zjv rows v n 2 o'
  | 0, t, f + 1, o2, h1, h2, h3, h4, h5 => by
    refine ⟨o2, ?_, h3, fun i hi => ?_⟩
    . rw [zbL]
      unfold zdO
      rw [zab (by omega), cond_false, zax (by omega)]
    . rcases Nat.lt_or_ge i t with h | h
      . exact h4 i h
      . rw [h5 i h]
        unfold ceV
        rw [if_neg (fun hc => absurd hc.1 (by omega))]
  | k + 1, t, f + 1, o2, h1, h2, h3, h4, h5 => by
    have hmem : rows.getD t zrow ∈ rows := ziw (by omega)
    have hw := hin _ hmem 2
    have ih := zAX (A := A) h41 (o0 := o0) (o1 := o1) k (t + 1) f
    rw [zbL]
    unfold zdO
    rw [zad (by omega), cond_true, zaK (by omega : (0 : Int) <= (t : Int)), Bool.and_self, mst2]
    rw [show eqI ((2 : Nat) : Int) ((0 : Nat) : Int) = false from rfl, cond_false, show eqI ((2 : Nat) : Int) ((0 + 1 : Nat) : Int) = false from rfl, cond_false, show eqI ((2 : Nat) : Int) ((0 + 1 + 1 : Nat) : Int) = true from rfl, mst2, mst2]
    rw [Int.toNat_natCast, zax (by omega)]
    rw [show (rows.getD t zrow).w2 = rw3 (rows.getD t zrow) 2 from rfl]
    by_cases hneg : 0 <= rw3 (rows.getD t zrow) 2
    . obtain ⟨x, hx⟩ : ∃ x : Nat, rw3 (rows.getD t zrow) 2 = (x : Int) := ⟨(rw3 (rows.getD t zrow) 2).toNat, by omega⟩
      rw [hx] at hw hneg ⊢
      rw [zaK (by omega : (0 : Int) <= (x : Int)), zad (by omega : (x : Int) < (v.length : Int)), cond_true, zad (by omega : (t : Int) < (o2.length : Int))]
      simp only [Bool.and_self, mst2, zaf, Int.toNat_natCast]
      refine ih _ (by omega) (by omega) (by rw [zaN]; exact h3) (fun i hi => ?_) (fun i hi => ?_)
      . rw [zaD]
        by_cases e : i = t
        . rw [if_pos ⟨e, by omega⟩, e]
          unfold ceV
          rw [if_pos ⟨by omega, by rw [hx]; omega⟩, hx, Int.toNat_natCast]
        . rw [if_neg (fun hc => e hc.1)]; exact h4 i (by omega)
      . rw [zaD, if_neg (fun hc => absurd hc.1 (by omega))]; exact h5 i (by omega)
    . rw [zaC hneg, cond_false]
      refine ih _ (by omega) (by omega) h3 (fun i hi => ?_) (fun i hi => h5 i (by omega))
      by_cases e : i = t
      . rw [e, h5 t (Nat.le_refl _)]
        unfold ceV
        rw [if_neg (fun hc => hneg hc.2)]
      . exact h4 i (by omega)
end
theorem zxR {N V L : Nat} (hN : 2000 <= N) {c0 : Int} {rows : List Row} {S : List Pr} {v : List Fr} (hg : GoodCirc c0 (V : Int) rows S) (h1 : 1 <= L) (h6 : L <= 6) (hr : rows.length <= 2 ^ L) (hv : v.length = V) :
    ∃ o0 o1 o2, q145 N c0 (V : Int) rows S (L : Int) v = some ((o0, o1, o2, ()), 0, ()) /\ zjv rows v (2 ^ L) 0 o0 /\ zjv rows v (2 ^ L) 1 o1 /\ zjv rows v (2 ^ L) 2 o2 := by
  have hV := hg.v200
  have hle := ze2 h6
  have hp := zgX L
  have hin : ∀ r ∈ rows, ∀ j, -1 <= rw3 r j /\ rw3 r j < (V : Int) := fun r hr j => hg.vars hr j
  obtain ⟨n, rfl⟩ : ∃ n, N = n + 1 + 1 + 1 + 1 := ⟨N - 4, by omega⟩
  have hrep : (List.replicate (2 ^ L) Fr.zero).length = 2 ^ L := List.length_replicate
  obtain ⟨o0, e0, i0⟩ := zAV (N := n + 1 + 1 + 1 + 1) (c0 := c0) (log := (L : Int)) (S := S) (A := zdb (n + 1 + 1 + 1 + 1) (n + 1 + 1 + 1)) (j41 := 0) hle hr hv hin (by omega) (o1 := []) (o2 := []) rows.length 0 (n + 1 + 1 + 1 + 1) (List.replicate (2 ^ L) Fr.zero) (by omega) (by omega) hrep (fun i hi => absurd hi (by omega)) (fun i _ => zfO _ _)
  obtain ⟨o1, e1, i1⟩ := zAW (N := n + 1 + 1 + 1 + 1) (c0 := c0) (log := (L : Int)) (S := S) (A := zdb (n + 1 + 1 + 1 + 1) (n + 1 + 1)) (j41 := 1) hle hr hv hin (by omega) (o0 := o0) (o2 := []) rows.length 0 (n + 1 + 1 + 1 + 1) (List.replicate (2 ^ L) Fr.zero) (by omega) (by omega) hrep (fun i hi => absurd hi (by omega)) (fun i _ => zfO _ _)
  obtain ⟨o2, e2, i2⟩ := zAX (N := n + 1 + 1 + 1 + 1) (c0 := c0) (log := (L : Int)) (S := S) (A := zdb (n + 1 + 1 + 1 + 1) (n + 1)) (j41 := 2) hle hr hv hin (by omega) (o0 := o0) (o1 := o1) rows.length 0 (n + 1 + 1 + 1 + 1) (List.replicate (2 ^ L) Fr.zero) (by omega) (by omega) hrep (fun i hi => absurd hi (by omega)) (fun i _ => zfO _ _)
  refine ⟨o0, o1, o2, ?_, i0, i1, i2⟩
  unfold q145
  rw [zab (by omega), cond_false, zab (by omega), cond_false, sh1 h6, zab (by omega), cond_false, zaQ (by rw [hv]), Bool.not_true, cond_false]
  rw [zr7 (by omega) c0 (V : Int) rows S (by have := hg.rows; omega) (by have := hg.same; omega), hg.may]
  simp only [bsm]
  rw [zaQ rfl, Bool.not_true, cond_false]
  have st : ∀ (j f : Nat) (o0 o1 o2 : List Fr) (R : Option ((List Fr × List Fr × List Fr × Unit) × Int × Unit)), j < 3 ->
      (j = 0 -> zcA (n + 1 + 1 + 1 + 1) (zdb (n + 1 + 1 + 1 + 1) f) (n + 1 + 1 + 1 + 1) (L : Int) v ((0 : Nat) : Int) ((0 : Nat) : Int) rows (rows.length : Int) ((0 : Nat) : Int) c0 (V : Int) rows S [] [] [] (List.replicate (2 ^ L) Fr.zero) o1 o2 = R) ->
      (j = 1 -> zcA (n + 1 + 1 + 1 + 1) (zdb (n + 1 + 1 + 1 + 1) f) (n + 1 + 1 + 1 + 1) (L : Int) v ((1 : Nat) : Int) ((1 : Nat) : Int) rows (rows.length : Int) ((0 : Nat) : Int) c0 (V : Int) rows S [] [] [] o0 (List.replicate (2 ^ L) Fr.zero) o2 = R) ->
      (j = 2 -> zcA (n + 1 + 1 + 1 + 1) (zdb (n + 1 + 1 + 1 + 1) f) (n + 1 + 1 + 1 + 1) (L : Int) v ((2 : Nat) : Int) ((2 : Nat) : Int) rows (rows.length : Int) ((0 : Nat) : Int) c0 (V : Int) rows S [] [] [] o0 o1 (List.replicate (2 ^ L) Fr.zero) = R) ->
      zdb (n + 1 + 1 + 1 + 1) (f + 1) (L : Int) v (j : Int) c0 (V : Int) rows S [] [] [] o0 o1 o2 = R := fun j f o0 o1 o2 R hj a b c => by
    rw [zhb]
    unfold ziA
    rw [zad (by omega), cond_true, sh1 h6, zaz, zaQ rfl, Int.toNat_natCast, zaG (by omega)]
    simp only [Bool.and_self, mst2]
    obtain rfl | rfl | rfl : j = 0 \/ j = 1 \/ j = 2 := by omega
    . exact a rfl
    . exact b rfl
    . exact c rfl
  refine st 0 (n + 1 + 1 + 1) [] [] [] _ (by omega) (fun _ => e0.trans ?_) (fun h => absurd h (by omega)) (fun h => absurd h (by omega))
  refine st 1 (n + 1 + 1) o0 [] [] _ (by omega) (fun h => absurd h (by omega)) (fun _ => e1.trans ?_) (fun h => absurd h (by omega))
  refine st 2 (n + 1) o0 o1 [] _ (by omega) (fun h => absurd h (by omega)) (fun h => absurd h (by omega)) (fun _ => e2.trans ?_)
  rw [zhb]
  unfold ziA
  rw [zab (by omega), cond_false]
def ownV (pub : List Fr) (i : Nat) : Fr := if i < pub.length then fneg (pub.getD i Fr.zero) else Fr.zero
theorem zsh {N n : Nat} (hN : 2000 <= N) {pub : List Fr} (hn : n <= 64) (hp : pub.length <= n) (hs : ∀ x ∈ pub, Sc x) : ∀ (k t f : Nat) (o : List Fr), t + k = pub.length -> k < f -> o.length = n -> (∀ i, i < t -> o.getD i Fr.zero = ownV pub i) -> (∀ i, t <= i -> o.getD i Fr.zero = Fr.zero) ->
    ∃ o', ziz N f pub (pub.length : Int) (t : Int) o = some (o', 0, ()) /\ o'.length = n /\ ∀ i, i < n -> o'.getD i Fr.zero = ownV pub i
  | 0, t, f + 1, o, h1, h2, h3, h4, h5 => by
    refine ⟨o, ?_, h3, fun i hi => ?_⟩
    . rw [zha]
      unfold ziy
      rw [zab (by omega), cond_false]
    . rcases Nat.lt_or_ge i t with h | h
      . exact h4 i h
      . rw [h5 i h]
        unfold ownV
        rw [if_neg (by omega)]
  | k + 1, t, f + 1, o, h1, h2, h3, h4, h5 => by
    have hsc : Sc (pub.getD t Fr.zero) := by
      rw [List.getD_eq_getElem?_getD, List.getElem?_eq_getElem (by omega : t < pub.length)]
      exact hs _ (List.getElem_mem _)
    rw [zha]
    unfold ziy
    rw [zad (by omega), cond_true, zaK (by omega : (0 : Int) <= (t : Int)), Bool.and_self, mst2, Int.toNat_natCast, zAq (by omega) hsc]
    simp only [bsm]
    rw [zad (by omega : (t : Int) < (o.length : Int)), Bool.and_self, mst2, zax (by omega)]
    refine zsh hN hn hp hs k (t + 1) f _ (by omega) (by omega) (by rw [zaN]; exact h3) (fun i hi => ?_) (fun i hi => ?_)
    . rw [zaD]
      by_cases e : i = t
      . rw [if_pos ⟨e, by omega⟩, e]
        unfold ownV
        rw [if_pos (by omega)]
        rfl
      . rw [if_neg (fun hc => e hc.1)]; exact h4 i (by omega)
    . rw [zaD, if_neg (fun hc => absurd hc.1 (by omega))]; exact h5 i (by omega)
theorem zxS {N L : Nat} (hN : 2000 <= N) {pub : List Fr} (h1 : 1 <= L) (h6 : L <= 6) (hp : pub.length <= 2 ^ L) (hs : ∀ x ∈ pub, Sc x) :
    ∃ o, q146 N (L : Int) pub = some (o, 0, ()) /\ o.length = 2 ^ L /\ ∀ i, i < 2 ^ L -> o.getD i Fr.zero = ownV pub i := by
  have hle := ze2 h6
  obtain ⟨o, e, h⟩ := zsh (N := N) hN hle hp hs pub.length 0 N (List.replicate (2 ^ L) Fr.zero) (by omega) (by omega) List.length_replicate (fun i hi => absurd hi (by omega)) (fun i _ => zfO _ _)
  refine ⟨o, ?_, h⟩
  unfold q146
  rw [zab (by omega), cond_false, zab (by omega), cond_false, sh1 h6, zab (by omega), cond_false, zaz, zaQ rfl, Int.toNat_natCast, zaG (by omega)]
  simp only [Bool.and_self, mst2]
  exact e
theorem znm {N : Nat} (c0 v1 : Int) (v2 : List Row) (v3 : List Pr) : ∀ (d k f : Nat), 1 <= k -> k + d = 6 -> d < f -> ∃ L : Nat, k <= L /\ L <= 6 /\ (v2.length <= 2 ^ L \/ L = 6) /\ zcz N f (k : Int) c0 v1 v2 v3 = some ((L : Int), ())
  | 0, k, f + 1, h1, h2, h3 => by
    refine ⟨k, Nat.le_refl _, by omega, .inr (by omega), ?_⟩
    rw [zcj]
    unfold zcb
    rw [zab (by omega), cond_false]
  | d + 1, k, f + 1, h1, h2, h3 => by
    by_cases hl : 2 ^ k < v2.length
    . obtain ⟨L, a, b, c, e⟩ := znm (N := N) c0 v1 v2 v3 d (k + 1) f (by omega) (by omega) (by omega)
      refine ⟨L, by omega, b, c, ?_⟩
      rw [zcj]
      unfold zcb
      rw [zad (by omega), cond_true, sh1 (by omega), zad (by omega), cond_true, zax (by omega)]
      exact e
    . refine ⟨k, Nat.le_refl _, by omega, .inl (by omega), ?_⟩
      rw [zcj]
      unfold zcb
      rw [zad (by omega), cond_true, sh1 (by omega), zab (by omega), cond_false]
theorem zxT {N : Nat} (hN : 100 <= N) (c0 v1 : Int) {v2 : List Row} (v3 : List Pr) (h : v2.length <= 64) : ∃ L : Nat, 1 <= L /\ L <= 6 /\ v2.length <= 2 ^ L /\ q120 N c0 v1 v2 v3 = some ((L : Int), ()) := by
  obtain ⟨L, a, b, c, e⟩ := znm (N := N) c0 v1 v2 v3 5 1 N (by omega) (by omega) (by omega)
  refine ⟨L, a, b, ?_, e⟩
  rcases c with c | rfl
  . exact c
  . omega
end
section
def selL (rows : List Row) (i : Nat) : List Fr := if i < rows.length then [(rows.getD i zrow).q0, (rows.getD i zrow).q1, (rows.getD i zrow).q2, (rows.getD i zrow).q3, (rows.getD i zrow).q4, (rows.getD i zrow).q5, (rows.getD i zrow).q6, (rows.getD i zrow).q7] else [Fr.zero, Fr.zero, Fr.zero, Fr.zero, Fr.zero, Fr.zero, Fr.zero, Fr.zero]
def rowV (rows : List Row) (v pub : List Fr) (n i : Nat) : Fr := fadd (gval (selL rows i) (ceV rows v i 0) (ceV rows v i 1) (ceV rows v i 2) (ceV rows v ((i + 1) % n) 0)) (ownV pub i)
def zxU (rows : List Row) : Prop := ∀ r ∈ rows, Sc r.q0 /\ Sc r.q1 /\ Sc r.q2 /\ Sc r.q3 /\ Sc r.q4 /\ Sc r.q5 /\ Sc r.q6 /\ Sc r.q7
theorem zcf {x : Fr} (h : bg x = false) : Sc x := by
  unfold bg at h
  unfold Sc
  simpa using h
theorem zAY {rows : List Row} (h : rows.any bigR = false) : zxU rows := fun r hr => by
  have h1 := List.any_eq_false.mp h r hr
  unfold bigR at h1
  simp only [Bool.or_eq_true, not_or, Bool.not_eq_true] at h1
  obtain ⟨⟨⟨⟨⟨⟨⟨a0, a1⟩, a2⟩, a3⟩, a4⟩, a5⟩, a6⟩, a7⟩ := h1
  exact ⟨zcf a0, zcf a1, zcf a2, zcf a3, zcf a4, zcf a5, zcf a6, zcf a7⟩
theorem zuE : ∀ i, Sc ([Fr.zero, Fr.zero, Fr.zero, Fr.zero, Fr.zero, Fr.zero, Fr.zero, Fr.zero].getD i Fr.zero) := by
  intro i
  match i with
  | 0 | 1 | 2 | 3 | 4 | 5 | 6 | 7 => exact zay
  | i + 8 => exact zay
theorem zxV {rows : List Row} (h : zxU rows) (i : Nat) : ∀ j, Sc ((selL rows i).getD j Fr.zero) := by
  intro j
  unfold selL
  split
  . rename_i hi
    obtain ⟨a0, a1, a2, a3, a4, a5, a6, a7⟩ := h _ (ziw hi)
    match j with
    | 0 => exact a0
    | 1 => exact a1
    | 2 => exact a2
    | 3 => exact a3
    | 4 => exact a4
    | 5 => exact a5
    | 6 => exact a6
    | 7 => exact a7
    | j + 8 => exact zay
  . exact zuE j
theorem zuF (rows : List Row) (i : Nat) : (selL rows i).length = 8 := by unfold selL; split <;> rfl
theorem zfa {l : List Fr} (h : ∀ x ∈ l, Sc x) (i : Nat) : Sc (l.getD i Fr.zero) := by
  rcases Nat.lt_or_ge i l.length with h1 | h1
  . rw [List.getD_eq_getElem?_getD, List.getElem?_eq_getElem h1]; exact h _ (List.getElem_mem h1)
  . rw [List.getD_eq_getElem?_getD, List.getElem?_eq_none h1]; exact zay
theorem znn {rows : List Row} {v : List Fr} (h : ∀ x ∈ v, Sc x) (i j : Nat) : Sc (ceV rows v i j) := by
  unfold ceV
  split
  . exact zfa h _
  . exact zay
theorem zxW (pub : List Fr) (i : Nat) : Sc (ownV pub i) := by
  unfold ownV
  split
  . exact zsc _
  . exact zay
section
variable {N n : Nat} (hN : 2000 <= N) {c0 v1 : Int} {rows : List Row} {S : List Pr} {v pub own o0 o1 o2 : List Fr} (hn : n <= 64) (h1 : 1 <= n) (hsel : zxU rows) (hv : ∀ x ∈ v, Sc x)
  (hi0 : zjv rows v n 0 o0) (hi1 : zjv rows v n 1 o1) (hi2 : zjv rows v n 2 o2) (hol : own.length = n) (ho : ∀ i, i < n -> own.getD i Fr.zero = ownV pub i)
include hN hn h1 hsel hv hi0 hi1 hi2 hol ho
theorem zuG {A : Int -> Int -> Int -> (List Row) -> (List Pr) -> (List Fr) -> (List Fr) -> (List Fr) -> (List Fr) -> Option (Int × Int × Unit)} {i : Nat} (hi : i < n) :
    zcB N A (i : Int) c0 v1 rows S own o0 o1 o2 = cond (!eqF (rowV rows v pub n i) Fr.zero) (some ((i : Int), 12, ())) (cond (ltI ((i + 1 : Nat) : Int) (n : Int)) (A ((i + 1 : Nat) : Int) c0 v1 rows S own o0 o1 o2) (some (0, 0, ()))) := by
  have hm : (i + 1) % n < n := Nat.mod_lt _ (by omega)
  have e0 := hi0.2 i hi
  have e1 := hi1.2 i hi
  have e2 := hi2.2 i hi
  have e3 := hi0.2 _ hm
  have e4 := ho i hi
  have hsum : q80 N (gval (selL rows i) (ceV rows v i 0) (ceV rows v i 1) (ceV rows v i 2) (ceV rows v ((i + 1) % n) 0)) (ownV pub i) = some (rowV rows v pub n i, ()) := addF (by omega) (ze1 _ _ _ _ _) (zxW _ _)
  have hval : q106 N (selL rows i) (ceV rows v i 0) (ceV rows v i 1) (ceV rows v i 2) (ceV rows v ((i + 1) % n) 0) = some (gval (selL rows i) (ceV rows v i 0) (ceV rows v i 1) (ceV rows v i 2) (ceV rows v ((i + 1) % n) 0), ()) :=
    zxy (by omega) (zuF _ _) (zxV hsel i) (znn hv _ _) (znn hv _ _) (znn hv _ _) (znn hv _ _)
  have b0 : (leI 0 (i : Int) && ltI (i : Int) (o0.length : Int)) = true := ixk (by rw [hi0.1]; exact hi)
  have b1 : (leI 0 (i : Int) && ltI (i : Int) (o1.length : Int)) = true := ixk (by rw [hi1.1]; exact hi)
  have b2 : (leI 0 (i : Int) && ltI (i : Int) (o2.length : Int)) = true := ixk (by rw [hi2.1]; exact hi)
  have b3 : (leI 0 (i : Int) && ltI (i : Int) (n : Int)) = true := ixk hi
  have b4 : (leI 0 (((i + 1) % n : Nat) : Int) && ltI (((i + 1) % n : Nat) : Int) (o0.length : Int)) = true := ixk (by rw [hi0.1]; exact hm)
  unfold zcB
  rw [zax (by omega), hol, za2 (by omega : ¬ (n : Int) = 0), zne, b0, b1, b2, b3, b4]
  simp only [Bool.not_false, mst2, zaf, Int.toNat_natCast, e0, e1, e2, e3, e4]
  by_cases hr : i < rows.length
  . rw [zad (by omega), cond_true, zaK (by omega), Bool.and_self, mst2]
    have hs : selL rows i = [(rows.getD i zrow).q0, (rows.getD i zrow).q1, (rows.getD i zrow).q2, (rows.getD i zrow).q3, (rows.getD i zrow).q4, (rows.getD i zrow).q5, (rows.getD i zrow).q6, (rows.getD i zrow).q7] := by unfold selL; rw [if_pos hr]
    rw [← hs, hval]
    simp only [bsm]
    rw [hsum]
    simp only [bsm]
    rfl
  . rw [zab (by omega), cond_false]
    have hs : selL rows i = [Fr.zero, Fr.zero, Fr.zero, Fr.zero, Fr.zero, Fr.zero, Fr.zero, Fr.zero] := by unfold selL; rw [if_neg hr]
    rw [← hs, hval]
    simp only [bsm]
    rw [hsum]
    simp only [bsm]
    rfl
theorem zno : ∀ (k i f : Nat), i + k + 1 = n -> k < f -> ∃ r, zcC N f (i : Int) c0 v1 rows S own o0 o1 o2 = some r /\
    ((∃ j, i <= j /\ j < n /\ rowV rows v pub n j ≠ Fr.zero /\ (∀ m, i <= m -> m < j -> rowV rows v pub n m = Fr.zero) /\ r = ((j : Int), 12, ())) \/ ((∀ m, i <= m -> m < n -> rowV rows v pub n m = Fr.zero) /\ r = (0, 0, ())))
  | k, i, f + 1, hk, hf => by
    rw [zhu, zuG hN hn h1 hsel hv hi0 hi1 hi2 hol ho (by omega)]
    by_cases hz : rowV rows v pub n i = Fr.zero
    . rw [zt2 hz, Bool.not_true, cond_false]
      cases k with
      | zero =>
        rw [zab (by omega), cond_false]
        refine ⟨_, rfl, .inr ⟨fun m h1 h2 => ?_, rfl⟩⟩
        rw [show m = i by omega]; exact hz
      | succ k =>
        rw [zad (by omega), cond_true]
        obtain ⟨r, e, h⟩ := zno k (i + 1) f (by omega) (by omega)
        refine ⟨r, e, ?_⟩
        rcases h with ⟨j, a, b, c, d, e⟩ | ⟨a, b⟩
        . refine .inl ⟨j, by omega, b, c, fun m h1 h2 => ?_, e⟩
          by_cases hm : m = i
          . rw [hm]; exact hz
          . exact d m (by omega) h2
        . refine .inr ⟨fun m h1 h2 => ?_, b⟩
          by_cases hm : m = i
          . rw [hm]; exact hz
          . exact a m (by omega) h2
    . rw [zrJ hz, Bool.not_false, cond_true]
      exact ⟨_, rfl, .inl ⟨i, Nat.le_refl _, by omega, hz, fun m h1 h2 => absurd h1 (by omega), rfl⟩⟩
end
theorem znp {N V : Nat} (hV : V <= 200) {c0 : Int} {rows : List Row} {S : List Pr} {v pub : List Fr} {cl : List Int} (hv : v.length = V) (hcl : cl.length = V) (hin : ∀ i, i < V -> ∃ c : Nat, c < V /\ cl.getD i 0 = (c : Int)) : ∀ (k t f : Nat), t + k = V -> k < f ->
    (∃ i, t <= i /\ i < V /\ v.getD i Fr.zero ≠ v.getD (cl.getD i 0).toNat Fr.zero /\ zdc N f pub v (V : Int) (t : Int) c0 (V : Int) rows S cl = some ((i : Int), 13, ())) \/
    ((∀ i, t <= i -> i < V -> v.getD i Fr.zero = v.getD (cl.getD i 0).toNat Fr.zero) /\ zdc N f pub v (V : Int) (t : Int) c0 (V : Int) rows S cl = zdc N 1 pub v (V : Int) (V : Int) c0 (V : Int) rows S cl)
  | 0, t, f + 1, h1, h2 => by
    right
    refine ⟨fun i a b => absurd a (by omega), ?_⟩
    rw [show t = V by omega, zc4, zc4]
    unfold zhc
    rw [zab (by omega), cond_false, cond_false]
  | k + 1, t, f + 1, h1, h2 => by
    obtain ⟨c, hc, ec⟩ := hin t (by omega)
    have step : zdc N (f + 1) pub v (V : Int) (t : Int) c0 (V : Int) rows S cl = cond (!decide (v.getD t Fr.zero = v.getD (cl.getD t 0).toNat Fr.zero)) (some ((t : Int), 13, ())) (zdc N f pub v (V : Int) ((t + 1 : Nat) : Int) c0 (V : Int) rows S cl) := by
      rw [zc4]
      unfold zhc
      rw [zad (by omega), cond_true, hcl, hv, Int.toNat_natCast, ec, ixk (by omega : t < V), ixk hc, zrD, zax (by omega), Int.toNat_natCast]
      simp only [mst2]
    by_cases he : v.getD t Fr.zero = v.getD (cl.getD t 0).toNat Fr.zero
    . rw [step, decide_eq_true he, Bool.not_true, cond_false]
      rcases znp (N := N) (c0 := c0) (rows := rows) (S := S) (pub := pub) hV hv hcl hin k (t + 1) f (by omega) (by omega) with ⟨i, a, b, c, d⟩ | ⟨a, b⟩
      . exact .inl ⟨i, by omega, b, c, d⟩
      . refine .inr ⟨fun i h1 h2 => ?_, b⟩
        by_cases e : i = t
        . rw [e]; exact he
        . exact a i (by omega) h2
    . left
      exact ⟨t, Nat.le_refl _, by omega, he, by rw [step, decide_eq_false he, Bool.not_false, cond_true]⟩
theorem zuH {N V : Nat} (hN : 100000 <= N) {c0 : Int} {rows : List Row} {S : List Pr} {v pub : List Fr} (hg : GoodCirc c0 (V : Int) rows S) (hv : v.length = V) (hvs : ∀ x ∈ v, Sc x) (hp : (pub.length : Int) = c0) (hps : ∀ x ∈ pub, Sc x) :
    ∃ r L, q143 N c0 (V : Int) rows S pub v = some r /\ 1 <= L /\ L <= 6 /\ rows.length <= 2 ^ L /\
      ((∃ i : Nat, i < V /\ r = ((i : Int), 13, ()) /\ ¬ ∀ p ∈ S, v.getD p.x.toNat Fr.zero = v.getD p.y.toNat Fr.zero) \/
       ((∀ p ∈ S, v.getD p.x.toNat Fr.zero = v.getD p.y.toNat Fr.zero) /\
         ((∃ j, j < 2 ^ L /\ rowV rows v pub (2 ^ L) j ≠ Fr.zero /\ (∀ m, m < j -> rowV rows v pub (2 ^ L) m = Fr.zero) /\ r = ((j : Int), 12, ())) \/ ((∀ m, m < 2 ^ L -> rowV rows v pub (2 ^ L) m = Fr.zero) /\ r = (0, 0, ()))))) := by
  have hV := hg.v200
  have hS := hg.pairs (V := V) rfl
  have hm : q119 N c0 (V : Int) rows S = some (0, ()) := by
    rw [zr7 (by omega) c0 (V : Int) rows S (by have := hg.rows; omega) (by have := hg.same; omega), hg.may]
  obtain ⟨cl, e4, _, gc, fc⟩ := zoi (c0 := c0) (v2 := rows) hS (by have := hg.same; omega) (by omega) hN hm
  have hin : ∀ i, i < V -> ∃ c : Nat, c < V /\ cl.getD i 0 = (c : Int) := fun i hi => ⟨(cl.getD i 0).toNat, by have := gc.nn i hi; have := gc.le i hi; omega, by have := gc.nn i hi; omega⟩
  obtain ⟨L, h1, h6, hr, eL⟩ := zxT (N := N) (by omega) c0 (V : Int) S hg.rows
  have hle := ze2 h6
  have hp2 := zgX L
  obtain ⟨o0, o1, o2, e5, i0, i1, i2⟩ := zxR (N := N) (by omega) hg h1 h6 hr hv
  obtain ⟨own, e6, l6, o6⟩ := zxS (N := N) (by omega) h1 h6 (by have := hg.pub; omega) hps
  obtain ⟨r, e7, h7⟩ := zno (N := N) (n := 2 ^ L) (c0 := c0) (v1 := (V : Int)) (S := S) (by omega) hle hp2 (zAY hg.big) hvs i0 i1 i2 l6 o6 (2 ^ L - 1) 0 N (by omega) (by omega)
  have hst : q143 N c0 (V : Int) rows S pub v = zdc N N pub v (V : Int) 0 c0 (V : Int) rows S cl := by
    unfold q143
    rw [hm]
    simp only [bsm]
    rw [zaQ rfl, Bool.not_true, cond_false, zaQ hp, Bool.not_true, cond_false, zaQ (by rw [hv]), Bool.not_true, cond_false, e4]
    simp only [bsm]
    rw [gc.len]
  have hlast : zdc N 1 pub v (V : Int) (V : Int) c0 (V : Int) rows S cl = some r := by
    rw [show (1 : Nat) = 0 + 1 from rfl, zc4]
    unfold zhc
    rw [zab (by omega), cond_false, eL]
    simp only [bsm]
    rw [e5]
    simp only [bsm]
    rw [e6]
    simp only [bsm]
    exact e7
  rcases znp (N := N) (c0 := c0) (rows := rows) (S := S) (pub := pub) (by omega) hv gc.len hin V 0 N (by omega) (by omega) with ⟨i, _, b, c, d⟩ | ⟨a, b⟩
  . refine ⟨_, L, hst.trans d, h1, h6, hr, .inl ⟨i, b, rfl, fun hall => c ?_⟩⟩
    have al := gc.al i b
    have : ∀ a b : Int, Alike2 S a b -> v.getD a.toNat Fr.zero = v.getD b.toNat Fr.zero := by
      intro a b h
      induction h with
      | refl => rfl
      | pair hp => exact hall _ hp
      | symm _ ih => exact ih.symm
      | trans _ _ h1 h2 => exact h1.trans h2
    exact this _ _ al
  . refine ⟨r, L, (hst.trans b).trans hlast, h1, h6, hr, .inr ⟨fun p hp => ?_, ?_⟩⟩
    . obtain ⟨⟨x0, x1⟩, y0, y1⟩ := hS p hp
      rw [a p.x.toNat (Nat.zero_le _) (by omega), a p.y.toNat (Nat.zero_le _) (by omega), fc p hp]
    . rcases h7 with ⟨j, _, b, c, d, e⟩ | ⟨c, d⟩
      . exact .inl ⟨j, b, c, fun m hm => d m (Nat.zero_le _) hm, e⟩
      . exact .inr ⟨fun m hm => c m (Nat.zero_le _) hm, d⟩
end
section
theorem zsi : fadd Fr.zero Fr.zero = Fr.zero := by decide +kernel
theorem zsj (w : Fr) : fmul Fr.zero w = Fr.zero := by
  unfold fmul
  rw [fvz, Nat.zero_mul]
  decide +kernel
theorem zsk (q t : List Fr) (h : ∀ i, q.getD i Fr.zero = Fr.zero) : ∀ k i, vsum q t k i Fr.zero = Fr.zero
  | 0, _ => rfl
  | k + 1, i => by
    unfold vsum
    rw [h i, zsj, zsi]
    exact zsk q t h k (i + 1)
theorem zkE : ∀ i, ([Fr.zero, Fr.zero, Fr.zero, Fr.zero, Fr.zero, Fr.zero, Fr.zero, Fr.zero] : List Fr).getD i Fr.zero = Fr.zero
  | 0 | 1 | 2 | 3 | 4 | 5 | 6 | 7 => rfl
  | _ + 8 => rfl
theorem zuI {rows : List Row} {v pub : List Fr} {n i : Nat} (h1 : rows.length <= i) (h2 : pub.length <= i) : rowV rows v pub n i = Fr.zero := by
  unfold rowV
  have e1 : selL rows i = [Fr.zero, Fr.zero, Fr.zero, Fr.zero, Fr.zero, Fr.zero, Fr.zero, Fr.zero] := by unfold selL; rw [if_neg (by omega)]
  have e2 : ownV pub i = Fr.zero := by unfold ownV; rw [if_neg (by omega)]
  rw [e1, e2]
  unfold gval
  rw [zsk _ _ zkE, zsi]
theorem zsl {q : List Fr} (h : q.getD 7 Fr.zero = Fr.zero) (a b c nx ny : Fr) : gval q a b c nx = gval q a b c ny := by
  unfold gval
  have key : ∀ (t t' : List Fr), (∀ j, j < 7 -> t.getD j Fr.zero = t'.getD j Fr.zero) -> ∀ (k i : Nat) (s : Fr), i + k = 8 -> vsum q t k i s = vsum q t' k i s := by
    intro t t' ht k
    induction k with
    | zero => intro i s _; rfl
    | succ k ih =>
      intro i s hi
      unfold vsum
      have e : fmul (q.getD i Fr.zero) (t.getD i Fr.zero) = fmul (q.getD i Fr.zero) (t'.getD i Fr.zero) := by
        by_cases h7 : i = 7
        . rw [h7, h, zsj, zsj]
        . rw [ht i (by omega)]
      rw [e]
      exact ih (i + 1) _ (by omega)
  refine key _ _ (fun j hj => ?_) 8 0 _ rfl
  match j, hj with
  | 0, _ | 1, _ | 2, _ | 3, _ | 4, _ | 5, _ | 6, _ => rfl
theorem ziB {P : Int} : ∀ (k : Nat) {l : List Row} {i : Nat}, zdC P i l = false -> zdC P i (l.take k) = false
  | 0, _, _, _ => rfl
  | k + 1, [], _, _ => rfl
  | k + 1, r :: l, i, h => by
    unfold zdC at h
    simp only [Bool.or_eq_false_iff] at h
    rw [List.take_succ_cons]
    unfold zdC
    rw [ziB k h.2]
    simp only [Bool.or_eq_false_iff, and_true]
    exact h.1
theorem GoodCirc.take {c0 v1 : Int} {rows : List Row} {S : List Pr} (h : GoodCirc c0 v1 rows S) {i : Nat} (hi : c0 <= (i : Int)) : GoodCirc c0 v1 (rows.take i) S := by
  refine ⟨h.p0, h.p8, h.v0, h.v200, ?_, h.same, ?_, ?_, ?_, h.unkp, ziB i h.form⟩
  . have := h.rows; rw [List.length_take]; omega
  . have := h.pub; rw [List.length_take]; omega
  . exact List.any_eq_false.2 fun r hr => List.any_eq_false.1 h.big r (List.mem_of_mem_take hr)
  . exact List.any_eq_false.2 fun r hr => List.any_eq_false.1 h.unk r (List.mem_of_mem_take hr)
def PvI (s : PlS) : Prop := ∀ x ∈ s.pv, Sc x
theorem Gate.pvI {g : Nat} {s s' : PlS} (hg : Gate s s') (hi : PlI g s) (h : PvI s) : PvI s' := by
  cases hg with
  | pub n x hx hp =>
    intro y hy
    simp only [List.mem_append, List.mem_singleton] at hy
    rcases hy with hy | rfl
    . exact h y hy
    . exact hi.val x
  | _ => exact h
theorem zsm {l : List Fr} (h : ∀ x ∈ l, Sc x) {a : Fr} (ha : Sc a) (i : Nat) : ∀ x ∈ setL l i a, Sc x := by
  induction l generalizing i with
  | nil => intro x hx; cases hx
  | cons y l ih =>
    cases i with
    | zero =>
      intro x hx
      simp only [setL, List.mem_cons] at hx
      rcases hx with rfl | hx
      . exact ha
      . exact h x (List.mem_cons_of_mem _ hx)
    | succ i =>
      intro x hx
      simp only [setL, List.mem_cons] at hx
      rcases hx with rfl | hx
      . exact h _ List.mem_cons_self
      . exact ih (fun z hz => h z (List.mem_cons_of_mem _ hz)) i x hx
theorem zAZ : q142 100000 = some (true, ()) := by kernel_rfl
end
end Go.Proofs.Ytgimohchocjgcaa.V
