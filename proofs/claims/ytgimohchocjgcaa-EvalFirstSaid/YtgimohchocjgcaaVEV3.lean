import Derived.Test.YtgimohchocjgcaaVUM
import Derived.Test.YtgimohchocjgcaaVWC5
import Derived.KernelRfl
import Derived.Test.YtgimohchocjgcaaVWA2
set_option linter.unusedVariables false
set_option linter.unusedSimpArgs false
namespace Go.Proofs.Ytgimohchocjgcaa.V
section
def zb8 (N : Nat) (A_1000 : Int -> Int -> Int -> (List Row) -> (List Pr) -> Option (Int × Unit)) (log3 ob0_0 ob0_1 : Int) (ob0_2 : List Row) (ob0_3 : List Pr) : Option (Int × Unit) :=
  cond ((ltI log3 (6 : Int))) (cond ((ltI ((shlI (1 : Int) (UInt64.toNat ((u64I log3))))) (↑ob0_2.length : Int))) (A_1000 ((wr (log3 + (1 : Int)))) ob0_0 ob0_1 ob0_2 ob0_3) (some ((log3, ())))) (some ((log3, ())))
theorem zlS : zgs = zb8 := by
  (repeat (apply funext; intro _))
  simp only [zgs, zb8, hide_eq, zag, zai, zaj, zah, zav, zax, zaX, zaA]
def zcv (N n : Nat) (log3 ob0_0 ob0_1 : Int) (ob0_2 : List Row) (ob0_3 : List Pr) : Option (Int × Unit) :=
  zam (fun A x => zb8 N (fun log3 ob0_0 ob0_1 ob0_2 ob0_3 => A (((), (log3, ())), ((ob0_0, (ob0_1, (ob0_2, (ob0_3, ())))), ()))) x.1.2.1 x.2.1.1 x.2.1.2.1 x.2.1.2.2.1 x.2.1.2.2.2.1) n (((), (log3, ())), ((ob0_0, (ob0_1, (ob0_2, (ob0_3, ())))), ()))
theorem zlT : zgt = zcv := by
  (repeat (apply funext; intro _))
  simp only [zgt, zcv, zlS, zag, zai, zaj, zah, zav, zax, zaX, zaA]
theorem zcf (N n : Nat) (log3 ob0_0 ob0_1 : Int) (ob0_2 : List Row) (ob0_3 : List Pr) : zcv N (n + 1) log3 ob0_0 ob0_1 ob0_2 ob0_3 = zb8 N (zcv N n) log3 ob0_0 ob0_1 ob0_2 ob0_3 := rfl
def q120 (N : Nat) (c0 v1 : Int) (v2 : List Row) (v3 : List Pr) : Option (Int × Unit) :=
  zcv N N (1 : Int) c0 v1 v2 v3
theorem zzM : p120 = q120 := by
  (repeat (apply funext; intro _))
  simp only [p120, q120, zlT, zag, zai, zaj, zah, zav, zax, zaX, zaA]
def zig (N : Nat) (A_5 : (List Fr) -> Int -> Int -> (List Fr) -> Option (List Fr × Int × Unit)) (t27 : List Fr) (t28 t29 : Int) (out6o : List Fr) : Option (List Fr × Int × Unit) :=
  cond ((ltI t29 t28)) (must (leI (0 : Int) t29 && ltI t29 (↑t27.length : Int)) (Option.bind (q84 N ((List.getD t27 t29.toNat (Fr.zero)))) fun rr0 => must (leI (0 : Int) t29 && ltI t29 (↑out6o.length : Int)) (A_5 t27 t28 ((wr (t29 + (1 : Int)))) (setL out6o t29.toNat (rr0.1))))) (some ((out6o, (0 : Int), ())))
theorem ztK : zqp = zig := by
  (repeat (apply funext; intro _))
  simp only [zqp, zig, hide_eq, zBq, zag, zai, zaj, zah, zav, zax, zaX, zaA]
def zih (N n : Nat) (t27 : List Fr) (t28 t29 : Int) (out6o : List Fr) : Option (List Fr × Int × Unit) :=
  zam (fun A x => zig N (fun t27 t28 t29 out6o => A (((), (t27, (t28, (t29, ())))), (out6o, ()))) x.1.2.1 x.1.2.2.1 x.1.2.2.2.1 x.2.1) n (((), (t27, (t28, (t29, ())))), (out6o, ()))
theorem ztL : zqq = zih := by
  (repeat (apply funext; intro _))
  simp only [zqq, zih, ztK, zag, zai, zaj, zah, zav, zax, zaX, zaA]
theorem zgY (N n : Nat) (t27 : List Fr) (t28 t29 : Int) (out6o : List Fr) : zih N (n + 1) t27 t28 t29 out6o = zig N (zih N n) t27 t28 t29 out6o := rfl
def q146 (N : Nat) (log0 : Int) (public1 : List Fr) : Option (List Fr × Int × Unit) :=
  cond ((ltI log0 (1 : Int))) (some (([], (1 : Int), ()))) (cond ((ltI (6 : Int) log0)) (some (([], (1 : Int), ()))) (cond ((ltI ((shlI (1 : Int) (UInt64.toNat ((u64I log0))))) (↑public1.length : Int))) (some (([], (1 : Int), ()))) (must (leI (0 : Int) ((shlI (1 : Int) (UInt64.toNat ((u64I log0))))) && (eqI ((shlI (1 : Int) (UInt64.toNat ((u64I log0))))) ((shlI (1 : Int) (UInt64.toNat ((u64I log0))))) && leN (Int.toNat ((shlI (1 : Int) (UInt64.toNat ((u64I log0))))) * (32 : Nat)) (140737488355328 : Nat))) (zih N N public1 ((↑public1.length : Int)) (0 : Int) (List.replicate (Int.toNat ((shlI (1 : Int) (UInt64.toNat ((u64I log0)))))) (Fr.zero))))))
theorem zzN : p146 = q146 := by
  (repeat (apply funext; intro _))
  simp only [p146, q146, hide_eq, ztL, zag, zai, zaj, zah, zav, zax, zaX, zaA]
def zdH (N : Nat) (A_5 : Int -> (List Fr) -> Int -> Int -> Int -> (List Row) -> (List Pr) -> (List Fr) -> (List Fr) -> (List Fr) -> (List Fr) -> (List Fr) -> (List Fr) -> Option ((List Fr × List Fr × List Fr × Unit) × Int × Unit)) (A_9 : Int -> (List Fr) -> Int -> Int -> (List Row) -> Int -> Int -> Int -> Int -> (List Row) -> (List Pr) -> (List Fr) -> (List Fr) -> (List Fr) -> (List Fr) -> (List Fr) -> (List Fr) -> Option ((List Fr × List Fr × List Fr × Unit) × Int × Unit)) (log1 : Int) (vals2 : List Fr) (j9 t41 : Int) (t51 : List Row) (t52 t53 ob0_0 ob0_1 : Int) (ob0_2 : List Row) (ob0_3 : List Pr) (ob3 ob4 ob5 ob6 ob7 ob8 : List Fr) : Option ((List Fr × List Fr × List Fr × Unit) × Int × Unit) :=
  cond ((ltI t53 t52)) (must (leI (0 : Int) t53 && ltI t53 (↑t51.length : Int)) (cond (eqI j9 (↑(0 : Nat) : Int)) (must (eqI j9 (↑(0 : Nat) : Int)) (cond ((leI (0 : Int) (Row.w0 (List.getD t51 t53.toNat zrow)))) (must (leI (0 : Int) (Row.w0 (List.getD t51 t53.toNat zrow)) && ltI (Row.w0 (List.getD t51 t53.toNat zrow)) (↑vals2.length : Int)) (must (leI (0 : Int) t53 && ltI t53 (↑ob6.length : Int)) (A_9 log1 vals2 ((↑(0 : Nat) : Int)) t41 t51 t52 ((wr (t53 + (1 : Int)))) ob0_0 ob0_1 ob0_2 ob0_3 ob3 ob4 ob5 (setL ob6 t53.toNat (Fr.mk (Fr.a0 (List.getD vals2 (Int.toNat (Row.w0 (List.getD t51 t53.toNat zrow))) (Fr.zero))) (Fr.a1 (List.getD vals2 (Int.toNat (Row.w0 (List.getD t51 t53.toNat zrow))) (Fr.zero))) (Fr.a2 (List.getD vals2 (Int.toNat (Row.w0 (List.getD t51 t53.toNat zrow))) (Fr.zero))) (Fr.a3 (List.getD vals2 (Int.toNat (Row.w0 (List.getD t51 t53.toNat zrow))) (Fr.zero))))) ob7 ob8))) (A_9 log1 vals2 ((↑(0 : Nat) : Int)) t41 t51 t52 ((wr (t53 + (1 : Int)))) ob0_0 ob0_1 ob0_2 ob0_3 ob3 ob4 ob5 ob6 ob7 ob8))) (cond (eqI j9 (↑((0 : Nat) + (1 : Nat)) : Int)) (must (eqI j9 (↑((0 : Nat) + (1 : Nat)) : Int)) (cond ((leI (0 : Int) (Row.w1 (List.getD t51 t53.toNat zrow)))) (must (leI (0 : Int) (Row.w1 (List.getD t51 t53.toNat zrow)) && ltI (Row.w1 (List.getD t51 t53.toNat zrow)) (↑vals2.length : Int)) (must (leI (0 : Int) t53 && ltI t53 (↑ob7.length : Int)) (A_9 log1 vals2 ((↑((0 : Nat) + (1 : Nat)) : Int)) t41 t51 t52 ((wr (t53 + (1 : Int)))) ob0_0 ob0_1 ob0_2 ob0_3 ob3 ob4 ob5 ob6 (setL ob7 t53.toNat (Fr.mk (Fr.a0 (List.getD vals2 (Int.toNat (Row.w1 (List.getD t51 t53.toNat zrow))) (Fr.zero))) (Fr.a1 (List.getD vals2 (Int.toNat (Row.w1 (List.getD t51 t53.toNat zrow))) (Fr.zero))) (Fr.a2 (List.getD vals2 (Int.toNat (Row.w1 (List.getD t51 t53.toNat zrow))) (Fr.zero))) (Fr.a3 (List.getD vals2 (Int.toNat (Row.w1 (List.getD t51 t53.toNat zrow))) (Fr.zero))))) ob8))) (A_9 log1 vals2 ((↑((0 : Nat) + (1 : Nat)) : Int)) t41 t51 t52 ((wr (t53 + (1 : Int)))) ob0_0 ob0_1 ob0_2 ob0_3 ob3 ob4 ob5 ob6 ob7 ob8))) (must (eqI j9 (↑((0 : Nat) + (1 : Nat) + (1 : Nat)) : Int)) (must (eqI j9 (↑((0 : Nat) + (1 : Nat) + (1 : Nat)) : Int)) (cond ((leI (0 : Int) (Row.w2 (List.getD t51 t53.toNat zrow)))) (must (leI (0 : Int) (Row.w2 (List.getD t51 t53.toNat zrow)) && ltI (Row.w2 (List.getD t51 t53.toNat zrow)) (↑vals2.length : Int)) (must (leI (0 : Int) t53 && ltI t53 (↑ob8.length : Int)) (A_9 log1 vals2 ((↑((0 : Nat) + (1 : Nat) + (1 : Nat)) : Int)) t41 t51 t52 ((wr (t53 + (1 : Int)))) ob0_0 ob0_1 ob0_2 ob0_3 ob3 ob4 ob5 ob6 ob7 (setL ob8 t53.toNat (Fr.mk (Fr.a0 (List.getD vals2 (Int.toNat (Row.w2 (List.getD t51 t53.toNat zrow))) (Fr.zero))) (Fr.a1 (List.getD vals2 (Int.toNat (Row.w2 (List.getD t51 t53.toNat zrow))) (Fr.zero))) (Fr.a2 (List.getD vals2 (Int.toNat (Row.w2 (List.getD t51 t53.toNat zrow))) (Fr.zero))) (Fr.a3 (List.getD vals2 (Int.toNat (Row.w2 (List.getD t51 t53.toNat zrow))) (Fr.zero)))))))) (A_9 log1 vals2 ((↑((0 : Nat) + (1 : Nat) + (1 : Nat)) : Int)) t41 t51 t52 ((wr (t53 + (1 : Int)))) ob0_0 ob0_1 ob0_2 ob0_3 ob3 ob4 ob5 ob6 ob7 ob8))))))) (A_5 log1 vals2 ((wr (t41 + (1 : Int)))) ob0_0 ob0_1 ob0_2 ob0_3 ob3 ob4 ob5 ob6 ob7 ob8)
theorem ztM : zqs = zdH := by
  (repeat (apply funext; intro _))
  simp only [zqs, zdH, hide_eq, zag, zai, zaj, zah, zav, zax, zaX, zaA]
def zcw (N : Nat) (A_5 : Int -> (List Fr) -> Int -> Int -> Int -> (List Row) -> (List Pr) -> (List Fr) -> (List Fr) -> (List Fr) -> (List Fr) -> (List Fr) -> (List Fr) -> Option ((List Fr × List Fr × List Fr × Unit) × Int × Unit)) (n : Nat) (log1 : Int) (vals2 : List Fr) (j9 t41 : Int) (t51 : List Row) (t52 t53 ob0_0 ob0_1 : Int) (ob0_2 : List Row) (ob0_3 : List Pr) (ob3 ob4 ob5 ob6 ob7 ob8 : List Fr) : Option ((List Fr × List Fr × List Fr × Unit) × Int × Unit) :=
  zam (fun A x => zdH N A_5 (fun log1 vals2 j9 t41 t51 t52 t53 ob0_0 ob0_1 ob0_2 ob0_3 ob3 ob4 ob5 ob6 ob7 ob8 => A ((log1, (vals2, ((), ((), ((), (j9, (t41, (t51, (t52, (t53, ())))))))))), ((ob0_0, (ob0_1, (ob0_2, (ob0_3, ())))), (((), ((), ((), ()))), (((), ((), ((), ()))), (ob3, (ob4, (ob5, (ob6, (ob7, (ob8, ()))))))))))) x.1.1 x.1.2.1 x.1.2.2.2.2.2.1 x.1.2.2.2.2.2.2.1 x.1.2.2.2.2.2.2.2.1 x.1.2.2.2.2.2.2.2.2.1 x.1.2.2.2.2.2.2.2.2.2.1 x.2.1.1 x.2.1.2.1 x.2.1.2.2.1 x.2.1.2.2.2.1 x.2.2.2.2.1 x.2.2.2.2.2.1 x.2.2.2.2.2.2.1 x.2.2.2.2.2.2.2.1 x.2.2.2.2.2.2.2.2.1 x.2.2.2.2.2.2.2.2.2.1) n ((log1, (vals2, ((), ((), ((), (j9, (t41, (t51, (t52, (t53, ())))))))))), ((ob0_0, (ob0_1, (ob0_2, (ob0_3, ())))), (((), ((), ((), ()))), (((), ((), ((), ()))), (ob3, (ob4, (ob5, (ob6, (ob7, (ob8, ()))))))))))
theorem ztN : zjU = zcw := by
  (repeat (apply funext; intro _))
  simp only [zjU, zcw, ztM, zag, zai, zaj, zah, zav, zax, zaX, zaA]
theorem zbJ (N : Nat) (A_5 : Int -> (List Fr) -> Int -> Int -> Int -> (List Row) -> (List Pr) -> (List Fr) -> (List Fr) -> (List Fr) -> (List Fr) -> (List Fr) -> (List Fr) -> Option ((List Fr × List Fr × List Fr × Unit) × Int × Unit)) (n : Nat) (log1 : Int) (vals2 : List Fr) (j9 t41 : Int) (t51 : List Row) (t52 t53 ob0_0 ob0_1 : Int) (ob0_2 : List Row) (ob0_3 : List Pr) (ob3 ob4 ob5 ob6 ob7 ob8 : List Fr) : zcw N A_5 (n + 1) log1 vals2 j9 t41 t51 t52 t53 ob0_0 ob0_1 ob0_2 ob0_3 ob3 ob4 ob5 ob6 ob7 ob8 = zdH N A_5 (zcw N A_5 n) log1 vals2 j9 t41 t51 t52 t53 ob0_0 ob0_1 ob0_2 ob0_3 ob3 ob4 ob5 ob6 ob7 ob8 := rfl
def zii (N : Nat) (A_5 : Int -> (List Fr) -> Int -> Int -> Int -> (List Row) -> (List Pr) -> (List Fr) -> (List Fr) -> (List Fr) -> (List Fr) -> (List Fr) -> (List Fr) -> Option ((List Fr × List Fr × List Fr × Unit) × Int × Unit)) (log1 : Int) (vals2 : List Fr) (t41 ob0_0 ob0_1 : Int) (ob0_2 : List Row) (ob0_3 : List Pr) (ob3 ob4 ob5 ob6 ob7 ob8 : List Fr) : Option ((List Fr × List Fr × List Fr × Unit) × Int × Unit) :=
  cond ((ltI t41 (3 : Int))) (must (leI (0 : Int) ((shlI (1 : Int) (UInt64.toNat ((u64I log1))))) && (eqI ((shlI (1 : Int) (UInt64.toNat ((u64I log1))))) ((shlI (1 : Int) (UInt64.toNat ((u64I log1))))) && leN (Int.toNat ((shlI (1 : Int) (UInt64.toNat ((u64I log1))))) * (32 : Nat)) (140737488355328 : Nat))) (cond (eqI t41 (↑(0 : Nat) : Int)) (must (eqI t41 (↑(0 : Nat) : Int)) (zcw N A_5 N log1 vals2 ((↑(0 : Nat) : Int)) t41 ob0_2 ((↑ob0_2.length : Int)) (0 : Int) ob0_0 ob0_1 ob0_2 ob0_3 ob3 ob4 ob5 (List.replicate (Int.toNat ((shlI (1 : Int) (UInt64.toNat ((u64I log1)))))) (Fr.zero)) ob7 ob8)) (cond (eqI t41 (↑((0 : Nat) + (1 : Nat)) : Int)) (must (eqI t41 (↑((0 : Nat) + (1 : Nat)) : Int)) (zcw N A_5 N log1 vals2 ((↑((0 : Nat) + (1 : Nat)) : Int)) t41 ob0_2 ((↑ob0_2.length : Int)) (0 : Int) ob0_0 ob0_1 ob0_2 ob0_3 ob3 ob4 ob5 ob6 (List.replicate (Int.toNat ((shlI (1 : Int) (UInt64.toNat ((u64I log1)))))) (Fr.zero)) ob8)) (must (eqI t41 (↑((0 : Nat) + (1 : Nat) + (1 : Nat)) : Int)) (must (eqI t41 (↑((0 : Nat) + (1 : Nat) + (1 : Nat)) : Int)) (zcw N A_5 N log1 vals2 ((↑((0 : Nat) + (1 : Nat) + (1 : Nat)) : Int)) t41 ob0_2 ((↑ob0_2.length : Int)) (0 : Int) ob0_0 ob0_1 ob0_2 ob0_3 ob3 ob4 ob5 ob6 ob7 (List.replicate (Int.toNat ((shlI (1 : Int) (UInt64.toNat ((u64I log1)))))) (Fr.zero)))))))) (some (((ob6, ob7, ob8, ()), (0 : Int), ())))
theorem ztO : zqt = zii := by
  (repeat (apply funext; intro _))
  simp only [zqt, zii, hide_eq, ztN, zag, zai, zaj, zah, zav, zax, zaX, zaA]
def zc4 (N n : Nat) (log1 : Int) (vals2 : List Fr) (t41 ob0_0 ob0_1 : Int) (ob0_2 : List Row) (ob0_3 : List Pr) (ob3 ob4 ob5 ob6 ob7 ob8 : List Fr) : Option ((List Fr × List Fr × List Fr × Unit) × Int × Unit) :=
  zam (fun A x => zii N (fun log1 vals2 t41 ob0_0 ob0_1 ob0_2 ob0_3 ob3 ob4 ob5 ob6 ob7 ob8 => A ((log1, (vals2, ((), ((), ((), (t41, ())))))), ((ob0_0, (ob0_1, (ob0_2, (ob0_3, ())))), (((), ((), ((), ()))), (((), ((), ((), ()))), (ob3, (ob4, (ob5, (ob6, (ob7, (ob8, ()))))))))))) x.1.1 x.1.2.1 x.1.2.2.2.2.2.1 x.2.1.1 x.2.1.2.1 x.2.1.2.2.1 x.2.1.2.2.2.1 x.2.2.2.2.1 x.2.2.2.2.2.1 x.2.2.2.2.2.2.1 x.2.2.2.2.2.2.2.1 x.2.2.2.2.2.2.2.2.1 x.2.2.2.2.2.2.2.2.2.1) n ((log1, (vals2, ((), ((), ((), (t41, ())))))), ((ob0_0, (ob0_1, (ob0_2, (ob0_3, ())))), (((), ((), ((), ()))), (((), ((), ((), ()))), (ob3, (ob4, (ob5, (ob6, (ob7, (ob8, ()))))))))))
theorem ztP : zqu = zc4 := by
  (repeat (apply funext; intro _))
  simp only [zqu, zc4, ztO, zag, zai, zaj, zah, zav, zax, zaX, zaA]
theorem zgZ (N n : Nat) (log1 : Int) (vals2 : List Fr) (t41 ob0_0 ob0_1 : Int) (ob0_2 : List Row) (ob0_3 : List Pr) (ob3 ob4 ob5 ob6 ob7 ob8 : List Fr) : zc4 N (n + 1) log1 vals2 t41 ob0_0 ob0_1 ob0_2 ob0_3 ob3 ob4 ob5 ob6 ob7 ob8 = zii N (zc4 N n) log1 vals2 t41 ob0_0 ob0_1 ob0_2 ob0_3 ob3 ob4 ob5 ob6 ob7 ob8 := rfl
def q145 (N : Nat) (c0 log1 : Int) (vals2 : List Row) (v3 : List Pr) (v4 : Int) (v5 : List Fr) : Option ((List Fr × List Fr × List Fr × Unit) × Int × Unit) :=
  cond ((ltI v4 (1 : Int))) (some ((([], [], [], ()), (1 : Int), ()))) (cond ((ltI (6 : Int) v4)) (some ((([], [], [], ()), (1 : Int), ()))) (cond ((ltI ((shlI (1 : Int) (UInt64.toNat ((u64I v4))))) (↑vals2.length : Int))) (some ((([], [], [], ()), (1 : Int), ()))) (cond (!eqI (↑v5.length : Int) log1) (some ((([], [], [], ()), (1 : Int), ()))) (Option.bind (q119 N c0 log1 vals2 v3) fun rr0 => cond (!eqI rr0.1 (0 : Int)) (some ((([], [], [], ()), (1 : Int), ()))) (zc4 N N v4 v5 (0 : Int) c0 log1 vals2 v3 [] [] [] [] [] [])))))
theorem zuJ : p145 = q145 := by
  (repeat (apply funext; intro _))
  simp only [p145, q145, hide_eq, ztP, zrb, zag, zai, zaj, zah, zav, zax, zaX, zaA]
def zcx (N : Nat) (A_1000 : Int -> Int -> Int -> (List Row) -> (List Pr) -> (List Fr) -> (List Fr) -> (List Fr) -> (List Fr) -> Option (Int × Int × Unit)) (i16 ob0_0 ob0_1 : Int) (ob0_2 : List Row) (ob0_3 : List Pr) (own14o ob3 ob4 ob5 : List Fr) : Option (Int × Int × Unit) :=
  cond ((ltI i16 (↑ob0_2.length : Int))) (must (leI (0 : Int) i16 && ltI i16 (↑ob0_2.length : Int)) (must (!eqI (↑own14o.length : Int) (0 : Int)) (must (leI (0 : Int) ((Int.tmod ((wr (i16 + (1 : Int)))) (↑own14o.length : Int))) && ltI ((Int.tmod ((wr (i16 + (1 : Int)))) (↑own14o.length : Int))) (↑ob3.length : Int)) (must (leI (0 : Int) i16 && ltI i16 (↑ob3.length : Int)) (must (leI (0 : Int) i16 && ltI i16 (↑ob4.length : Int)) (must (leI (0 : Int) i16 && ltI i16 (↑ob5.length : Int)) (Option.bind (q106 N ([(Row.q0 (List.getD ob0_2 i16.toNat zrow)), (Row.q1 (List.getD ob0_2 i16.toNat zrow)), (Row.q2 (List.getD ob0_2 i16.toNat zrow)), (Row.q3 (List.getD ob0_2 i16.toNat zrow)), (Row.q4 (List.getD ob0_2 i16.toNat zrow)), (Row.q5 (List.getD ob0_2 i16.toNat zrow)), (Row.q6 (List.getD ob0_2 i16.toNat zrow)), (Row.q7 (List.getD ob0_2 i16.toNat zrow))]) ((List.getD ob3 i16.toNat (Fr.zero))) ((List.getD ob4 i16.toNat (Fr.zero))) ((List.getD ob5 i16.toNat (Fr.zero))) (Fr.mk (Fr.a0 (List.getD ob3 (Int.toNat ((Int.tmod ((wr (i16 + (1 : Int)))) (↑own14o.length : Int)))) (Fr.zero))) (Fr.a1 (List.getD ob3 (Int.toNat ((Int.tmod ((wr (i16 + (1 : Int)))) (↑own14o.length : Int)))) (Fr.zero))) (Fr.a2 (List.getD ob3 (Int.toNat ((Int.tmod ((wr (i16 + (1 : Int)))) (↑own14o.length : Int)))) (Fr.zero))) (Fr.a3 (List.getD ob3 (Int.toNat ((Int.tmod ((wr (i16 + (1 : Int)))) (↑own14o.length : Int)))) (Fr.zero))))) fun rr2 => must (leI (0 : Int) i16 && ltI i16 (↑own14o.length : Int)) (Option.bind (q80 N (rr2.1) ((List.getD own14o i16.toNat (Fr.zero)))) fun rr3 => cond (!eqF rr3.1 (Fr.mk (0 : UInt64) 0 0 0)) (some ((i16, (12 : Int), ()))) (cond ((ltI ((wr (i16 + (1 : Int)))) (↑own14o.length : Int))) (A_1000 ((wr (i16 + (1 : Int)))) ob0_0 ob0_1 ob0_2 ob0_3 own14o ob3 ob4 ob5) (some (((0 : Int), (0 : Int), ())))))))))))) (must (!eqI (↑own14o.length : Int) (0 : Int)) (must (leI (0 : Int) ((Int.tmod ((wr (i16 + (1 : Int)))) (↑own14o.length : Int))) && ltI ((Int.tmod ((wr (i16 + (1 : Int)))) (↑own14o.length : Int))) (↑ob3.length : Int)) (must (leI (0 : Int) i16 && ltI i16 (↑ob3.length : Int)) (must (leI (0 : Int) i16 && ltI i16 (↑ob4.length : Int)) (must (leI (0 : Int) i16 && ltI i16 (↑ob5.length : Int)) (Option.bind (q106 N ([Fr.zero, Fr.zero, Fr.zero, Fr.zero, Fr.zero, Fr.zero, Fr.zero, Fr.zero]) ((List.getD ob3 i16.toNat (Fr.zero))) ((List.getD ob4 i16.toNat (Fr.zero))) ((List.getD ob5 i16.toNat (Fr.zero))) (Fr.mk (Fr.a0 (List.getD ob3 (Int.toNat ((Int.tmod ((wr (i16 + (1 : Int)))) (↑own14o.length : Int)))) (Fr.zero))) (Fr.a1 (List.getD ob3 (Int.toNat ((Int.tmod ((wr (i16 + (1 : Int)))) (↑own14o.length : Int)))) (Fr.zero))) (Fr.a2 (List.getD ob3 (Int.toNat ((Int.tmod ((wr (i16 + (1 : Int)))) (↑own14o.length : Int)))) (Fr.zero))) (Fr.a3 (List.getD ob3 (Int.toNat ((Int.tmod ((wr (i16 + (1 : Int)))) (↑own14o.length : Int)))) (Fr.zero))))) fun rr0 => must (leI (0 : Int) i16 && ltI i16 (↑own14o.length : Int)) (Option.bind (q80 N (rr0.1) ((List.getD own14o i16.toNat (Fr.zero)))) fun rr1 => cond (!eqF rr1.1 (Fr.mk (0 : UInt64) 0 0 0)) (some ((i16, (12 : Int), ()))) (cond ((ltI ((wr (i16 + (1 : Int)))) (↑own14o.length : Int))) (A_1000 ((wr (i16 + (1 : Int)))) ob0_0 ob0_1 ob0_2 ob0_3 own14o ob3 ob4 ob5) (some (((0 : Int), (0 : Int), ())))))))))))
theorem zlU : zgu = zcx := by
  (repeat (apply funext; intro _))
  simp only [zgu, zcx, hide_eq, zzq, zwh, zag, zai, zaj, zah, zav, zax, zaX, zaA]
def zcy (N n : Nat) (i16 ob0_0 ob0_1 : Int) (ob0_2 : List Row) (ob0_3 : List Pr) (own14o ob3 ob4 ob5 : List Fr) : Option (Int × Int × Unit) :=
  zam (fun A x => zcx N (fun i16 ob0_0 ob0_1 ob0_2 ob0_3 own14o ob3 ob4 ob5 => A (((), ((), ((), (i16, ())))), ((ob0_0, (ob0_1, (ob0_2, (ob0_3, ())))), (((), ((), ((), ()))), (own14o, (ob3, (ob4, (ob5, ())))))))) x.1.2.2.2.1 x.2.1.1 x.2.1.2.1 x.2.1.2.2.1 x.2.1.2.2.2.1 x.2.2.2.1 x.2.2.2.2.1 x.2.2.2.2.2.1 x.2.2.2.2.2.2.1) n (((), ((), ((), (i16, ())))), ((ob0_0, (ob0_1, (ob0_2, (ob0_3, ())))), (((), ((), ((), ()))), (own14o, (ob3, (ob4, (ob5, ())))))))
theorem zlV : zgv = zcy := by
  (repeat (apply funext; intro _))
  simp only [zgv, zcy, zlU, zag, zai, zaj, zah, zav, zax, zaX, zaA]
theorem zhg (N n : Nat) (i16 ob0_0 ob0_1 : Int) (ob0_2 : List Row) (ob0_3 : List Pr) (own14o ob3 ob4 ob5 : List Fr) : zcy N (n + 1) i16 ob0_0 ob0_1 ob0_2 ob0_3 own14o ob3 ob4 ob5 = zcx N (zcy N n) i16 ob0_0 ob0_1 ob0_2 ob0_3 own14o ob3 ob4 ob5 := rfl
def zg0 (N : Nat) (A_9 : (List Fr) -> (List Fr) -> Int -> Int -> Int -> Int -> (List Row) -> (List Pr) -> (List Int) -> Option (Int × Int × Unit)) (public1 vals2 : List Fr) (t38 t39 ob0_0 ob0_1 : Int) (ob0_2 : List Row) (ob0_3 : List Pr) (t37o : List Int) : Option (Int × Int × Unit) :=
  cond ((ltI t39 t38)) (must (leI (0 : Int) t39 && ltI t39 (↑t37o.length : Int)) (must (leI (0 : Int) t39 && ltI t39 (↑vals2.length : Int)) (must (leI (0 : Int) (List.getD t37o t39.toNat (0 : Int)) && ltI (List.getD t37o t39.toNat (0 : Int)) (↑vals2.length : Int)) (cond (!eqL El.u64 [Fr.a0 (List.getD vals2 t39.toNat (Fr.zero)), Fr.a1 (List.getD vals2 t39.toNat (Fr.zero)), Fr.a2 (List.getD vals2 t39.toNat (Fr.zero)), Fr.a3 (List.getD vals2 t39.toNat (Fr.zero))] [Fr.a0 (List.getD vals2 (Int.toNat (List.getD t37o t39.toNat (0 : Int))) (Fr.zero)), Fr.a1 (List.getD vals2 (Int.toNat (List.getD t37o t39.toNat (0 : Int))) (Fr.zero)), Fr.a2 (List.getD vals2 (Int.toNat (List.getD t37o t39.toNat (0 : Int))) (Fr.zero)), Fr.a3 (List.getD vals2 (Int.toNat (List.getD t37o t39.toNat (0 : Int))) (Fr.zero))]) (some ((t39, (13 : Int), ()))) (A_9 public1 vals2 t38 ((wr (t39 + (1 : Int)))) ob0_0 ob0_1 ob0_2 ob0_3 t37o))))) (Option.bind (q120 N ob0_0 ob0_1 ob0_2 ob0_3) fun rr0 => Option.bind (q145 N ob0_0 ob0_1 ob0_2 ob0_3 rr0.1 vals2) fun rr1 => Option.bind (q146 N rr0.1 public1) fun rr2 => zcy N N (0 : Int) ob0_0 ob0_1 ob0_2 ob0_3 rr2.1 (rr1.1.1) (Prod.fst (rr1.1.2)) (Prod.fst (Prod.snd (rr1.1.2))))
theorem ztQ : zqx = zg0 := by
  (repeat (apply funext; intro _))
  simp only [zqx, zg0, hide_eq, zlV, zzM, zuJ, zzN, zag, zai, zaj, zah, zav, zax, zaX, zaA]
def zc5 (N n : Nat) (public1 vals2 : List Fr) (t38 t39 ob0_0 ob0_1 : Int) (ob0_2 : List Row) (ob0_3 : List Pr) (t37o : List Int) : Option (Int × Int × Unit) :=
  zam (fun A x => zg0 N (fun public1 vals2 t38 t39 ob0_0 ob0_1 ob0_2 ob0_3 t37o => A ((public1, (vals2, ((), ((), (t38, (t39, ())))))), ((ob0_0, (ob0_1, (ob0_2, (ob0_3, ())))), (t37o, ())))) x.1.1 x.1.2.1 x.1.2.2.2.2.1 x.1.2.2.2.2.2.1 x.2.1.1 x.2.1.2.1 x.2.1.2.2.1 x.2.1.2.2.2.1 x.2.2.1) n ((public1, (vals2, ((), ((), (t38, (t39, ())))))), ((ob0_0, (ob0_1, (ob0_2, (ob0_3, ())))), (t37o, ())))
theorem ztR : zqy = zc5 := by
  (repeat (apply funext; intro _))
  simp only [zqy, zc5, ztQ, zag, zai, zaj, zah, zav, zax, zaX, zaA]
theorem zcY (N n : Nat) (public1 vals2 : List Fr) (t38 t39 ob0_0 ob0_1 : Int) (ob0_2 : List Row) (ob0_3 : List Pr) (t37o : List Int) : zc5 N (n + 1) public1 vals2 t38 t39 ob0_0 ob0_1 ob0_2 ob0_3 t37o = zg0 N (zc5 N n) public1 vals2 t38 t39 ob0_0 ob0_1 ob0_2 ob0_3 t37o := rfl
def q143 (N : Nat) (c0 public1 : Int) (vals2 : List Row) (v3 : List Pr) (v4 v5 : List Fr) : Option (Int × Int × Unit) :=
  Option.bind (q119 N c0 public1 vals2 v3) fun rr0 => cond (!eqI rr0.1 (0 : Int)) (some (((0 : Int), Prod.fst rr0, ()))) (cond (!eqI (↑v4.length : Int) c0) (some (((0 : Int), (14 : Int), ()))) (cond (!eqI (↑v5.length : Int) public1) (some (((0 : Int), (1 : Int), ()))) (Option.bind (q134 N c0 public1 vals2 v3) fun rr1 => zc5 N N v4 v5 ((↑rr1.1.length : Int)) (0 : Int) c0 public1 vals2 v3 rr1.1)))
theorem zuK : p143 = q143 := by
  (repeat (apply funext; intro _))
  simp only [p143, q143, hide_eq, ztR, zrb, zzw, zag, zai, zaj, zah, zav, zax, zaX, zaA]
def q142 (N : Nat) : Option (Bool × Unit) :=
  Option.bind (q95 N ([(1 : UInt8), (1 : UInt8), (0 : UInt8), (0 : UInt8), (0 : UInt8)]) (1 : Int)) fun rr0 => Option.bind (q143 N (rr0.1.1) (Prod.fst (rr0.1.2)) (Prod.fst (Prod.snd (rr0.1.2))) (Prod.fst (Prod.snd (Prod.snd (rr0.1.2)))) (Prod.fst (Prod.snd (Prod.snd (Prod.snd (rr0.1.2))))) (Prod.fst (Prod.snd (Prod.snd (Prod.snd (Prod.snd (rr0.1.2))))))) fun rr1 => must (leN (((0 : Nat) + List.length (Prod.fst (Prod.snd (Prod.snd (Prod.snd (Prod.snd (rr0.1.2))))))) * (32 : Nat)) (140737488355328 : Nat)) (must (ltI (2 : Int) (↑(List.length (Prod.fst (Prod.snd (Prod.snd (Prod.snd (Prod.snd (rr0.1.2))))))) : Int)) (Option.bind (q143 N (rr0.1.1) (Prod.fst (rr0.1.2)) (Prod.fst (Prod.snd (rr0.1.2))) (Prod.fst (Prod.snd (Prod.snd (rr0.1.2)))) (Prod.fst (Prod.snd (Prod.snd (Prod.snd (rr0.1.2))))) (setL (Prod.fst (Prod.snd (Prod.snd (Prod.snd (Prod.snd (rr0.1.2)))))) (2 : Nat) (Fr.mk (77 : UInt64) (0 : UInt64) (0 : UInt64) (0 : UInt64)))) fun rr2 => Option.bind (q145 N (rr0.1.1) (Prod.fst (rr0.1.2)) (Prod.fst (Prod.snd (rr0.1.2))) (Prod.fst (Prod.snd (Prod.snd (rr0.1.2)))) (1 : Int) (Prod.fst (Prod.snd (Prod.snd (Prod.snd (Prod.snd (rr0.1.2))))))) fun rr3 => cond ((eqI (rr1.2.1) (0 : Int))) (cond ((eqI (rr2.2.1) (12 : Int))) (cond ((eqI rr2.1 (0 : Int))) (cond ((eqI (rr3.2.1) (0 : Int))) (some (((eqI (↑(List.length (rr3.1.1)) : Int) (2 : Int)), ()))) (some ((false, ())))) (some ((false, ())))) (some ((false, ())))) (some ((false, ())))))
theorem zzO : p142 = q142 := by
  (repeat (apply funext; intro _))
  simp only [p142, q142, hide_eq, zuK, zuJ, zzC, zag, zai, zaj, zah, zav, zax, zaX, zaA]
def zg1 (N : Nat) (A_11 : Bool -> Int -> Int -> Int -> (List Fr) -> (List Row) -> (List Pr) -> (List Fr) -> (List Fr) -> (List Stp) -> Option (Bool × Unit)) (alike10 : Bool) (i11 ob0_0 ob0_1 : Int) (v8o : List Fr) (ob2 : List Row) (ob3 : List Pr) (ob4 ob5 : List Fr) (ob6 : List Stp) : Option (Bool × Unit) :=
  cond ((ltI i11 (↑ob3.length : Int))) (cond alike10 (A_11 true ((wr (i11 + (1 : Int)))) ob0_0 ob0_1 v8o ob2 ob3 ob4 ob5 ob6) (must (leI (0 : Int) i11 && ltI i11 (↑ob3.length : Int)) (must (leI (0 : Int) (Pr.x (List.getD ob3 i11.toNat (Pr.mk (0 : Int) (0 : Int)))) && ltI (Pr.x (List.getD ob3 i11.toNat (Pr.mk (0 : Int) (0 : Int)))) (↑v8o.length : Int)) (must (leI (0 : Int) i11 && ltI i11 (↑ob3.length : Int)) (must (leI (0 : Int) (Pr.y (List.getD ob3 i11.toNat (Pr.mk (0 : Int) (0 : Int)))) && ltI (Pr.y (List.getD ob3 i11.toNat (Pr.mk (0 : Int) (0 : Int)))) (↑v8o.length : Int)) (A_11 (!eqL El.u64 [Fr.a0 (List.getD v8o (Int.toNat (Pr.x (List.getD ob3 i11.toNat (Pr.mk (0 : Int) (0 : Int))))) (Fr.zero)), Fr.a1 (List.getD v8o (Int.toNat (Pr.x (List.getD ob3 i11.toNat (Pr.mk (0 : Int) (0 : Int))))) (Fr.zero)), Fr.a2 (List.getD v8o (Int.toNat (Pr.x (List.getD ob3 i11.toNat (Pr.mk (0 : Int) (0 : Int))))) (Fr.zero)), Fr.a3 (List.getD v8o (Int.toNat (Pr.x (List.getD ob3 i11.toNat (Pr.mk (0 : Int) (0 : Int))))) (Fr.zero))] [Fr.a0 (List.getD v8o (Int.toNat (Pr.y (List.getD ob3 i11.toNat (Pr.mk (0 : Int) (0 : Int))))) (Fr.zero)), Fr.a1 (List.getD v8o (Int.toNat (Pr.y (List.getD ob3 i11.toNat (Pr.mk (0 : Int) (0 : Int))))) (Fr.zero)), Fr.a2 (List.getD v8o (Int.toNat (Pr.y (List.getD ob3 i11.toNat (Pr.mk (0 : Int) (0 : Int))))) (Fr.zero)), Fr.a3 (List.getD v8o (Int.toNat (Pr.y (List.getD ob3 i11.toNat (Pr.mk (0 : Int) (0 : Int))))) (Fr.zero))]) ((wr (i11 + (1 : Int)))) ob0_0 ob0_1 v8o ob2 ob3 ob4 ob5 ob6)))))) (Option.bind (q143 N ob0_0 ob0_1 ob2 ob3 ob4 v8o) fun rr0 => cond alike10 (cond ((eqI (rr0.2.1) (13 : Int))) (cond ((leI (0 : Int) rr0.1)) (some (((ltI rr0.1 (↑v8o.length : Int)), ()))) (some ((false, ())))) (some ((false, ())))) (cond ((eqI (rr0.2.1) (12 : Int))) (cond ((ltI rr0.1 ob0_0)) (some ((true, ()))) (must (leI (0 : Int) (mnI rr0.1 (↑ob2.length : Int)) && leI (mnI rr0.1 (↑ob2.length : Int)) (↑ob2.length : Int)) (must (leN (((0 : Nat) + List.length (List.take (Int.toNat (mnI rr0.1 (↑ob2.length : Int) - (0 : Int))) ob2)) * (280 : Nat)) (140737488355328 : Nat)) (cond ((ltI (0 : Int) (↑(List.length (List.take (Int.toNat (mnI rr0.1 (↑ob2.length : Int) - (0 : Int))) ob2)) : Int))) (must (leI (0 : Int) ((wr ((↑(List.length (List.take (Int.toNat (mnI rr0.1 (↑ob2.length : Int) - (0 : Int))) ob2)) : Int) - (1 : Int)))) && ltI ((wr ((↑(List.length (List.take (Int.toNat (mnI rr0.1 (↑ob2.length : Int) - (0 : Int))) ob2)) : Int) - (1 : Int)))) (↑(List.length (List.take (Int.toNat (mnI rr0.1 (↑ob2.length : Int) - (0 : Int))) ob2)) : Int)) (cond (!eqL El.u64 [Fr.a0 (Row.q7 (List.getD (List.take (Int.toNat (mnI rr0.1 (↑ob2.length : Int) - (0 : Int))) ob2) (Int.toNat ((wr ((↑(List.length (List.take (Int.toNat (mnI rr0.1 (↑ob2.length : Int) - (0 : Int))) ob2)) : Int) - (1 : Int))))) zrow)), Fr.a1 (Row.q7 (List.getD (List.take (Int.toNat (mnI rr0.1 (↑ob2.length : Int) - (0 : Int))) ob2) (Int.toNat ((wr ((↑(List.length (List.take (Int.toNat (mnI rr0.1 (↑ob2.length : Int) - (0 : Int))) ob2)) : Int) - (1 : Int))))) zrow)), Fr.a2 (Row.q7 (List.getD (List.take (Int.toNat (mnI rr0.1 (↑ob2.length : Int) - (0 : Int))) ob2) (Int.toNat ((wr ((↑(List.length (List.take (Int.toNat (mnI rr0.1 (↑ob2.length : Int) - (0 : Int))) ob2)) : Int) - (1 : Int))))) zrow)), Fr.a3 (Row.q7 (List.getD (List.take (Int.toNat (mnI rr0.1 (↑ob2.length : Int) - (0 : Int))) ob2) (Int.toNat ((wr ((↑(List.length (List.take (Int.toNat (mnI rr0.1 (↑ob2.length : Int) - (0 : Int))) ob2)) : Int) - (1 : Int))))) zrow))] [(0 : UInt64), (0 : UInt64), (0 : UInt64), (0 : UInt64)]) (some ((true, ()))) (Option.bind (q143 N ob0_0 ob0_1 (List.take (Int.toNat (mnI rr0.1 (↑ob2.length : Int) - (0 : Int))) ob2) ob3 ob4 v8o) fun rr2 => some (((eqI (rr2.2.1) (0 : Int)), ()))))) (Option.bind (q143 N ob0_0 ob0_1 (List.take (Int.toNat (mnI rr0.1 (↑ob2.length : Int) - (0 : Int))) ob2) ob3 ob4 v8o) fun rr1 => some (((eqI (rr1.2.1) (0 : Int)), ()))))))) (some (((eqI (rr0.2.1) (0 : Int)), ())))))
theorem ztS : zqC = zg1 := by
  (repeat (apply funext; intro _))
  simp only [zqC, zg1, hide_eq, zuK, zag, zai, zaj, zah, zav, zax, zaX, zaA]
def zg2 (N n : Nat) (alike10 : Bool) (i11 ob0_0 ob0_1 : Int) (v8o : List Fr) (ob2 : List Row) (ob3 : List Pr) (ob4 ob5 : List Fr) (ob6 : List Stp) : Option (Bool × Unit) :=
  zam (fun A x => zg1 N (fun alike10 i11 ob0_0 ob0_1 v8o ob2 ob3 ob4 ob5 ob6 => A (((), ((), (alike10, (i11, ())))), ((ob0_0, (ob0_1, ((), ((), ((), ((), ((), ()))))))), (v8o, (ob2, (ob3, (ob4, (ob5, (ob6, ()))))))))) x.1.2.2.1 x.1.2.2.2.1 x.2.1.1 x.2.1.2.1 x.2.2.1 x.2.2.2.1 x.2.2.2.2.1 x.2.2.2.2.2.1 x.2.2.2.2.2.2.1 x.2.2.2.2.2.2.2.1) n (((), ((), (alike10, (i11, ())))), ((ob0_0, (ob0_1, ((), ((), ((), ((), ((), ()))))))), (v8o, (ob2, (ob3, (ob4, (ob5, (ob6, ()))))))))
theorem ztT : zqD = zg2 := by
  (repeat (apply funext; intro _))
  simp only [zqD, zg2, ztS, zag, zai, zaj, zah, zav, zax, zaX, zaA]
theorem zcZ (N n : Nat) (alike10 : Bool) (i11 ob0_0 ob0_1 : Int) (v8o : List Fr) (ob2 : List Row) (ob3 : List Pr) (ob4 ob5 : List Fr) (ob6 : List Stp) : zg2 N (n + 1) alike10 i11 ob0_0 ob0_1 v8o ob2 ob3 ob4 ob5 ob6 = zg1 N (zg2 N n) alike10 i11 ob0_0 ob0_1 v8o ob2 ob3 ob4 ob5 ob6 := rfl
def q41 (N : Nat) (l0 : List UInt8) (at1 : UInt8) (by2 : Fr) : Option (Bool × Unit) :=
  Option.bind (q142 N) fun rr0 => cond (!rr0.1) (some ((false, ()))) (cond ((ltI (60 : Int) (↑l0.length : Int))) (some ((true, ()))) (Option.bind (q69 N (by2)) fun rr1 => cond (!rr1.1) (some ((true, ()))) (cond ((eqF by2 (Fr.mk (0 : UInt64) 0 0 0))) (some ((true, ()))) (Option.bind (q95 N l0 (10 : Int)) fun rr2 => must (leN (((0 : Nat) + List.length (Prod.fst (Prod.snd (Prod.snd (Prod.snd (Prod.snd (rr2.1.2))))))) * (32 : Nat)) (140737488355328 : Nat)) (must (!eqI (↑(List.length (Prod.fst (Prod.snd (Prod.snd (Prod.snd (Prod.snd (rr2.1.2))))))) : Int) (0 : Int)) (must (leI (0 : Int) ((Int.tmod ((↑at1.toNat : Int)) (↑(List.length (Prod.fst (Prod.snd (Prod.snd (Prod.snd (Prod.snd (rr2.1.2))))))) : Int))) && ltI ((Int.tmod ((↑at1.toNat : Int)) (↑(List.length (Prod.fst (Prod.snd (Prod.snd (Prod.snd (Prod.snd (rr2.1.2))))))) : Int))) (↑(List.length (Prod.fst (Prod.snd (Prod.snd (Prod.snd (Prod.snd (rr2.1.2))))))) : Int)) (Option.bind (q81 N (Fr.mk (Fr.a0 (List.getD (Prod.fst (Prod.snd (Prod.snd (Prod.snd (Prod.snd (rr2.1.2)))))) (Int.toNat ((Int.tmod ((↑at1.toNat : Int)) (↑(List.length (Prod.fst (Prod.snd (Prod.snd (Prod.snd (Prod.snd (rr2.1.2))))))) : Int)))) (Fr.zero))) (Fr.a1 (List.getD (Prod.fst (Prod.snd (Prod.snd (Prod.snd (Prod.snd (rr2.1.2)))))) (Int.toNat ((Int.tmod ((↑at1.toNat : Int)) (↑(List.length (Prod.fst (Prod.snd (Prod.snd (Prod.snd (Prod.snd (rr2.1.2))))))) : Int)))) (Fr.zero))) (Fr.a2 (List.getD (Prod.fst (Prod.snd (Prod.snd (Prod.snd (Prod.snd (rr2.1.2)))))) (Int.toNat ((Int.tmod ((↑at1.toNat : Int)) (↑(List.length (Prod.fst (Prod.snd (Prod.snd (Prod.snd (Prod.snd (rr2.1.2))))))) : Int)))) (Fr.zero))) (Fr.a3 (List.getD (Prod.fst (Prod.snd (Prod.snd (Prod.snd (Prod.snd (rr2.1.2)))))) (Int.toNat ((Int.tmod ((↑at1.toNat : Int)) (↑(List.length (Prod.fst (Prod.snd (Prod.snd (Prod.snd (Prod.snd (rr2.1.2))))))) : Int)))) (Fr.zero)))) (by2)) fun rr3 => must (leI (0 : Int) ((Int.tmod ((↑at1.toNat : Int)) (↑(List.length (Prod.fst (Prod.snd (Prod.snd (Prod.snd (Prod.snd (rr2.1.2))))))) : Int))) && ltI ((Int.tmod ((↑at1.toNat : Int)) (↑(List.length (Prod.fst (Prod.snd (Prod.snd (Prod.snd (Prod.snd (rr2.1.2))))))) : Int))) (↑(List.length (Prod.fst (Prod.snd (Prod.snd (Prod.snd (Prod.snd (rr2.1.2))))))) : Int)) (zg2 N N false (0 : Int) (rr2.1.1) (Prod.fst (rr2.1.2)) (setL (Prod.fst (Prod.snd (Prod.snd (Prod.snd (Prod.snd (rr2.1.2)))))) (Int.toNat ((Int.tmod ((↑at1.toNat : Int)) (↑(List.length (Prod.fst (Prod.snd (Prod.snd (Prod.snd (Prod.snd (rr2.1.2))))))) : Int)))) (rr3.1)) (Prod.fst (Prod.snd (rr2.1.2))) (Prod.fst (Prod.snd (Prod.snd (rr2.1.2)))) (Prod.fst (Prod.snd (Prod.snd (Prod.snd (rr2.1.2))))) (Prod.fst (Prod.snd (Prod.snd (Prod.snd (Prod.snd (rr2.1.2)))))) (Prod.fst (Prod.snd (Prod.snd (Prod.snd (Prod.snd (Prod.snd (rr2.1.2)))))))))))))))
theorem zBA : p41 = q41 := by
  (repeat (apply funext; intro _))
  simp only [p41, q41, hide_eq, ztT, zzO, zy3, zy7, zzC, zag, zai, zaj, zah, zav, zax, zaX, zaA]
end
section
theorem ixk {i n : Nat} (h : i < n) : (leI 0 (i : Int) && ltI (i : Int) (n : Int)) = true := by rw [zaw, zad (by omega)]; rfl
def ceV (rows : List Row) (v : List Fr) (i j : Nat) : Fr := if i < rows.length /\ 0 <= rw3 (rows.getD i zrow) j then v.getD (rw3 (rows.getD i zrow) j).toNat Fr.zero else Fr.zero
def zi5 (rows : List Row) (v : List Fr) (n j : Nat) (l : List Fr) : Prop := l.length = n /\ ∀ i, i < n -> l.getD i Fr.zero = ceV rows v i j
theorem zfD (n i : Nat) : (List.replicate n Fr.zero).getD i Fr.zero = Fr.zero := by
  rw [List.getD_eq_getElem?_getD, List.getElem?_replicate]
  split <;> rfl
abbrev zwO := Int -> (List Fr) -> Int -> Int -> Int -> (List Row) -> (List Pr) -> (List Fr) -> (List Fr) -> (List Fr) -> (List Fr) -> (List Fr) -> (List Fr) -> Option ((List Fr × List Fr × List Fr × Unit) × Int × Unit)
section
variable {N n V : Nat} {c0 log : Int} {rows : List Row} {S : List Pr} {v : List Fr} (hn : n <= 64) (hr : rows.length <= n) (hv : v.length = V) (hin : ∀ r ∈ rows, ∀ j, -1 <= rw3 r j /\ rw3 r j < (V : Int))
include hn hr hv hin
theorem zzP {A : zwO} {j41 : Nat} (h41 : j41 < 10) {o1 o2 : List Fr} : ∀ (k t f : Nat) (o0 : List Fr), t + k = rows.length -> k < f -> o0.length = n -> (∀ i, i < t -> o0.getD i Fr.zero = ceV rows v i 0) -> (∀ i, t <= i -> o0.getD i Fr.zero = Fr.zero) ->
    ∃ o', zcw N A f log v ((0 : Nat) : Int) (j41 : Int) rows (rows.length : Int) (t : Int) c0 (V : Int) rows S [] [] [] o0 o1 o2 = A log v ((j41 + 1 : Nat) : Int) c0 (V : Int) rows S [] [] [] o' o1 o2 /\ zi5 rows v n 0 o'
  | 0, t, f + 1, o0, h1, h2, h3, h4, h5 => by
    refine ⟨o0, ?_, h3, fun i hi => ?_⟩
    . rw [zbJ]
      unfold zdH
      rw [zab (by omega), cond_false, zay (by omega)]
    . rcases Nat.lt_or_ge i t with h | h
      . exact h4 i h
      . rw [h5 i h]
        unfold ceV
        rw [if_neg (fun hc => absurd hc.1 (by omega))]
  | k + 1, t, f + 1, o0, h1, h2, h3, h4, h5 => by
    have hmem : rows.getD t zrow ∈ rows := zmP (by omega)
    have hw := hin _ hmem 0
    have ih := zzP (A := A) h41 (o1 := o1) (o2 := o2) k (t + 1) f
    rw [zbJ]
    unfold zdH
    rw [zad (by omega), cond_true, zaJ (by omega : (0 : Int) <= (t : Int)), Bool.and_self, mst2]
    rw [show eqI ((0 : Nat) : Int) ((0 : Nat) : Int) = true from rfl, cond_true, mst2]
    rw [Int.toNat_natCast, zay (by omega)]
    rw [show (rows.getD t zrow).w0 = rw3 (rows.getD t zrow) 0 from rfl]
    by_cases hneg : 0 <= rw3 (rows.getD t zrow) 0
    . obtain ⟨x, hx⟩ : ∃ x : Nat, rw3 (rows.getD t zrow) 0 = (x : Int) := ⟨(rw3 (rows.getD t zrow) 0).toNat, by omega⟩
      rw [hx] at hw hneg ⊢
      rw [zaJ (by omega : (0 : Int) <= (x : Int)), zad (by omega : (x : Int) < (v.length : Int)), cond_true, zad (by omega : (t : Int) < (o0.length : Int))]
      simp only [Bool.and_self, mst2, zag, Int.toNat_natCast]
      refine ih _ (by omega) (by omega) (by rw [zaP]; exact h3) (fun i hi => ?_) (fun i hi => ?_)
      . rw [zaD]
        by_cases e : i = t
        . rw [if_pos ⟨e, by omega⟩, e]
          unfold ceV
          rw [if_pos ⟨by omega, by rw [hx]; omega⟩, hx, Int.toNat_natCast]
        . rw [if_neg (fun hc => e hc.1)]; exact h4 i (by omega)
      . rw [zaD, if_neg (fun hc => absurd hc.1 (by omega))]; exact h5 i (by omega)
    . rw [zaC hneg, cond_false]
      refine ih _ (by omega) (by omega) h3 (fun i hi => ?_) (fun i hi => h5 i (by omega))
      by_cases e : i = t
      . rw [e, h5 t (Nat.le_refl _)]
        unfold ceV
        rw [if_neg (fun hc => hneg hc.2)]
      . exact h4 i (by omega)
theorem zzQ {A : zwO} {j41 : Nat} (h41 : j41 < 10) {o0 o2 : List Fr} : ∀ (k t f : Nat) (o1 : List Fr), t + k = rows.length -> k < f -> o1.length = n -> (∀ i, i < t -> o1.getD i Fr.zero = ceV rows v i 1) -> (∀ i, t <= i -> o1.getD i Fr.zero = Fr.zero) ->
    ∃ o', zcw N A f log v ((1 : Nat) : Int) (j41 : Int) rows (rows.length : Int) (t : Int) c0 (V : Int) rows S [] [] [] o0 o1 o2 = A log v ((j41 + 1 : Nat) : Int) c0 (V : Int) rows S [] [] [] o0 o' o2 /\ zi5 rows v n 1 o'
  | 0, t, f + 1, o1, h1, h2, h3, h4, h5 => by
    refine ⟨o1, ?_, h3, fun i hi => ?_⟩
    . rw [zbJ]
      unfold zdH
      rw [zab (by omega), cond_false, zay (by omega)]
    . rcases Nat.lt_or_ge i t with h | h
      . exact h4 i h
      . rw [h5 i h]
        unfold ceV
        rw [if_neg (fun hc => absurd hc.1 (by omega))]
  | k + 1, t, f + 1, o1, h1, h2, h3, h4, h5 => by
    have hmem : rows.getD t zrow ∈ rows := zmP (by omega)
    have hw := hin _ hmem 1
    have ih := zzQ (A := A) h41 (o0 := o0) (o2 := o2) k (t + 1) f
    rw [zbJ]
    unfold zdH
    rw [zad (by omega), cond_true, zaJ (by omega : (0 : Int) <= (t : Int)), Bool.and_self, mst2]
    rw [show eqI ((1 : Nat) : Int) ((0 : Nat) : Int) = false from rfl, cond_false, show eqI ((1 : Nat) : Int) ((0 + 1 : Nat) : Int) = true from rfl, cond_true, mst2]
    rw [Int.toNat_natCast, zay (by omega)]
    rw [show (rows.getD t zrow).w1 = rw3 (rows.getD t zrow) 1 from rfl]
    by_cases hneg : 0 <= rw3 (rows.getD t zrow) 1
    . obtain ⟨x, hx⟩ : ∃ x : Nat, rw3 (rows.getD t zrow) 1 = (x : Int) := ⟨(rw3 (rows.getD t zrow) 1).toNat, by omega⟩
      rw [hx] at hw hneg ⊢
      rw [zaJ (by omega : (0 : Int) <= (x : Int)), zad (by omega : (x : Int) < (v.length : Int)), cond_true, zad (by omega : (t : Int) < (o1.length : Int))]
      simp only [Bool.and_self, mst2, zag, Int.toNat_natCast]
      refine ih _ (by omega) (by omega) (by rw [zaP]; exact h3) (fun i hi => ?_) (fun i hi => ?_)
      . rw [zaD]
        by_cases e : i = t
        . rw [if_pos ⟨e, by omega⟩, e]
          unfold ceV
          rw [if_pos ⟨by omega, by rw [hx]; omega⟩, hx, Int.toNat_natCast]
        . rw [if_neg (fun hc => e hc.1)]; exact h4 i (by omega)
      . rw [zaD, if_neg (fun hc => absurd hc.1 (by omega))]; exact h5 i (by omega)
    . rw [zaC hneg, cond_false]
      refine ih _ (by omega) (by omega) h3 (fun i hi => ?_) (fun i hi => h5 i (by omega))
      by_cases e : i = t
      . rw [e, h5 t (Nat.le_refl _)]
        unfold ceV
        rw [if_neg (fun hc => hneg hc.2)]
      . exact h4 i (by omega)
theorem zzR {A : zwO} {j41 : Nat} (h41 : j41 < 10) {o0 o1 : List Fr} : ∀ (k t f : Nat) (o2 : List Fr), t + k = rows.length -> k < f -> o2.length = n -> (∀ i, i < t -> o2.getD i Fr.zero = ceV rows v i 2) -> (∀ i, t <= i -> o2.getD i Fr.zero = Fr.zero) ->
    ∃ o', zcw N A f log v ((2 : Nat) : Int) (j41 : Int) rows (rows.length : Int) (t : Int) c0 (V : Int) rows S [] [] [] o0 o1 o2 = A log v ((j41 + 1 : Nat) : Int) c0 (V : Int) rows S [] [] [] o0 o1 o' /\ zi5 rows v n 2 o'
  | 0, t, f + 1, o2, h1, h2, h3, h4, h5 => by
    refine ⟨o2, ?_, h3, fun i hi => ?_⟩
    . rw [zbJ]
      unfold zdH
      rw [zab (by omega), cond_false, zay (by omega)]
    . rcases Nat.lt_or_ge i t with h | h
      . exact h4 i h
      . rw [h5 i h]
        unfold ceV
        rw [if_neg (fun hc => absurd hc.1 (by omega))]
  | k + 1, t, f + 1, o2, h1, h2, h3, h4, h5 => by
    have hmem : rows.getD t zrow ∈ rows := zmP (by omega)
    have hw := hin _ hmem 2
    have ih := zzR (A := A) h41 (o0 := o0) (o1 := o1) k (t + 1) f
    rw [zbJ]
    unfold zdH
    rw [zad (by omega), cond_true, zaJ (by omega : (0 : Int) <= (t : Int)), Bool.and_self, mst2]
    rw [show eqI ((2 : Nat) : Int) ((0 : Nat) : Int) = false from rfl, cond_false, show eqI ((2 : Nat) : Int) ((0 + 1 : Nat) : Int) = false from rfl, cond_false, show eqI ((2 : Nat) : Int) ((0 + 1 + 1 : Nat) : Int) = true from rfl, mst2, mst2]
    rw [Int.toNat_natCast, zay (by omega)]
    rw [show (rows.getD t zrow).w2 = rw3 (rows.getD t zrow) 2 from rfl]
    by_cases hneg : 0 <= rw3 (rows.getD t zrow) 2
    . obtain ⟨x, hx⟩ : ∃ x : Nat, rw3 (rows.getD t zrow) 2 = (x : Int) := ⟨(rw3 (rows.getD t zrow) 2).toNat, by omega⟩
      rw [hx] at hw hneg ⊢
      rw [zaJ (by omega : (0 : Int) <= (x : Int)), zad (by omega : (x : Int) < (v.length : Int)), cond_true, zad (by omega : (t : Int) < (o2.length : Int))]
      simp only [Bool.and_self, mst2, zag, Int.toNat_natCast]
      refine ih _ (by omega) (by omega) (by rw [zaP]; exact h3) (fun i hi => ?_) (fun i hi => ?_)
      . rw [zaD]
        by_cases e : i = t
        . rw [if_pos ⟨e, by omega⟩, e]
          unfold ceV
          rw [if_pos ⟨by omega, by rw [hx]; omega⟩, hx, Int.toNat_natCast]
        . rw [if_neg (fun hc => e hc.1)]; exact h4 i (by omega)
      . rw [zaD, if_neg (fun hc => absurd hc.1 (by omega))]; exact h5 i (by omega)
    . rw [zaC hneg, cond_false]
      refine ih _ (by omega) (by omega) h3 (fun i hi => ?_) (fun i hi => h5 i (by omega))
      by_cases e : i = t
      . rw [e, h5 t (Nat.le_refl _)]
        unfold ceV
        rw [if_neg (fun hc => hneg hc.2)]
      . exact h4 i (by omega)
end
theorem zwP {N V L : Nat} (hN : 2000 <= N) {c0 : Int} {rows : List Row} {S : List Pr} {v : List Fr} (hg : GoodCirc c0 (V : Int) rows S) (h1 : 1 <= L) (h6 : L <= 6) (hr : rows.length <= 2 ^ L) (hv : v.length = V) :
    ∃ o0 o1 o2, q145 N c0 (V : Int) rows S (L : Int) v = some ((o0, o1, o2, ()), 0, ()) /\ zi5 rows v (2 ^ L) 0 o0 /\ zi5 rows v (2 ^ L) 1 o1 /\ zi5 rows v (2 ^ L) 2 o2 := by
  have hV := hg.v200
  have hle := zeS h6
  have hp := zgL L
  have hin : ∀ r ∈ rows, ∀ j, -1 <= rw3 r j /\ rw3 r j < (V : Int) := fun r hr j => hg.vars hr j
  obtain ⟨n, rfl⟩ : ∃ n, N = n + 1 + 1 + 1 + 1 := ⟨N - 4, by omega⟩
  have hrep : (List.replicate (2 ^ L) Fr.zero).length = 2 ^ L := List.length_replicate
  obtain ⟨o0, e0, i0⟩ := zzP (N := n + 1 + 1 + 1 + 1) (c0 := c0) (log := (L : Int)) (S := S) (A := zc4 (n + 1 + 1 + 1 + 1) (n + 1 + 1 + 1)) (j41 := 0) hle hr hv hin (by omega) (o1 := []) (o2 := []) rows.length 0 (n + 1 + 1 + 1 + 1) (List.replicate (2 ^ L) Fr.zero) (by omega) (by omega) hrep (fun i hi => absurd hi (by omega)) (fun i _ => zfD _ _)
  obtain ⟨o1, e1, i1⟩ := zzQ (N := n + 1 + 1 + 1 + 1) (c0 := c0) (log := (L : Int)) (S := S) (A := zc4 (n + 1 + 1 + 1 + 1) (n + 1 + 1)) (j41 := 1) hle hr hv hin (by omega) (o0 := o0) (o2 := []) rows.length 0 (n + 1 + 1 + 1 + 1) (List.replicate (2 ^ L) Fr.zero) (by omega) (by omega) hrep (fun i hi => absurd hi (by omega)) (fun i _ => zfD _ _)
  obtain ⟨o2, e2, i2⟩ := zzR (N := n + 1 + 1 + 1 + 1) (c0 := c0) (log := (L : Int)) (S := S) (A := zc4 (n + 1 + 1 + 1 + 1) (n + 1)) (j41 := 2) hle hr hv hin (by omega) (o0 := o0) (o1 := o1) rows.length 0 (n + 1 + 1 + 1 + 1) (List.replicate (2 ^ L) Fr.zero) (by omega) (by omega) hrep (fun i hi => absurd hi (by omega)) (fun i _ => zfD _ _)
  refine ⟨o0, o1, o2, ?_, i0, i1, i2⟩
  unfold q145
  rw [zab (by omega), cond_false, zab (by omega), cond_false, sh1 h6, zab (by omega), cond_false, zaK (by rw [hv]), Bool.not_true, cond_false]
  rw [zrt (by omega) c0 (V : Int) rows S (by have := hg.rows; omega) (by have := hg.same; omega), hg.may]
  simp only [bsm]
  rw [zaK rfl, Bool.not_true, cond_false]
  have st : ∀ (j f : Nat) (o0 o1 o2 : List Fr) (R : Option ((List Fr × List Fr × List Fr × Unit) × Int × Unit)), j < 3 ->
      (j = 0 -> zcw (n + 1 + 1 + 1 + 1) (zc4 (n + 1 + 1 + 1 + 1) f) (n + 1 + 1 + 1 + 1) (L : Int) v ((0 : Nat) : Int) ((0 : Nat) : Int) rows (rows.length : Int) ((0 : Nat) : Int) c0 (V : Int) rows S [] [] [] (List.replicate (2 ^ L) Fr.zero) o1 o2 = R) ->
      (j = 1 -> zcw (n + 1 + 1 + 1 + 1) (zc4 (n + 1 + 1 + 1 + 1) f) (n + 1 + 1 + 1 + 1) (L : Int) v ((1 : Nat) : Int) ((1 : Nat) : Int) rows (rows.length : Int) ((0 : Nat) : Int) c0 (V : Int) rows S [] [] [] o0 (List.replicate (2 ^ L) Fr.zero) o2 = R) ->
      (j = 2 -> zcw (n + 1 + 1 + 1 + 1) (zc4 (n + 1 + 1 + 1 + 1) f) (n + 1 + 1 + 1 + 1) (L : Int) v ((2 : Nat) : Int) ((2 : Nat) : Int) rows (rows.length : Int) ((0 : Nat) : Int) c0 (V : Int) rows S [] [] [] o0 o1 (List.replicate (2 ^ L) Fr.zero) = R) ->
      zc4 (n + 1 + 1 + 1 + 1) (f + 1) (L : Int) v (j : Int) c0 (V : Int) rows S [] [] [] o0 o1 o2 = R := fun j f o0 o1 o2 R hj a b c => by
    rw [zgZ]
    unfold zii
    rw [zad (by omega), cond_true, sh1 h6, zaw, zaK rfl, Int.toNat_natCast, zaG (by omega)]
    simp only [Bool.and_self, mst2]
    obtain rfl | rfl | rfl : j = 0 \/ j = 1 \/ j = 2 := by omega
    . exact a rfl
    . exact b rfl
    . exact c rfl
  refine st 0 (n + 1 + 1 + 1) [] [] [] _ (by omega) (fun _ => e0.trans ?_) (fun h => absurd h (by omega)) (fun h => absurd h (by omega))
  refine st 1 (n + 1 + 1) o0 [] [] _ (by omega) (fun h => absurd h (by omega)) (fun _ => e1.trans ?_) (fun h => absurd h (by omega))
  refine st 2 (n + 1) o0 o1 [] _ (by omega) (fun h => absurd h (by omega)) (fun h => absurd h (by omega)) (fun _ => e2.trans ?_)
  rw [zgZ]
  unfold zii
  rw [zab (by omega), cond_false]
def ownV (pub : List Fr) (i : Nat) : Fr := if i < pub.length then fneg (pub.getD i Fr.zero) else Fr.zero
theorem zrE {N n : Nat} (hN : 2000 <= N) {pub : List Fr} (hn : n <= 64) (hp : pub.length <= n) (hs : ∀ x ∈ pub, Sc x) : ∀ (k t f : Nat) (o : List Fr), t + k = pub.length -> k < f -> o.length = n -> (∀ i, i < t -> o.getD i Fr.zero = ownV pub i) -> (∀ i, t <= i -> o.getD i Fr.zero = Fr.zero) ->
    ∃ o', zih N f pub (pub.length : Int) (t : Int) o = some (o', 0, ()) /\ o'.length = n /\ ∀ i, i < n -> o'.getD i Fr.zero = ownV pub i
  | 0, t, f + 1, o, h1, h2, h3, h4, h5 => by
    refine ⟨o, ?_, h3, fun i hi => ?_⟩
    . rw [zgY]
      unfold zig
      rw [zab (by omega), cond_false]
    . rcases Nat.lt_or_ge i t with h | h
      . exact h4 i h
      . rw [h5 i h]
        unfold ownV
        rw [if_neg (by omega)]
  | k + 1, t, f + 1, o, h1, h2, h3, h4, h5 => by
    have hsc : Sc (pub.getD t Fr.zero) := by
      rw [List.getD_eq_getElem?_getD, List.getElem?_eq_getElem (by omega : t < pub.length)]
      exact hs _ (List.getElem_mem _)
    rw [zgY]
    unfold zig
    rw [zad (by omega), cond_true, zaJ (by omega : (0 : Int) <= (t : Int)), Bool.and_self, mst2, Int.toNat_natCast, zzj (by omega) hsc]
    simp only [bsm]
    rw [zad (by omega : (t : Int) < (o.length : Int)), Bool.and_self, mst2, zay (by omega)]
    refine zrE hN hn hp hs k (t + 1) f _ (by omega) (by omega) (by rw [zaP]; exact h3) (fun i hi => ?_) (fun i hi => ?_)
    . rw [zaD]
      by_cases e : i = t
      . rw [if_pos ⟨e, by omega⟩, e]
        unfold ownV
        rw [if_pos (by omega)]
        rfl
      . rw [if_neg (fun hc => e hc.1)]; exact h4 i (by omega)
    . rw [zaD, if_neg (fun hc => absurd hc.1 (by omega))]; exact h5 i (by omega)
theorem zwQ {N L : Nat} (hN : 2000 <= N) {pub : List Fr} (h1 : 1 <= L) (h6 : L <= 6) (hp : pub.length <= 2 ^ L) (hs : ∀ x ∈ pub, Sc x) :
    ∃ o, q146 N (L : Int) pub = some (o, 0, ()) /\ o.length = 2 ^ L /\ ∀ i, i < 2 ^ L -> o.getD i Fr.zero = ownV pub i := by
  have hle := zeS h6
  obtain ⟨o, e, h⟩ := zrE (N := N) hN hle hp hs pub.length 0 N (List.replicate (2 ^ L) Fr.zero) (by omega) (by omega) List.length_replicate (fun i hi => absurd hi (by omega)) (fun i _ => zfD _ _)
  refine ⟨o, ?_, h⟩
  unfold q146
  rw [zab (by omega), cond_false, zab (by omega), cond_false, sh1 h6, zab (by omega), cond_false, zaw, zaK rfl, Int.toNat_natCast, zaG (by omega)]
  simp only [Bool.and_self, mst2]
  exact e
theorem zmS {N : Nat} (c0 v1 : Int) (v2 : List Row) (v3 : List Pr) : ∀ (d k f : Nat), 1 <= k -> k + d = 6 -> d < f -> ∃ L : Nat, k <= L /\ L <= 6 /\ (v2.length <= 2 ^ L \/ L = 6) /\ zcv N f (k : Int) c0 v1 v2 v3 = some ((L : Int), ())
  | 0, k, f + 1, h1, h2, h3 => by
    refine ⟨k, Nat.le_refl _, by omega, .inr (by omega), ?_⟩
    rw [zcf]
    unfold zb8
    rw [zab (by omega), cond_false]
  | d + 1, k, f + 1, h1, h2, h3 => by
    by_cases hl : 2 ^ k < v2.length
    . obtain ⟨L, a, b, c, e⟩ := zmS (N := N) c0 v1 v2 v3 d (k + 1) f (by omega) (by omega) (by omega)
      refine ⟨L, by omega, b, c, ?_⟩
      rw [zcf]
      unfold zb8
      rw [zad (by omega), cond_true, sh1 (by omega), zad (by omega), cond_true, zay (by omega)]
      exact e
    . refine ⟨k, Nat.le_refl _, by omega, .inl (by omega), ?_⟩
      rw [zcf]
      unfold zb8
      rw [zad (by omega), cond_true, sh1 (by omega), zab (by omega), cond_false]
theorem zwR {N : Nat} (hN : 100 <= N) (c0 v1 : Int) {v2 : List Row} (v3 : List Pr) (h : v2.length <= 64) : ∃ L : Nat, 1 <= L /\ L <= 6 /\ v2.length <= 2 ^ L /\ q120 N c0 v1 v2 v3 = some ((L : Int), ()) := by
  obtain ⟨L, a, b, c, e⟩ := zmS (N := N) c0 v1 v2 v3 5 1 N (by omega) (by omega) (by omega)
  refine ⟨L, a, b, ?_, e⟩
  rcases c with c | rfl
  . exact c
  . omega
end
end Go.Proofs.Ytgimohchocjgcaa.V
