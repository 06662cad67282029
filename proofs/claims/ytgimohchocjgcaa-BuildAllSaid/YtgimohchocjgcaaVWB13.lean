import Derived.Test.YtgimohchocjgcaaVK5
import Derived.Test.YtgimohchocjgcaaVWB6
import Derived.KernelRfl
import Derived.Test.YtgimohchocjgcaaVFP
set_option linter.unusedVariables false
set_option linter.unusedSimpArgs false
namespace Go.Proofs.Ytgimohchocjgcaa.V
section
def zbh (N : Nat) (A_11 : Int -> Int -> (List Row) -> (List Row) -> (List Row) -> Option (List Row × Unit)) (t26 t27 : Int) (ob0_0 ob0_1 newslice6o : List Row) : Option (List Row × Unit) :=
  cond ((ltI t27 t26)) (cond (eqI t27 (↑(0 : Nat) : Int)) (must (leN ((List.length newslice6o + List.length ob0_0) * (280 : Nat)) (140737488355328 : Nat)) (A_11 t26 ((wr ((↑(0 : Nat) : Int) + (1 : Int)))) ob0_0 ob0_1 (newslice6o ++ ob0_0))) (must (eqI t27 (↑((0 : Nat) + (1 : Nat)) : Int)) (must (leN ((List.length newslice6o + List.length ob0_1) * (280 : Nat)) (140737488355328 : Nat)) (A_11 t26 ((wr ((↑((0 : Nat) + (1 : Nat)) : Int) + (1 : Int)))) ob0_0 ob0_1 (newslice6o ++ ob0_1))))) (some ((newslice6o, ())))
theorem zhY : zdJ = zbh := by
  (repeat (apply funext; intro _))
  simp only [zdJ, zbh, hide_eq, zae, zag, zah, zaf, zao, zap, zaL, zat]
def zbI (N n : Nat) (t26 t27 : Int) (ob0_0 ob0_1 newslice6o : List Row) : Option (List Row × Unit) :=
  zas (fun A x => zbh N (fun t26 t27 ob0_0 ob0_1 newslice6o => A (((), ((), (t26, (t27, ())))), ((ob0_0, (ob0_1, ())), (newslice6o, ())))) x.1.2.2.1 x.1.2.2.2.1 x.2.1.1 x.2.1.2.1 x.2.2.1) n (((), ((), (t26, (t27, ())))), ((ob0_0, (ob0_1, ())), (newslice6o, ())))
theorem zhZ : zdK = zbI := by
  (repeat (apply funext; intro _))
  simp only [zdK, zbI, zhY, zae, zag, zah, zaf, zao, zap, zaL, zat]
theorem zbV (N n : Nat) (t26 t27 : Int) (ob0_0 ob0_1 newslice6o : List Row) : zbI N (n + 1) t26 t27 ob0_0 ob0_1 newslice6o = zbh N (zbI N n) t26 t27 ob0_0 ob0_1 newslice6o := rfl
def zbJ (N : Nat) (A_3 : Int -> Int -> Int -> (List Row) -> (List Row) -> Option (List Row × Unit)) (size3 t10 t11 : Int) (ob0_0 ob0_1 : List Row) : Option (List Row × Unit) :=
  cond ((ltI t11 t10)) (cond (eqI t11 (↑(0 : Nat) : Int)) (cond ((ltI ((wr (size3 + (↑ob0_0.length : Int)))) (0 : Int))) (none) (A_3 ((wr (size3 + (↑ob0_0.length : Int)))) t10 ((wr ((↑(0 : Nat) : Int) + (1 : Int)))) ob0_0 ob0_1)) (must (eqI t11 (↑((0 : Nat) + (1 : Nat)) : Int)) (cond ((ltI ((wr (size3 + (↑ob0_1.length : Int)))) (0 : Int))) (none) (A_3 ((wr (size3 + (↑ob0_1.length : Int)))) t10 ((wr ((↑((0 : Nat) + (1 : Nat)) : Int) + (1 : Int)))) ob0_0 ob0_1)))) (Option.bind (zfg N size3) fun rr0 => zbI N N ((↑(2 : Nat) : Int)) (0 : Int) ob0_0 ob0_1 rr0.1)
theorem ziZ : zeE = zbJ := by
  (repeat (apply funext; intro _))
  simp only [zeE, zbJ, hide_eq, zhZ, zl2, zae, zag, zah, zaf, zao, zap, zaL, zat]
def zb5 (N n : Nat) (size3 t10 t11 : Int) (ob0_0 ob0_1 : List Row) : Option (List Row × Unit) :=
  zas (fun A x => zbJ N (fun size3 t10 t11 ob0_0 ob0_1 => A (((), (size3, ((), (t10, (t11, ()))))), ((ob0_0, (ob0_1, ())), ()))) x.1.2.1 x.1.2.2.2.1 x.1.2.2.2.2.1 x.2.1.1 x.2.1.2.1) n (((), (size3, ((), (t10, (t11, ()))))), ((ob0_0, (ob0_1, ())), ()))
theorem zi0 : zeF = zb5 := by
  (repeat (apply funext; intro _))
  simp only [zeF, zb5, ziZ, zae, zag, zah, zaf, zao, zap, zaL, zat]
theorem zce (N n : Nat) (size3 t10 t11 : Int) (ob0_0 ob0_1 : List Row) : zb5 N (n + 1) size3 t10 t11 ob0_0 ob0_1 = zbJ N (zb5 N n) size3 t10 t11 ob0_0 ob0_1 := rfl
def zfl (N : Nat) (slices0 v1 : List Row) : Option (List Row × Unit) :=
  zb5 N N (0 : Int) ((↑(List.length [C.ro El.row slices0, C.ro El.row v1]) : Int)) (0 : Int) slices0 v1
theorem zme : zfh = zfl := by
  (repeat (apply funext; intro _))
  simp only [zfh, zfl, zi0, zae, zag, zah, zaf, zao, zap, zaL, zat]
def q113 (N : Nat) : Option (Unit × (Int × List Row × List Row × List Pr × Unit) × Unit) :=
  some (((), ((0 : Int), [], [], [], ()), ()))
theorem zqW : p113 = q113 := by
  (repeat (apply funext; intro _))
  simp only [p113, q113, zae, zag, zah, zaf, zao, zap, zaL, zat]
def q114 (N : Nat) (b0 : Int) (s1 v2 : List Row) (v3 : List Pr) (v4 : Stp) : Option ((Int × List Row × List Row × List Pr × Unit) × Int × Int × Unit) :=
  cond (false) (some (((b0, s1, v2, v3, ()), (0 : Int), (1 : Int), ()))) (Option.bind (q192 N (v4) b0) fun rr0 => cond (!eqI rr0.1 (0 : Int)) (some (((b0, s1, v2, v3, ()), (0 : Int), Prod.fst rr0, ()))) (Option.bind (q108 N (v4)) fun rr1 => cond (!eqI (rr1.2.1) (0 : Int)) (some (((b0, s1, v2, v3, ()), (0 : Int), Prod.fst rr1.2, ()))) (cond ((ltI (64 : Int) ((wr ((wr ((↑s1.length : Int) + (↑v2.length : Int))) + (↑rr1.1.length : Int)))))) (some (((b0, s1, v2, v3, ()), (0 : Int), (8 : Int), ()))) (cond ((eqI v4.kind (1 : Int))) (cond ((eqI b0 (200 : Int))) (some (((b0, s1, v2, v3, ()), (0 : Int), (8 : Int), ()))) (some ((((wr (b0 + (1 : Int))), s1, v2, v3, ()), (wr ((wr (b0 + (1 : Int))) - (1 : Int))), (0 : Int), ())))) (cond ((eqI v4.kind (6 : Int))) (cond ((eqI (↑v3.length : Int) (200 : Int))) (some (((b0, s1, v2, v3, ()), (0 : Int), (8 : Int), ()))) (must (leN ((List.length v3 + List.length [Pr.mk v4.v0 v4.v1]) * (16 : Nat)) (140737488355328 : Nat)) (some (((b0, s1, v2, v3 ++ [Pr.mk v4.v0 v4.v1], ()), (0 : Int), (0 : Int), ()))))) (cond ((eqI v4.kind (7 : Int))) (cond ((eqI (↑s1.length : Int) (8 : Int))) (some (((b0, s1, v2, v3, ()), (0 : Int), (8 : Int), ()))) (must (leN ((List.length s1 + List.length rr1.1) * (280 : Nat)) (140737488355328 : Nat)) (some (((b0, s1 ++ Prod.fst rr1, v2, v3, ()), (0 : Int), (0 : Int), ()))))) (must (leN ((List.length v2 + List.length rr1.1) * (280 : Nat)) (140737488355328 : Nat)) (some (((b0, s1, v2 ++ Prod.fst rr1, v3, ()), (0 : Int), (0 : Int), ()))))))))))
theorem zqX : p114 = q114 := by
  (repeat (apply funext; intro _))
  simp only [p114, q114, hide_eq, zqU, zut, zae, zag, zah, zaf, zao, zap, zaL, zat]
def q117 (N : Nat) (b0 : Int) (v1 v2 : List Row) (v3 : List Pr) : Option ((Int × List Row × List Row × List Pr × Unit) × (Int × Int × List Row × List Pr × Unit) × Unit) :=
  cond (false) (some (((b0, v1, v2, v3, ()), ((0 : Int), (0 : Int), [], [], ()), ()))) (Option.bind (zfl N v1 v2) fun rr0 => Option.bind (q199 N v3) fun rr1 => some (((b0, v1, v2, v3, ()), ((↑v1.length : Int), b0, Prod.fst rr0, Prod.fst rr1, ()), ())))
theorem zqY : p117 = q117 := by
  (repeat (apply funext; intro _))
  simp only [p117, q117, hide_eq, zs8, zme, zae, zag, zah, zaf, zao, zap, zaL, zat]
def zei (N : Nat) (b0 : Stp) : Option (Int × Int × Unit) :=
  must (true) (some (((0 : Int), (1 : Int), ())))
theorem zmf : zfi = zei := by
  (repeat (apply funext; intro _))
  simp only [zfi, zei, hide_eq, zae, zag, zah, zaf, zao, zap, zaL, zat]
def zej (N : Nat) : Option ((Int × Int × List Row × List Pr × Unit) × Unit) :=
  must (true) (some ((((0 : Int), (0 : Int), [], [], ()), ())))
theorem zmg : zfj = zej := by
  (repeat (apply funext; intro _))
  simp only [zfj, zej, hide_eq, zae, zag, zah, zaf, zao, zap, zaL, zat]
def zbc (N : Nat) (A_1000 : Int -> Int -> Int -> (List Row) -> (List Pr) -> Option (Int × Unit)) (log3 ob0_0 ob0_1 : Int) (ob0_2 : List Row) (ob0_3 : List Pr) : Option (Int × Unit) :=
  cond ((ltI log3 (6 : Int))) (cond ((ltI ((shlI (1 : Int) (UInt64.toNat ((u64I log3))))) (↑ob0_2.length : Int))) (A_1000 ((wr (log3 + (1 : Int)))) ob0_0 ob0_1 ob0_2 ob0_3) (some ((log3, ())))) (some ((log3, ())))
theorem zkn : zf7 = zbc := by
  (repeat (apply funext; intro _))
  simp only [zf7, zbc, hide_eq, zae, zag, zah, zaf, zao, zap, zaL, zat]
def zcB (N n : Nat) (log3 ob0_0 ob0_1 : Int) (ob0_2 : List Row) (ob0_3 : List Pr) : Option (Int × Unit) :=
  zas (fun A x => zbc N (fun log3 ob0_0 ob0_1 ob0_2 ob0_3 => A (((), (log3, ())), ((ob0_0, (ob0_1, (ob0_2, (ob0_3, ())))), ()))) x.1.2.1 x.2.1.1 x.2.1.2.1 x.2.1.2.2.1 x.2.1.2.2.2.1) n (((), (log3, ())), ((ob0_0, (ob0_1, (ob0_2, (ob0_3, ())))), ()))
theorem zko : zf8 = zcB := by
  (repeat (apply funext; intro _))
  simp only [zf8, zcB, zkn, zae, zag, zah, zaf, zao, zap, zaL, zat]
theorem zaY (N n : Nat) (log3 ob0_0 ob0_1 : Int) (ob0_2 : List Row) (ob0_3 : List Pr) : zcB N (n + 1) log3 ob0_0 ob0_1 ob0_2 ob0_3 = zbc N (zcB N n) log3 ob0_0 ob0_1 ob0_2 ob0_3 := rfl
def q120 (N : Nat) (c0 v1 : Int) (v2 : List Row) (v3 : List Pr) : Option (Int × Unit) :=
  zcB N N (1 : Int) c0 v1 v2 v3
theorem zqZ : p120 = q120 := by
  (repeat (apply funext; intro _))
  simp only [p120, q120, zko, zae, zag, zah, zaf, zao, zap, zaL, zat]
def q112 (N : Nat) : Option (Bool × Unit) :=
  Option.bind (q113 N) fun rr0 => Option.bind (q114 N (Prod.fst (rr0.2.1)) (Prod.fst (Prod.snd (rr0.2.1))) (Prod.fst (Prod.snd (Prod.snd (rr0.2.1)))) (Prod.fst (Prod.snd (Prod.snd (Prod.snd (rr0.2.1))))) (Stp.mk (1 : Int) (0 : Int) (0 : Int) (0 : Int) (Fr.zero) (Fr.zero) (Fr.zero) (Fr.zero) (Fr.zero))) fun rr1 => Option.bind (q114 N (rr1.1.1) (Prod.fst (rr1.1.2)) (Prod.fst (Prod.snd (rr1.1.2))) (Prod.fst (Prod.snd (Prod.snd (rr1.1.2)))) (Stp.mk (1 : Int) (0 : Int) (0 : Int) (0 : Int) (Fr.zero) (Fr.zero) (Fr.zero) (Fr.zero) (Fr.zero))) fun rr2 => Option.bind (q114 N (rr2.1.1) (Prod.fst (rr2.1.2)) (Prod.fst (Prod.snd (rr2.1.2))) (Prod.fst (Prod.snd (Prod.snd (rr2.1.2)))) (Stp.mk (3 : Int) (0 : Int) (0 : Int) (0 : Int) (Fr.zero) (Fr.zero) (Fr.zero) (Fr.zero) (Fr.zero))) fun rr3 => Option.bind (q117 N (rr3.1.1) (Prod.fst (rr3.1.2)) (Prod.fst (Prod.snd (rr3.1.2))) (Prod.fst (Prod.snd (Prod.snd (rr3.1.2))))) fun rr4 => cond ((eqI (Prod.fst (rr1.2.2)) (0 : Int))) (cond ((eqI (rr1.2.1) (0 : Int))) (cond ((eqI (Prod.fst (rr2.2.2)) (0 : Int))) (cond ((eqI (rr2.2.1) (1 : Int))) (cond ((eqI (Prod.fst (rr3.2.2)) (0 : Int))) (cond ((eqI (Prod.fst (Prod.snd (rr4.2.1))) (2 : Int))) (cond ((eqI (↑(List.length (Prod.fst (Prod.snd (Prod.snd (rr4.2.1))))) : Int) (1 : Int))) (Option.bind (q120 N (Prod.fst (rr4.2.1)) (Prod.fst (Prod.snd (rr4.2.1))) (Prod.fst (Prod.snd (Prod.snd (rr4.2.1)))) (Prod.fst (Prod.snd (Prod.snd (Prod.snd (rr4.2.1)))))) fun rr5 => cond ((eqI rr5.1 (1 : Int))) (Option.bind (q119 N (Prod.fst (rr4.2.1)) (Prod.fst (Prod.snd (rr4.2.1))) (Prod.fst (Prod.snd (Prod.snd (rr4.2.1)))) (Prod.fst (Prod.snd (Prod.snd (Prod.snd (rr4.2.1)))))) fun rr6 => some (((eqI rr6.1 (0 : Int)), ()))) (some ((false, ())))) (some ((false, ())))) (some ((false, ())))) (some ((false, ())))) (some ((false, ())))) (some ((false, ())))) (some ((false, ())))) (some ((false, ())))
theorem zuA : p112 = q112 := by
  (repeat (apply funext; intro _))
  simp only [p112, q112, hide_eq, zqW, zqX, zqY, zqV, zqZ, zae, zag, zah, zaf, zao, zap, zaL, zat]
def zha (N : Nat) (A_9 : Int -> Int -> Int -> (List Row) -> (List Pr) -> Int -> Int -> (List Row) -> (List Pr) -> Option (Bool × Unit)) (i6 ob0_0 ob0_1 : Int) (ob0_2 : List Row) (ob0_3 : List Pr) (ob1_0 ob1_1 : Int) (ob1_2 : List Row) (ob1_3 : List Pr) : Option (Bool × Unit) :=
  cond ((ltI i6 (↑ob0_3.length : Int))) (must (leI (0 : Int) i6 && ltI i6 (↑ob0_3.length : Int)) (must (leI (0 : Int) i6 && ltI i6 (↑ob1_3.length : Int)) (cond (!eqL El.int [Pr.x (List.getD ob0_3 i6.toNat (Pr.mk (0 : Int) (0 : Int))), Pr.y (List.getD ob0_3 i6.toNat (Pr.mk (0 : Int) (0 : Int)))] [Pr.x (List.getD ob1_3 i6.toNat (Pr.mk (0 : Int) (0 : Int))), Pr.y (List.getD ob1_3 i6.toNat (Pr.mk (0 : Int) (0 : Int)))]) (some ((false, ()))) (A_9 ((wr (i6 + (1 : Int)))) ob0_0 ob0_1 ob0_2 ob0_3 ob1_0 ob1_1 ob1_2 ob1_3)))) (some ((true, ())))
theorem zp9 : zoe = zha := by
  (repeat (apply funext; intro _))
  simp only [zoe, zha, hide_eq, zae, zag, zah, zaf, zao, zap, zaL, zat]
def zhb (N n : Nat) (i6 ob0_0 ob0_1 : Int) (ob0_2 : List Row) (ob0_3 : List Pr) (ob1_0 ob1_1 : Int) (ob1_2 : List Row) (ob1_3 : List Pr) : Option (Bool × Unit) :=
  zas (fun A x => zha N (fun i6 ob0_0 ob0_1 ob0_2 ob0_3 ob1_0 ob1_1 ob1_2 ob1_3 => A (((), ((), (i6, ()))), ((ob0_0, (ob0_1, (ob0_2, (ob0_3, ())))), ((ob1_0, (ob1_1, (ob1_2, (ob1_3, ())))), ())))) x.1.2.2.1 x.2.1.1 x.2.1.2.1 x.2.1.2.2.1 x.2.1.2.2.2.1 x.2.2.1.1 x.2.2.1.2.1 x.2.2.1.2.2.1 x.2.2.1.2.2.2.1) n (((), ((), (i6, ()))), ((ob0_0, (ob0_1, (ob0_2, (ob0_3, ())))), ((ob1_0, (ob1_1, (ob1_2, (ob1_3, ())))), ())))
theorem zqa : zof = zhb := by
  (repeat (apply funext; intro _))
  simp only [zof, zhb, zp9, zae, zag, zah, zaf, zao, zap, zaL, zat]
theorem zgh (N n : Nat) (i6 ob0_0 ob0_1 : Int) (ob0_2 : List Row) (ob0_3 : List Pr) (ob1_0 ob1_1 : Int) (ob1_2 : List Row) (ob1_3 : List Pr) : zhb N (n + 1) i6 ob0_0 ob0_1 ob0_2 ob0_3 ob1_0 ob1_1 ob1_2 ob1_3 = zha N (zhb N n) i6 ob0_0 ob0_1 ob0_2 ob0_3 ob1_0 ob1_1 ob1_2 ob1_3 := rfl
def zhc (N : Nat) (A_4 : Int -> Int -> Int -> (List Row) -> (List Pr) -> Int -> Int -> (List Row) -> (List Pr) -> Option (Bool × Unit)) (i5 ob0_0 ob0_1 : Int) (ob0_2 : List Row) (ob0_3 : List Pr) (ob1_0 ob1_1 : Int) (ob1_2 : List Row) (ob1_3 : List Pr) : Option (Bool × Unit) :=
  cond ((ltI i5 (↑ob0_2.length : Int))) (must (leI (0 : Int) i5 && ltI i5 (↑ob0_2.length : Int)) (must (leI (0 : Int) i5 && ltI i5 (↑ob1_2.length : Int)) (cond (!(zaL (List.getD ob0_2 i5.toNat zrow) (List.getD ob1_2 i5.toNat zrow))) (some ((false, ()))) (A_4 ((wr (i5 + (1 : Int)))) ob0_0 ob0_1 ob0_2 ob0_3 ob1_0 ob1_1 ob1_2 ob1_3)))) (zhb N N (0 : Int) ob0_0 ob0_1 ob0_2 ob0_3 ob1_0 ob1_1 ob1_2 ob1_3)
theorem zqb : zog = zhc := by
  (repeat (apply funext; intro _))
  simp only [zog, zhc, hide_eq, zqa, zae, zag, zah, zaf, zao, zap, zaL, zat]
def zhd (N n : Nat) (i5 ob0_0 ob0_1 : Int) (ob0_2 : List Row) (ob0_3 : List Pr) (ob1_0 ob1_1 : Int) (ob1_2 : List Row) (ob1_3 : List Pr) : Option (Bool × Unit) :=
  zas (fun A x => zhc N (fun i5 ob0_0 ob0_1 ob0_2 ob0_3 ob1_0 ob1_1 ob1_2 ob1_3 => A (((), ((), (i5, ()))), ((ob0_0, (ob0_1, (ob0_2, (ob0_3, ())))), ((ob1_0, (ob1_1, (ob1_2, (ob1_3, ())))), ())))) x.1.2.2.1 x.2.1.1 x.2.1.2.1 x.2.1.2.2.1 x.2.1.2.2.2.1 x.2.2.1.1 x.2.2.1.2.1 x.2.2.1.2.2.1 x.2.2.1.2.2.2.1) n (((), ((), (i5, ()))), ((ob0_0, (ob0_1, (ob0_2, (ob0_3, ())))), ((ob1_0, (ob1_1, (ob1_2, (ob1_3, ())))), ())))
theorem zqc : zoh = zhd := by
  (repeat (apply funext; intro _))
  simp only [zoh, zhd, zqb, zae, zag, zah, zaf, zao, zap, zaL, zat]
theorem zgi (N n : Nat) (i5 ob0_0 ob0_1 : Int) (ob0_2 : List Row) (ob0_3 : List Pr) (ob1_0 ob1_1 : Int) (ob1_2 : List Row) (ob1_3 : List Pr) : zhd N (n + 1) i5 ob0_0 ob0_1 ob0_2 ob0_3 ob1_0 ob1_1 ob1_2 ob1_3 = zhc N (zhd N n) i5 ob0_0 ob0_1 ob0_2 ob0_3 ob1_0 ob1_1 ob1_2 ob1_3 := rfl
def q116 (N : Nat) (a0 b1 : Int) (v2 : List Row) (v3 : List Pr) (v4 v5 : Int) (v6 : List Row) (v7 : List Pr) : Option (Bool × Unit) :=
  cond (!eqI a0 v4) (some ((false, ()))) (cond (!eqI b1 v5) (some ((false, ()))) (cond (!eqI (↑v2.length : Int) (↑v6.length : Int)) (some ((false, ()))) (cond (!eqI (↑v3.length : Int) (↑v7.length : Int)) (some ((false, ()))) (zhd N N (0 : Int) a0 b1 v2 v3 v4 v5 v6 v7))))
theorem zuB : p116 = q116 := by
  (repeat (apply funext; intro _))
  simp only [p116, q116, hide_eq, zqc, zae, zag, zah, zaf, zao, zap, zaL, zat]
end
section
def zcn (N : Nat) (A_10 : Int -> Int -> Stp -> (List Bool) -> Option (Int × Unit)) (vars1 i7 : Int) (ob0 : Stp) (ob1 : List Bool) : Option (Int × Unit) :=
  cond ((ltI i7 (3 : Int))) (must (leI (0 : Int) i7 && ltI i7 (↑(3 : Nat) : Int)) (cond (List.getD ob1 i7.toNat false) (cond (eqI i7 (↑(0 : Nat) : Int)) (must (eqI i7 (↑(0 : Nat) : Int)) (cond ((leI vars1 ob0.v0)) (some (((10 : Int), ()))) (cond ((ltI ob0.v0 (0 : Int))) (cond (!eqI ob0.kind (2 : Int)) (some (((10 : Int), ()))) (A_10 vars1 ((wr ((↑(0 : Nat) : Int) + (1 : Int)))) (ob0) ob1)) (A_10 vars1 ((wr ((↑(0 : Nat) : Int) + (1 : Int)))) (ob0) ob1)))) (cond (eqI i7 (↑((0 : Nat) + (1 : Nat)) : Int)) (must (eqI i7 (↑((0 : Nat) + (1 : Nat)) : Int)) (cond ((leI vars1 ob0.v1)) (some (((10 : Int), ()))) (cond ((ltI ob0.v1 (0 : Int))) (cond (!eqI ob0.kind (2 : Int)) (some (((10 : Int), ()))) (A_10 vars1 ((wr ((↑((0 : Nat) + (1 : Nat)) : Int) + (1 : Int)))) (ob0) ob1)) (A_10 vars1 ((wr ((↑((0 : Nat) + (1 : Nat)) : Int) + (1 : Int)))) (ob0) ob1)))) (must (eqI i7 (↑((0 : Nat) + (1 : Nat) + (1 : Nat)) : Int)) (must (eqI i7 (↑((0 : Nat) + (1 : Nat) + (1 : Nat)) : Int)) (cond ((leI vars1 ob0.v2)) (some (((10 : Int), ()))) (cond ((ltI ob0.v2 (0 : Int))) (cond (!eqI ob0.kind (2 : Int)) (some (((10 : Int), ()))) (A_10 vars1 ((wr ((↑((0 : Nat) + (1 : Nat) + (1 : Nat)) : Int) + (1 : Int)))) (ob0) ob1)) (A_10 vars1 ((wr ((↑((0 : Nat) + (1 : Nat) + (1 : Nat)) : Int) + (1 : Int)))) (ob0) ob1))))))) (A_10 vars1 ((wr (i7 + (1 : Int)))) (ob0) ob1))) (some (((0 : Int), ())))
theorem zoC : zki = zcn := by
  (repeat (apply funext; intro _))
  simp only [zki, zcn, hide_eq, zae, zag, zah, zaf, zao, zap, zaL, zat]
def zbi (N n : Nat) (vars1 i7 : Int) (ob0 : Stp) (ob1 : List Bool) : Option (Int × Unit) :=
  zas (fun A x => zcn N (fun vars1 i7 ob0 ob1 => A ((vars1, ((), ((), (i7, ())))), (ob0, (ob1, ())))) x.1.1 x.1.2.2.2.1 x.2.1 x.2.2.1) n ((vars1, ((), ((), (i7, ())))), (ob0, (ob1, ())))
theorem zoD : zeG = zbi := by
  (repeat (apply funext; intro _))
  simp only [zeG, zbi, zoC, zae, zag, zah, zaf, zao, zap, zaL, zat]
theorem zcj (N n : Nat) (vars1 i7 : Int) (ob0 : Stp) (ob1 : List Bool) : zbi N (n + 1) vars1 i7 ob0 ob1 = zcn N (zbi N n) vars1 i7 ob0 ob1 := rfl
def zaN (N : Nat) (A_4 : Int -> Int -> Stp -> Option (Int × Unit)) (vars1 i5 : Int) (ob0 : Stp) : Option (Int × Unit) :=
  cond ((ltI i5 (5 : Int))) (cond (eqI i5 (↑(0 : Nat) : Int)) (must (eqI i5 (↑(0 : Nat) : Int)) (Option.bind (q69 N (ob0.q0)) fun rr4 => cond (!rr4.1) (some (((4 : Int), ()))) (A_4 vars1 ((wr ((↑(0 : Nat) : Int) + (1 : Int)))) (ob0)))) (cond (eqI i5 (↑((0 : Nat) + (1 : Nat)) : Int)) (must (eqI i5 (↑((0 : Nat) + (1 : Nat)) : Int)) (Option.bind (q69 N (ob0.q1)) fun rr3 => cond (!rr3.1) (some (((4 : Int), ()))) (A_4 vars1 ((wr ((↑((0 : Nat) + (1 : Nat)) : Int) + (1 : Int)))) (ob0)))) (cond (eqI i5 (↑((0 : Nat) + (1 : Nat) + (1 : Nat)) : Int)) (must (eqI i5 (↑((0 : Nat) + (1 : Nat) + (1 : Nat)) : Int)) (Option.bind (q69 N (ob0.q2)) fun rr2 => cond (!rr2.1) (some (((4 : Int), ()))) (A_4 vars1 ((wr ((↑((0 : Nat) + (1 : Nat) + (1 : Nat)) : Int) + (1 : Int)))) (ob0)))) (cond (eqI i5 (↑((0 : Nat) + (1 : Nat) + (1 : Nat) + (1 : Nat)) : Int)) (must (eqI i5 (↑((0 : Nat) + (1 : Nat) + (1 : Nat) + (1 : Nat)) : Int)) (Option.bind (q69 N (ob0.q3)) fun rr1 => cond (!rr1.1) (some (((4 : Int), ()))) (A_4 vars1 ((wr ((↑((0 : Nat) + (1 : Nat) + (1 : Nat) + (1 : Nat)) : Int) + (1 : Int)))) (ob0)))) (must (eqI i5 (↑((0 : Nat) + (1 : Nat) + (1 : Nat) + (1 : Nat) + (1 : Nat)) : Int)) (must (eqI i5 (↑((0 : Nat) + (1 : Nat) + (1 : Nat) + (1 : Nat) + (1 : Nat)) : Int)) (Option.bind (q69 N (ob0.q4)) fun rr0 => cond (!rr0.1) (some (((4 : Int), ()))) (A_4 vars1 ((wr ((↑((0 : Nat) + (1 : Nat) + (1 : Nat) + (1 : Nat) + (1 : Nat)) : Int) + (1 : Int)))) (ob0))))))))) (cond ((eqI ob0.kind (2 : Int))) (cond ((eqI ob0.kind (2 : Int))) (zbi N N vars1 (0 : Int) (ob0) ([(ltI (1 : Int) ob0.kind), true, true])) (cond ((eqI ob0.kind (4 : Int))) (zbi N N vars1 (0 : Int) (ob0) ([(ltI (1 : Int) ob0.kind), true, true])) (zbi N N vars1 (0 : Int) (ob0) ([(ltI (1 : Int) ob0.kind), true, (eqI ob0.kind (5 : Int))])))) (cond ((eqI ob0.kind (5 : Int))) (cond ((eqI ob0.kind (2 : Int))) (zbi N N vars1 (0 : Int) (ob0) ([(ltI (1 : Int) ob0.kind), true, true])) (cond ((eqI ob0.kind (4 : Int))) (zbi N N vars1 (0 : Int) (ob0) ([(ltI (1 : Int) ob0.kind), true, true])) (zbi N N vars1 (0 : Int) (ob0) ([(ltI (1 : Int) ob0.kind), true, (eqI ob0.kind (5 : Int))])))) (cond ((eqI ob0.kind (2 : Int))) (zbi N N vars1 (0 : Int) (ob0) ([(ltI (1 : Int) ob0.kind), (eqI ob0.kind (6 : Int)), true])) (cond ((eqI ob0.kind (4 : Int))) (zbi N N vars1 (0 : Int) (ob0) ([(ltI (1 : Int) ob0.kind), (eqI ob0.kind (6 : Int)), true])) (zbi N N vars1 (0 : Int) (ob0) ([(ltI (1 : Int) ob0.kind), (eqI ob0.kind (6 : Int)), (eqI ob0.kind (5 : Int))]))))))
theorem zqd : zol = zaN := by
  (repeat (apply funext; intro _))
  simp only [zol, zaN, hide_eq, zoD, zxc, zae, zag, zah, zaf, zao, zap, zaL, zat]
def zek (N n : Nat) (vars1 i5 : Int) (ob0 : Stp) : Option (Int × Unit) :=
  zas (fun A x => zaN N (fun vars1 i5 ob0 => A ((vars1, ((), (i5, ()))), (ob0, ()))) x.1.1 x.1.2.2.1 x.2.1) n ((vars1, ((), (i5, ()))), (ob0, ()))
theorem zqe : zom = zek := by
  (repeat (apply funext; intro _))
  simp only [zom, zek, zqd, zae, zag, zah, zaf, zao, zap, zaL, zat]
theorem zbK (N n : Nat) (vars1 i5 : Int) (ob0 : Stp) : zek N (n + 1) vars1 i5 ob0 = zaN N (zek N n) vars1 i5 ob0 := rfl
def q196 (N : Nat) (s0 : Stp) (vars1 : Int) : Option (Int × Unit) :=
  cond ((ltI s0.kind (1 : Int))) (some (((11 : Int), ()))) (cond ((ltI (7 : Int) s0.kind)) (some (((11 : Int), ()))) (zek N N vars1 (0 : Int) (s0)))
theorem zuC : p196 = q196 := by
  (repeat (apply funext; intro _))
  simp only [p196, q196, hide_eq, zqe, zae, zag, zah, zaf, zao, zap, zaL, zat]
def q115 (N : Nat) (b0 : Int) (s1 v2 : List Row) (v3 : List Pr) (v4 : Stp) : Option ((Int × List Row × List Row × List Pr × Unit) × Int × Int × Unit) :=
  Option.bind (q196 N (v4) b0) fun rr0 => cond (!eqI rr0.1 (0 : Int)) (some (((b0, s1, v2, v3, ()), (0 : Int), Prod.fst rr0, ()))) (Option.bind (q197 N (v4)) fun rr1 => cond ((ltI (64 : Int) ((wr ((wr ((↑s1.length : Int) + (↑v2.length : Int))) + (↑rr1.1.length : Int)))))) (some (((b0, s1, v2, v3, ()), (0 : Int), (8 : Int), ()))) (cond ((eqI v4.kind (1 : Int))) (cond ((leI (200 : Int) b0)) (some (((b0, s1, v2, v3, ()), (0 : Int), (8 : Int), ()))) (some ((((wr (b0 + (1 : Int))), s1, v2, v3, ()), (wr ((wr (b0 + (1 : Int))) - (1 : Int))), (0 : Int), ())))) (cond ((eqI v4.kind (6 : Int))) (cond ((leI (200 : Int) (↑v3.length : Int))) (some (((b0, s1, v2, v3, ()), (0 : Int), (8 : Int), ()))) (must (leN (((0 : Nat) + List.length v3) * (16 : Nat)) (140737488355328 : Nat)) (must (leN ((List.length v3 + List.length [Pr.mk v4.v0 v4.v1]) * (16 : Nat)) (140737488355328 : Nat)) (some (((b0, s1, v2, v3 ++ [Pr.mk v4.v0 v4.v1], ()), (0 : Int), (0 : Int), ())))))) (cond ((eqI v4.kind (7 : Int))) (cond ((leI (8 : Int) (↑s1.length : Int))) (some (((b0, s1, v2, v3, ()), (0 : Int), (8 : Int), ()))) (must (leN (((0 : Nat) + List.length s1) * (280 : Nat)) (140737488355328 : Nat)) (must (leN ((List.length s1 + List.length rr1.1) * (280 : Nat)) (140737488355328 : Nat)) (some (((b0, s1 ++ Prod.fst rr1, v2, v3, ()), (0 : Int), (0 : Int), ())))))) (must (leN (((0 : Nat) + List.length v2) * (280 : Nat)) (140737488355328 : Nat)) (must (leN ((List.length v2 + List.length rr1.1) * (280 : Nat)) (140737488355328 : Nat)) (some (((b0, s1, v2 ++ Prod.fst rr1, v3, ()), (0 : Int), (0 : Int), ())))))))))
theorem zuD : p115 = q115 := by
  (repeat (apply funext; intro _))
  simp only [p115, q115, hide_eq, zuC, zuz, zae, zag, zah, zaf, zao, zap, zaL, zat]
def zdy (N : Nat) (A_2 : Int -> Int -> Int -> (List Row) -> (List Pr) -> Option (Int × Unit)) (k3 ob0_0 ob0_1 : Int) (ob0_2 : List Row) (ob0_3 : List Pr) : Option (Int × Unit) :=
  cond ((ltI k3 (6 : Int))) (must (leI (0 : Int) k3) (must (ltI k3 (18446744073709551616 : Int)) (cond ((ltI ((shlI (1 : Int) (UInt64.toNat (UInt64.ofNat k3.toNat)))) (↑ob0_2.length : Int))) (A_2 ((wr (k3 + (1 : Int)))) ob0_0 ob0_1 ob0_2 ob0_3) (some ((k3, ())))))) (some ((k3, ())))
theorem zqf : zop = zdy := by
  (repeat (apply funext; intro _))
  simp only [zop, zdy, hide_eq, zae, zag, zah, zaf, zao, zap, zaL, zat]
def zhe (N n : Nat) (k3 ob0_0 ob0_1 : Int) (ob0_2 : List Row) (ob0_3 : List Pr) : Option (Int × Unit) :=
  zas (fun A x => zdy N (fun k3 ob0_0 ob0_1 ob0_2 ob0_3 => A (((), (k3, ())), ((ob0_0, (ob0_1, (ob0_2, (ob0_3, ())))), ()))) x.1.2.1 x.2.1.1 x.2.1.2.1 x.2.1.2.2.1 x.2.1.2.2.2.1) n (((), (k3, ())), ((ob0_0, (ob0_1, (ob0_2, (ob0_3, ())))), ()))
theorem zqg : zoq = zhe := by
  (repeat (apply funext; intro _))
  simp only [zoq, zhe, zqf, zae, zag, zah, zaf, zao, zap, zaL, zat]
theorem zbL (N n : Nat) (k3 ob0_0 ob0_1 : Int) (ob0_2 : List Row) (ob0_3 : List Pr) : zhe N (n + 1) k3 ob0_0 ob0_1 ob0_2 ob0_3 = zdy N (zhe N n) k3 ob0_0 ob0_1 ob0_2 ob0_3 := rfl
def q121 (N : Nat) (c0 v1 : Int) (v2 : List Row) (v3 : List Pr) : Option (Int × Unit) :=
  zhe N N (1 : Int) c0 v1 v2 v3
theorem zuE : p121 = q121 := by
  (repeat (apply funext; intro _))
  simp only [p121, q121, zqg, zae, zag, zah, zaf, zao, zap, zaL, zat]
end
section
def zdo (N : Nat) (b0 : Int) (v1 v2 : List Row) (v3 : List Pr) : Option (((Int × List Row × List Row × Unit) × Nat) × (Int × Int × List Row × List Pr × Unit) × Unit) :=
  must (leN (((0 : Nat) + List.length v1) * (280 : Nat)) (140737488355328 : Nat)) (must (leN ((List.length v1 + List.length v2) * (280 : Nat)) (140737488355328 : Nat)) (some ((((b0, v1, v2, ()), List.length v3), ((↑v1.length : Int), b0, v1 ++ v2, v3, ()), ()))))
theorem zmh : zfk = zdo := by
  (repeat (apply funext; intro _))
  simp only [zfk, zdo, zae, zag, zah, zaf, zao, zap, zaL, zat]
def zkp (N : Nat) (A_7 : (List Stp) -> Int -> Int -> Int -> (List Row) -> (List Row) -> (List Pr) -> (List Row) -> (List Row) -> (List Pr) -> Option (Bool × Unit)) (l0 : List Stp) (i5 ob0_0 ob1_0 : Int) (ob2 ob3 : List Row) (ob4 : List Pr) (ob5 ob6 : List Row) (ob7 : List Pr) : Option (Bool × Unit) :=
  cond ((ltI i5 (↑l0.length : Int))) (must (leI (0 : Int) i5 && ltI i5 (↑l0.length : Int)) (Option.bind (q114 N ob0_0 ob2 ob3 ob4 (Stp.mk (Stp.kind (List.getD l0 i5.toNat (Stp.mk (0 : Int) (0 : Int) (0 : Int) (0 : Int) (Fr.zero) (Fr.zero) (Fr.zero) (Fr.zero) (Fr.zero)))) (Stp.v0 (List.getD l0 i5.toNat (Stp.mk (0 : Int) (0 : Int) (0 : Int) (0 : Int) (Fr.zero) (Fr.zero) (Fr.zero) (Fr.zero) (Fr.zero)))) (Stp.v1 (List.getD l0 i5.toNat (Stp.mk (0 : Int) (0 : Int) (0 : Int) (0 : Int) (Fr.zero) (Fr.zero) (Fr.zero) (Fr.zero) (Fr.zero)))) (Stp.v2 (List.getD l0 i5.toNat (Stp.mk (0 : Int) (0 : Int) (0 : Int) (0 : Int) (Fr.zero) (Fr.zero) (Fr.zero) (Fr.zero) (Fr.zero)))) (Fr.mk (Fr.a0 (Stp.q0 (List.getD l0 i5.toNat (Stp.mk (0 : Int) (0 : Int) (0 : Int) (0 : Int) (Fr.zero) (Fr.zero) (Fr.zero) (Fr.zero) (Fr.zero))))) (Fr.a1 (Stp.q0 (List.getD l0 i5.toNat (Stp.mk (0 : Int) (0 : Int) (0 : Int) (0 : Int) (Fr.zero) (Fr.zero) (Fr.zero) (Fr.zero) (Fr.zero))))) (Fr.a2 (Stp.q0 (List.getD l0 i5.toNat (Stp.mk (0 : Int) (0 : Int) (0 : Int) (0 : Int) (Fr.zero) (Fr.zero) (Fr.zero) (Fr.zero) (Fr.zero))))) (Fr.a3 (Stp.q0 (List.getD l0 i5.toNat (Stp.mk (0 : Int) (0 : Int) (0 : Int) (0 : Int) (Fr.zero) (Fr.zero) (Fr.zero) (Fr.zero) (Fr.zero)))))) (Fr.mk (Fr.a0 (Stp.q1 (List.getD l0 i5.toNat (Stp.mk (0 : Int) (0 : Int) (0 : Int) (0 : Int) (Fr.zero) (Fr.zero) (Fr.zero) (Fr.zero) (Fr.zero))))) (Fr.a1 (Stp.q1 (List.getD l0 i5.toNat (Stp.mk (0 : Int) (0 : Int) (0 : Int) (0 : Int) (Fr.zero) (Fr.zero) (Fr.zero) (Fr.zero) (Fr.zero))))) (Fr.a2 (Stp.q1 (List.getD l0 i5.toNat (Stp.mk (0 : Int) (0 : Int) (0 : Int) (0 : Int) (Fr.zero) (Fr.zero) (Fr.zero) (Fr.zero) (Fr.zero))))) (Fr.a3 (Stp.q1 (List.getD l0 i5.toNat (Stp.mk (0 : Int) (0 : Int) (0 : Int) (0 : Int) (Fr.zero) (Fr.zero) (Fr.zero) (Fr.zero) (Fr.zero)))))) (Fr.mk (Fr.a0 (Stp.q2 (List.getD l0 i5.toNat (Stp.mk (0 : Int) (0 : Int) (0 : Int) (0 : Int) (Fr.zero) (Fr.zero) (Fr.zero) (Fr.zero) (Fr.zero))))) (Fr.a1 (Stp.q2 (List.getD l0 i5.toNat (Stp.mk (0 : Int) (0 : Int) (0 : Int) (0 : Int) (Fr.zero) (Fr.zero) (Fr.zero) (Fr.zero) (Fr.zero))))) (Fr.a2 (Stp.q2 (List.getD l0 i5.toNat (Stp.mk (0 : Int) (0 : Int) (0 : Int) (0 : Int) (Fr.zero) (Fr.zero) (Fr.zero) (Fr.zero) (Fr.zero))))) (Fr.a3 (Stp.q2 (List.getD l0 i5.toNat (Stp.mk (0 : Int) (0 : Int) (0 : Int) (0 : Int) (Fr.zero) (Fr.zero) (Fr.zero) (Fr.zero) (Fr.zero)))))) (Fr.mk (Fr.a0 (Stp.q3 (List.getD l0 i5.toNat (Stp.mk (0 : Int) (0 : Int) (0 : Int) (0 : Int) (Fr.zero) (Fr.zero) (Fr.zero) (Fr.zero) (Fr.zero))))) (Fr.a1 (Stp.q3 (List.getD l0 i5.toNat (Stp.mk (0 : Int) (0 : Int) (0 : Int) (0 : Int) (Fr.zero) (Fr.zero) (Fr.zero) (Fr.zero) (Fr.zero))))) (Fr.a2 (Stp.q3 (List.getD l0 i5.toNat (Stp.mk (0 : Int) (0 : Int) (0 : Int) (0 : Int) (Fr.zero) (Fr.zero) (Fr.zero) (Fr.zero) (Fr.zero))))) (Fr.a3 (Stp.q3 (List.getD l0 i5.toNat (Stp.mk (0 : Int) (0 : Int) (0 : Int) (0 : Int) (Fr.zero) (Fr.zero) (Fr.zero) (Fr.zero) (Fr.zero)))))) (Fr.mk (Fr.a0 (Stp.q4 (List.getD l0 i5.toNat (Stp.mk (0 : Int) (0 : Int) (0 : Int) (0 : Int) (Fr.zero) (Fr.zero) (Fr.zero) (Fr.zero) (Fr.zero))))) (Fr.a1 (Stp.q4 (List.getD l0 i5.toNat (Stp.mk (0 : Int) (0 : Int) (0 : Int) (0 : Int) (Fr.zero) (Fr.zero) (Fr.zero) (Fr.zero) (Fr.zero))))) (Fr.a2 (Stp.q4 (List.getD l0 i5.toNat (Stp.mk (0 : Int) (0 : Int) (0 : Int) (0 : Int) (Fr.zero) (Fr.zero) (Fr.zero) (Fr.zero) (Fr.zero))))) (Fr.a3 (Stp.q4 (List.getD l0 i5.toNat (Stp.mk (0 : Int) (0 : Int) (0 : Int) (0 : Int) (Fr.zero) (Fr.zero) (Fr.zero) (Fr.zero) (Fr.zero)))))))) fun rr8 => must (leI (0 : Int) i5 && ltI i5 (↑l0.length : Int)) (Option.bind (q115 N ob1_0 ob5 ob6 ob7 (Stp.mk (Stp.kind (List.getD l0 i5.toNat (Stp.mk (0 : Int) (0 : Int) (0 : Int) (0 : Int) (Fr.zero) (Fr.zero) (Fr.zero) (Fr.zero) (Fr.zero)))) (Stp.v0 (List.getD l0 i5.toNat (Stp.mk (0 : Int) (0 : Int) (0 : Int) (0 : Int) (Fr.zero) (Fr.zero) (Fr.zero) (Fr.zero) (Fr.zero)))) (Stp.v1 (List.getD l0 i5.toNat (Stp.mk (0 : Int) (0 : Int) (0 : Int) (0 : Int) (Fr.zero) (Fr.zero) (Fr.zero) (Fr.zero) (Fr.zero)))) (Stp.v2 (List.getD l0 i5.toNat (Stp.mk (0 : Int) (0 : Int) (0 : Int) (0 : Int) (Fr.zero) (Fr.zero) (Fr.zero) (Fr.zero) (Fr.zero)))) (Fr.mk (Fr.a0 (Stp.q0 (List.getD l0 i5.toNat (Stp.mk (0 : Int) (0 : Int) (0 : Int) (0 : Int) (Fr.zero) (Fr.zero) (Fr.zero) (Fr.zero) (Fr.zero))))) (Fr.a1 (Stp.q0 (List.getD l0 i5.toNat (Stp.mk (0 : Int) (0 : Int) (0 : Int) (0 : Int) (Fr.zero) (Fr.zero) (Fr.zero) (Fr.zero) (Fr.zero))))) (Fr.a2 (Stp.q0 (List.getD l0 i5.toNat (Stp.mk (0 : Int) (0 : Int) (0 : Int) (0 : Int) (Fr.zero) (Fr.zero) (Fr.zero) (Fr.zero) (Fr.zero))))) (Fr.a3 (Stp.q0 (List.getD l0 i5.toNat (Stp.mk (0 : Int) (0 : Int) (0 : Int) (0 : Int) (Fr.zero) (Fr.zero) (Fr.zero) (Fr.zero) (Fr.zero)))))) (Fr.mk (Fr.a0 (Stp.q1 (List.getD l0 i5.toNat (Stp.mk (0 : Int) (0 : Int) (0 : Int) (0 : Int) (Fr.zero) (Fr.zero) (Fr.zero) (Fr.zero) (Fr.zero))))) (Fr.a1 (Stp.q1 (List.getD l0 i5.toNat (Stp.mk (0 : Int) (0 : Int) (0 : Int) (0 : Int) (Fr.zero) (Fr.zero) (Fr.zero) (Fr.zero) (Fr.zero))))) (Fr.a2 (Stp.q1 (List.getD l0 i5.toNat (Stp.mk (0 : Int) (0 : Int) (0 : Int) (0 : Int) (Fr.zero) (Fr.zero) (Fr.zero) (Fr.zero) (Fr.zero))))) (Fr.a3 (Stp.q1 (List.getD l0 i5.toNat (Stp.mk (0 : Int) (0 : Int) (0 : Int) (0 : Int) (Fr.zero) (Fr.zero) (Fr.zero) (Fr.zero) (Fr.zero)))))) (Fr.mk (Fr.a0 (Stp.q2 (List.getD l0 i5.toNat (Stp.mk (0 : Int) (0 : Int) (0 : Int) (0 : Int) (Fr.zero) (Fr.zero) (Fr.zero) (Fr.zero) (Fr.zero))))) (Fr.a1 (Stp.q2 (List.getD l0 i5.toNat (Stp.mk (0 : Int) (0 : Int) (0 : Int) (0 : Int) (Fr.zero) (Fr.zero) (Fr.zero) (Fr.zero) (Fr.zero))))) (Fr.a2 (Stp.q2 (List.getD l0 i5.toNat (Stp.mk (0 : Int) (0 : Int) (0 : Int) (0 : Int) (Fr.zero) (Fr.zero) (Fr.zero) (Fr.zero) (Fr.zero))))) (Fr.a3 (Stp.q2 (List.getD l0 i5.toNat (Stp.mk (0 : Int) (0 : Int) (0 : Int) (0 : Int) (Fr.zero) (Fr.zero) (Fr.zero) (Fr.zero) (Fr.zero)))))) (Fr.mk (Fr.a0 (Stp.q3 (List.getD l0 i5.toNat (Stp.mk (0 : Int) (0 : Int) (0 : Int) (0 : Int) (Fr.zero) (Fr.zero) (Fr.zero) (Fr.zero) (Fr.zero))))) (Fr.a1 (Stp.q3 (List.getD l0 i5.toNat (Stp.mk (0 : Int) (0 : Int) (0 : Int) (0 : Int) (Fr.zero) (Fr.zero) (Fr.zero) (Fr.zero) (Fr.zero))))) (Fr.a2 (Stp.q3 (List.getD l0 i5.toNat (Stp.mk (0 : Int) (0 : Int) (0 : Int) (0 : Int) (Fr.zero) (Fr.zero) (Fr.zero) (Fr.zero) (Fr.zero))))) (Fr.a3 (Stp.q3 (List.getD l0 i5.toNat (Stp.mk (0 : Int) (0 : Int) (0 : Int) (0 : Int) (Fr.zero) (Fr.zero) (Fr.zero) (Fr.zero) (Fr.zero)))))) (Fr.mk (Fr.a0 (Stp.q4 (List.getD l0 i5.toNat (Stp.mk (0 : Int) (0 : Int) (0 : Int) (0 : Int) (Fr.zero) (Fr.zero) (Fr.zero) (Fr.zero) (Fr.zero))))) (Fr.a1 (Stp.q4 (List.getD l0 i5.toNat (Stp.mk (0 : Int) (0 : Int) (0 : Int) (0 : Int) (Fr.zero) (Fr.zero) (Fr.zero) (Fr.zero) (Fr.zero))))) (Fr.a2 (Stp.q4 (List.getD l0 i5.toNat (Stp.mk (0 : Int) (0 : Int) (0 : Int) (0 : Int) (Fr.zero) (Fr.zero) (Fr.zero) (Fr.zero) (Fr.zero))))) (Fr.a3 (Stp.q4 (List.getD l0 i5.toNat (Stp.mk (0 : Int) (0 : Int) (0 : Int) (0 : Int) (Fr.zero) (Fr.zero) (Fr.zero) (Fr.zero) (Fr.zero)))))))) fun rr9 => cond (!eqI (rr8.2.1) (rr9.2.1)) (some ((false, ()))) (cond (!eqI (Prod.fst (rr8.2.2)) (Prod.fst (rr9.2.2))) (some ((false, ()))) (Option.bind (q117 N (rr8.1.1) (Prod.fst (rr8.1.2)) (Prod.fst (Prod.snd (rr8.1.2))) (Prod.fst (Prod.snd (Prod.snd (rr8.1.2))))) fun rr10 => Option.bind (zdo N (rr9.1.1) (Prod.fst (rr9.1.2)) (Prod.fst (Prod.snd (rr9.1.2))) (Prod.fst (Prod.snd (Prod.snd (rr9.1.2))))) fun rr11 => Option.bind (q116 N (Prod.fst (rr10.2.1)) (Prod.fst (Prod.snd (rr10.2.1))) (Prod.fst (Prod.snd (Prod.snd (rr10.2.1)))) (Prod.fst (Prod.snd (Prod.snd (Prod.snd (rr10.2.1))))) (Prod.fst (rr11.2.1)) (Prod.fst (Prod.snd (rr11.2.1))) (Prod.fst (Prod.snd (Prod.snd (rr11.2.1)))) (Prod.fst (Prod.snd (Prod.snd (Prod.snd (rr11.2.1)))))) fun rr12 => cond (!rr12.1) (some ((false, ()))) (A_7 l0 ((wr (i5 + (1 : Int)))) (rr10.1.1) (Prod.fst (rr11.1.1)) (Prod.fst (rr10.1.2)) (Prod.fst (Prod.snd (rr10.1.2))) (Prod.fst (Prod.snd (Prod.snd (rr10.1.2)))) (Prod.fst (Prod.snd (rr11.1.1))) (Prod.fst (Prod.snd (Prod.snd (rr11.1.1)))) (Prod.fst (Prod.snd (Prod.snd (Prod.snd (rr11.2.1))))))))))) (Option.bind (q117 N ob0_0 ob2 ob3 ob4) fun rr0 => Option.bind (zei N (Stp.mk (1 : Int) (0 : Int) (0 : Int) (0 : Int) (Fr.zero) (Fr.zero) (Fr.zero) (Fr.zero) (Fr.zero))) fun rr1 => Option.bind (q114 N (0 : Int) [] [] [] (Stp.mk (1 : Int) (0 : Int) (0 : Int) (0 : Int) (Fr.zero) (Fr.zero) (Fr.zero) (Fr.zero) (Fr.zero))) fun rr2 => Option.bind (q119 N (Prod.fst (rr0.2.1)) (Prod.fst (Prod.snd (rr0.2.1))) (Prod.fst (Prod.snd (Prod.snd (rr0.2.1)))) (Prod.fst (Prod.snd (Prod.snd (Prod.snd (rr0.2.1)))))) fun rr3 => cond ((eqI rr3.1 (0 : Int))) (Option.bind (q120 N (Prod.fst (rr0.2.1)) (Prod.fst (Prod.snd (rr0.2.1))) (Prod.fst (Prod.snd (Prod.snd (rr0.2.1)))) (Prod.fst (Prod.snd (Prod.snd (Prod.snd (rr0.2.1)))))) fun rr4 => Option.bind (q121 N (Prod.fst (rr0.2.1)) (Prod.fst (Prod.snd (rr0.2.1))) (Prod.fst (Prod.snd (Prod.snd (rr0.2.1)))) (Prod.fst (Prod.snd (Prod.snd (Prod.snd (rr0.2.1)))))) fun rr5 => cond ((eqI rr4.1 rr5.1)) (cond ((eqI (rr1.2.1) (1 : Int))) (Option.bind (zej N) fun rr6 => Option.bind (q116 N (rr6.1.1) (Prod.fst (rr6.1.2)) (Prod.fst (Prod.snd (rr6.1.2))) (Prod.fst (Prod.snd (Prod.snd (rr6.1.2)))) (0 : Int) (0 : Int) [] []) fun rr7 => cond rr7.1 (cond ((eqI (rr2.2.1) (0 : Int))) (some (((eqI (Prod.fst (rr2.2.2)) (0 : Int)), ()))) (some ((false, ())))) (some ((false, ())))) (some ((false, ())))) (some ((false, ())))) (some ((false, ()))))
theorem zsm : zsc = zkp := by
  (repeat (apply funext; intro _))
  simp only [zsc, zkp, hide_eq, zmf, zmg, zqX, zuD, zuB, zqY, zqV, zqZ, zuE, zmh, zae, zag, zah, zaf, zao, zap, zaL, zat]
def zmi (N n : Nat) (l0 : List Stp) (i5 ob0_0 ob1_0 : Int) (ob2 ob3 : List Row) (ob4 : List Pr) (ob5 ob6 : List Row) (ob7 : List Pr) : Option (Bool × Unit) :=
  zas (fun A x => zkp N (fun l0 i5 ob0_0 ob1_0 ob2 ob3 ob4 ob5 ob6 ob7 => A ((l0, ((), ((), (i5, ())))), ((ob0_0, ((), ((), ((), ())))), ((ob1_0, ((), ((), ((), ())))), (ob2, (ob3, (ob4, (ob5, (ob6, (ob7, ())))))))))) x.1.1 x.1.2.2.2.1 x.2.1.1 x.2.2.1.1 x.2.2.2.1 x.2.2.2.2.1 x.2.2.2.2.2.1 x.2.2.2.2.2.2.1 x.2.2.2.2.2.2.2.1 x.2.2.2.2.2.2.2.2.1) n ((l0, ((), ((), (i5, ())))), ((ob0_0, ((), ((), ((), ())))), ((ob1_0, ((), ((), ((), ())))), (ob2, (ob3, (ob4, (ob5, (ob6, (ob7, ())))))))))
theorem zsn : zsd = zmi := by
  (repeat (apply funext; intro _))
  simp only [zsd, zmi, zsm, zae, zag, zah, zaf, zao, zap, zaL, zat]
def q27 (N : Nat) (l0 : List Stp) : Option (Bool × Unit) :=
  Option.bind (q112 N) fun rr0 => cond (!rr0.1) (some ((false, ()))) (cond ((ltI (90 : Int) (↑l0.length : Int))) (some ((true, ()))) (Option.bind (q113 N) fun rr1 => zmi N N l0 (0 : Int) (Prod.fst (rr1.2.1)) (0 : Int) (Prod.fst (Prod.snd (rr1.2.1))) (Prod.fst (Prod.snd (Prod.snd (rr1.2.1)))) (Prod.fst (Prod.snd (Prod.snd (Prod.snd (rr1.2.1))))) [] [] []))
theorem zxg : p27 = q27 := by
  (repeat (apply funext; intro _))
  simp only [p27, q27, hide_eq, zsn, zuA, zqW, zae, zag, zah, zaf, zao, zap, zaL, zat]
end
section
def zcC (w : Int) : Row := Row.mk Fr.zero ⟨1, 0, 0, 0⟩ Fr.zero Fr.zero Fr.zero Fr.zero Fr.zero Fr.zero w (-1) (-1)
theorem zqh (N : Nat) (w : Int) : q108 N (Stp.mk 7 w 0 0 Fr.zero Fr.zero Fr.zero Fr.zero Fr.zero) = some ([zcC w], 0, ()) := by kernel_rfl
def rw3 (r : Row) : Nat -> Int
  | 0 => r.w0 | 1 => r.w1 | _ => r.w2
def bg (x : Fr) : Bool := !decide (fv x < RR)
def bigR (r : Row) : Bool := bg r.q0 || bg r.q1 || bg r.q2 || bg r.q3 || bg r.q4 || bg r.q5 || bg r.q6 || bg r.q7
def unkR (V : Int) (r : Row) : Bool := leI V r.w0 || leI V r.w1 || leI V r.w2
def unkP (V : Int) (p : Pr) : Bool := ltI p.x 0 || leI V p.x || (ltI p.y 0 || leI V p.y)
def lowR (r : Row) : Bool := ltI r.w0 (-1) || ltI r.w1 (-1) || ltI r.w2 (-1)
def zeY (r : Row) : Bool := ltI r.w0 0 || !zaL r (zcC r.w0)
def ze4 (P : Int) : Nat -> List Row -> Bool
  | _, [] => false
  | i, r :: l => (lowR r || (ltI (i : Int) P && zeY r)) || ze4 P (i + 1) l
def mayF (c0 v1 : Int) (v2 : List Row) (v3 : List Pr) : Int :=
  cond (ltI 8 c0 || ltI 200 v1 || ltI 64 (v2.length : Int) || ltI 200 (v3.length : Int)) 8
    (cond (ltI c0 0 || ltI v1 0 || ltI (v2.length : Int) c0) 1
      (cond (v2.any bigR) 4 (cond (v2.any (unkR v1) || v3.any (unkP v1)) 10 (cond (ze4 c0 0 v2) 3 0))))
section ref
variable {N : Nat} (hN : 2000 <= N) (c0 v1 : Int) (v2 : List Row) (v3 : List Pr)
include hN
end ref
end
section
theorem zbM {α : Type} (a b : Bool) (x y : α) : cond a x (cond b x y) = cond (a || b) x y := by cases a <;> rfl
theorem zso (x y z : Int) : ltI (mnI x y) z = (ltI x z || ltI y z) := by
  have e : ∀ a b : Int, ltI a b = decide (a < b) := fun _ _ => rfl
  unfold mnI
  by_cases h : y < x
  . rw [zaw h, cond_true]
    by_cases h2 : y < z
    . rw [zaw h2, Bool.or_true]
    . rw [zai h2, zai (show ¬ x < z by omega)]; rfl
  . rw [zai h, cond_false]
    by_cases h2 : x < z
    . rw [zaw h2, Bool.true_or]
    . rw [zai h2, zai (show ¬ y < z by omega)]; rfl
theorem zxh (x y z : Int) : leI z (mxI x y) = (leI z x || leI z y) := by
  by_cases h : x < y
  . rw [show mxI x y = y by unfold mxI; first | rw [zaw h, cond_true] | (simp [ltI, leI]; omega)]
    by_cases h2 : z <= y
    . rw [zee h2, Bool.or_true]
    . rw [zaD h2, zaD (show ¬ z <= x by omega)]; rfl
  . rw [show mxI x y = x by unfold mxI; first | rw [zai h, cond_false] | (simp [ltI, leI]; omega)]
    by_cases h2 : z <= x
    . rw [zee h2, Bool.true_or]
    . rw [zaD h2, zaD (show ¬ z <= y by omega)]; rfl
theorem zxi (x y : Int) : leI x y = !ltI y x := by
  by_cases h : y < x
  . rw [zaw h, zaD (by omega)]; rfl
  . rw [zai h, zee (by omega)]; rfl
theorem zi1 {l : List Row} {r : Row} {m : List Row} {i : Nat} (hd : m.drop i = r :: l) (hi : i < m.length) : m.getD i zrow = r /\ m.drop (i + 1) = l := by
  rw [List.drop_eq_getElem_cons hi] at hd
  refine ⟨?_, (List.cons.inj hd).2⟩
  rw [List.getD_eq_getElem?_getD, List.getElem?_eq_getElem hi]
  exact (List.cons.inj hd).1
theorem zsp {l : List Pr} {r : Pr} {m : List Pr} {i : Nat} (hd : m.drop i = r :: l) (hi : i < m.length) : m.getD i ⟨0, 0⟩ = r /\ m.drop (i + 1) = l := by
  rw [List.drop_eq_getElem_cons hi] at hd
  refine ⟨?_, (List.cons.inj hd).2⟩
  rw [List.getD_eq_getElem?_getD, List.getElem?_eq_getElem hi]
  exact (List.cons.inj hd).1
section prog
variable {N : Nat} (hN : 2000 <= N) (c0 v1 : Int) (v2 : List Row) (v3 : List Pr)
include hN
theorem zbl (A : (List Row) -> Int -> Int -> Option (Bool × Unit)) (n : Nat) (t8 : List Row) (t9 t10 : Int) (q : List Fr) (hq : q.length = 8) (k : Nat) (hk : k < 8) :
    zeg N A (n + 1) t8 t9 t10 q (k : Int) = cond (bg (q.getD k Fr.zero)) (some (false, ())) (zeg N A n t8 t9 t10 q ((k + 1 : Nat) : Int)) := by
  rw [zgc]
  unfold zg2
  rw [zaw (by omega : (k : Int) < 8), cond_true, zby, zaw (by omega : (k : Int) < ((8 : Nat) : Int)), hq, zaw (by omega : (k : Int) < ((8 : Nat) : Int)), zcd (by omega), Int.toNat_natCast, zqT (show 10 < N by omega)]
  simp only [bsm, Bool.and_self, mst2]
  rfl
theorem zoE (A : (List Row) -> Int -> Int -> Option (Bool × Unit)) (t8 : List Row) (t9 t10 : Int) (r : Row) :
    zeg N A N t8 t9 t10 [r.q0, r.q1, r.q2, r.q3, r.q4, r.q5, r.q6, r.q7] 0 = cond (bigR r) (some (false, ())) (A t8 t9 (wr (t10 + 1))) := by
  obtain ⟨n, hn⟩ : ∃ n, N = n + 1 + 1 + 1 + 1 + 1 + 1 + 1 + 1 + 1 := ⟨N - 9, by omega⟩
  have e : ∀ M, M = n + 1 + 1 + 1 + 1 + 1 + 1 + 1 + 1 + 1 -> zeg N A M t8 t9 t10 [r.q0, r.q1, r.q2, r.q3, r.q4, r.q5, r.q6, r.q7] ((0 : Nat) : Int) = cond (bigR r) (some (false, ())) (A t8 t9 (wr (t10 + 1))) := by
    rintro M rfl
    have hl : [r.q0, r.q1, r.q2, r.q3, r.q4, r.q5, r.q6, r.q7].length = 8 := rfl
    rw [zbl hN A _ _ _ _ _ hl 0 (by omega), zbl hN A _ _ _ _ _ hl 1 (by omega), zbl hN A _ _ _ _ _ hl 2 (by omega), zbl hN A _ _ _ _ _ hl 3 (by omega), zbl hN A _ _ _ _ _ hl 4 (by omega), zbl hN A _ _ _ _ _ hl 5 (by omega), zbl hN A _ _ _ _ _ hl 6 (by omega), zbl hN A _ _ _ _ _ hl 7 (by omega), zgc]
    unfold zg2
    rw [zai (by omega), cond_false]
    simp only [zbM]
    unfold bigR
    simp only [Bool.or_assoc]
    rfl
  exact e N hn
theorem zi2 : ∀ (l : List Row) (i n : Nat), v2.drop i = l -> i + l.length = v2.length -> l.length < n -> v2.length < 1000000 ->
    zg4 N n v2 (v2.length : Int) (i : Int) = some (!l.any bigR, ())
  | [], i, n + 1, hd, hl, hn, hb => by
    simp only [List.length_nil] at hl
    rw [zgd]
    unfold zg3
    rw [zai (by omega), cond_false]
    rfl
  | r :: l, i, n + 1, hd, hl, hn, hb => by
    simp only [List.length_cons] at hl hn
    obtain ⟨hr, hd'⟩ := zi1 hd (by omega)
    rw [zgd]
    unfold zg3
    rw [zaw (by omega : (i : Int) < (v2.length : Int)), cond_true, zby, zhN, Int.toNat_natCast, hr, zoE hN, zcd (by omega), zi2 l (i + 1) n hd' (by omega) (by omega) hb, List.any_cons]
    cases bigR r <;> rfl
theorem zsq (hb : v2.length < 1000) : q200 N c0 v1 v2 v3 = some (!v2.any bigR, ()) :=
  zi2 hN v2 v2 0 N rfl (by omega) (by omega) (by omega)
theorem zeI (A : (List Row) -> Int -> Int -> Int -> Int -> (List Row) -> (List Pr) -> Option (Bool × Unit)) (n : Nat) (t8 : List Row) (t9 t10 : Int) (q : List Int) (hq : q.length = 3) (k : Nat) (hk : k < 3) :
    zeh N A (n + 1) t8 t9 t10 q (k : Int) c0 v1 v2 v3 = cond (leI v1 (q.getD k 0)) (some (false, ())) (zeh N A n t8 t9 t10 q ((k + 1 : Nat) : Int) c0 v1 v2 v3) := by
  have _ := hN
  rw [zge]
  unfold zg5
  rw [zaw (by omega : (k : Int) < 3), cond_true, zby, zaw (by omega : (k : Int) < ((3 : Nat) : Int)), hq, zaw (by omega : (k : Int) < ((3 : Nat) : Int)), zcd (by omega), Int.toNat_natCast]
  simp only [Bool.and_self, mst2]
theorem zoF (A : (List Row) -> Int -> Int -> Int -> Int -> (List Row) -> (List Pr) -> Option (Bool × Unit)) (t8 : List Row) (t9 t10 : Int) (r : Row) :
    zeh N A N t8 t9 t10 [r.w0, r.w1, r.w2] 0 c0 v1 v2 v3 = cond (unkR v1 r) (some (false, ())) (A t8 t9 (wr (t10 + 1)) c0 v1 v2 v3) := by
  obtain ⟨n, hn⟩ : ∃ n, N = n + 1 + 1 + 1 + 1 := ⟨N - 4, by omega⟩
  have e : ∀ M, M = n + 1 + 1 + 1 + 1 -> zeh N A M t8 t9 t10 [r.w0, r.w1, r.w2] ((0 : Nat) : Int) c0 v1 v2 v3 = cond (unkR v1 r) (some (false, ())) (A t8 t9 (wr (t10 + 1)) c0 v1 v2 v3) := by
    rintro M rfl
    have hl : [r.w0, r.w1, r.w2].length = 3 := rfl
    rw [zeI hN c0 v1 v2 v3 A _ _ _ _ _ hl 0 (by omega), zeI hN c0 v1 v2 v3 A _ _ _ _ _ hl 1 (by omega), zeI hN c0 v1 v2 v3 A _ _ _ _ _ hl 2 (by omega), zge]
    unfold zg5
    rw [zai (by omega), cond_false]
    simp only [zbM]
    unfold unkR
    simp only [Bool.or_assoc]
    rfl
  exact e N hn
theorem zhf : ∀ (l : List Pr) (i n : Nat), v3.drop i = l -> i + l.length = v3.length -> l.length < n -> v3.length < 1000000 ->
    zdL N n v3 (v3.length : Int) (i : Int) c0 v1 v2 v3 = some (!l.any (unkP v1), ())
  | [], i, n + 1, hd, hl, hn, hb => by
    have _ := hN
    simp only [List.length_nil] at hl
    rw [zeX]
    unfold zeH
    rw [zai (by omega), cond_false]
    rfl
  | r :: l, i, n + 1, hd, hl, hn, hb => by
    simp only [List.length_cons] at hl hn
    obtain ⟨hr, hd'⟩ := zsp hd (by omega)
    rw [zeX]
    unfold zeH
    rw [zaw (by omega : (i : Int) < (v3.length : Int)), cond_true, zby, zhN, Int.toNat_natCast, hr, zcd (by omega), zhf l (i + 1) n hd' (by omega) (by omega) hb, List.any_cons, zso, zxh]
    unfold unkP
    cases ltI r.x 0 <;> cases ltI r.y 0 <;> cases leI v1 r.x <;> cases leI v1 r.y <;> rfl
theorem zi3 : ∀ (l : List Row) (i n : Nat), v2.drop i = l -> i + l.length = v2.length -> l.length < n -> v2.length < 1000000 ->
    zg7 N n v2 (v2.length : Int) (i : Int) c0 v1 v2 v3 = cond (l.any (unkR v1)) (some (false, ())) (zdL N N v3 (v3.length : Int) 0 c0 v1 v2 v3)
  | [], i, n + 1, hd, hl, hn, hb => by
    simp only [List.length_nil] at hl
    rw [zgf]
    unfold zg6
    rw [zai (by omega), cond_false]
    rfl
  | r :: l, i, n + 1, hd, hl, hn, hb => by
    simp only [List.length_cons] at hl hn
    obtain ⟨hr, hd'⟩ := zi1 hd (by omega)
    rw [zgf]
    unfold zg6
    rw [zaw (by omega : (i : Int) < (v2.length : Int)), cond_true, zby, zhN, Int.toNat_natCast, hr, zoF hN, zcd (by omega), zi3 l (i + 1) n hd' (by omega) (by omega) hb, List.any_cons, zbM]
theorem zsr (hb : v2.length < 1000) (hb3 : v3.length < 1000) : q201 N c0 v1 v2 v3 = some (!(v2.any (unkR v1) || v3.any (unkP v1)), ()) := by
  refine (zi3 hN c0 v1 v2 v3 v2 0 N rfl (by omega) (by omega) (by omega)).trans ?_
  have e := zhf hN c0 v1 v2 v3 v3 0 N rfl (by omega) (by omega) (by omega)
  cases v2.any (unkR v1)
  . exact e
  . rfl
theorem zss (r : Row) : q220 N r = some (!zeY r, ()) := by
  have _ := hN
  unfold q220 zeY
  rw [zqh]
  simp only [bsm]
  rw [show List.length [zcC r.w0] = 1 from rfl, zaw (show (0 : Int) < ((1 : Nat) : Int) by omega), show [zcC r.w0].getD 0 zrow = zcC r.w0 from rfl, mst2, zxi]
  cases ltI r.w0 0 <;> simp
theorem zi4 : ∀ (l : List Row) (i n : Nat), v2.drop i = l -> i + l.length = v2.length -> l.length < n -> v2.length < 1000000 ->
    zg9 N n v2 (v2.length : Int) (i : Int) c0 v1 v2 v3 = some (!ze4 c0 i l, ())
  | [], i, n + 1, hd, hl, hn, hb => by
    simp only [List.length_nil] at hl
    rw [zgg]
    unfold zg8
    rw [zai (by omega), cond_false]
    rfl
  | r :: l, i, n + 1, hd, hl, hn, hb => by
    simp only [List.length_cons] at hl hn
    obtain ⟨hr, hd'⟩ := zi1 hd (by omega)
    rw [zgg]
    unfold zg8
    rw [zaw (by omega : (i : Int) < (v2.length : Int)), cond_true, zby, zhN, Int.toNat_natCast, hr, zao, zss hN, zcd (by omega), zi4 l (i + 1) n hd' (by omega) (by omega) hb, zso, zso]
    simp only [bsm, Bool.not_not]
    rw [show ze4 c0 i (r :: l) = ((lowR r || (ltI (i : Int) c0 && zeY r)) || ze4 c0 (i + 1) l) from rfl]
    unfold lowR
    cases ltI (i : Int) c0 <;> cases zeY r <;> cases ltI r.w0 (-1) <;> cases ltI r.w1 (-1) <;> cases ltI r.w2 (-1) <;> rfl
theorem zst (hb : v2.length < 1000) : q202 N c0 v1 v2 v3 = some (!ze4 c0 0 v2, ()) :=
  zi4 hN c0 v1 v2 v3 v2 0 N rfl (by omega) (by omega) (by omega)
theorem zsu (hb : v2.length < 1000) (hb3 : v3.length < 1000) : q119 N c0 v1 v2 v3 = some (mayF c0 v1 v2 v3, ()) := by
  unfold q119 mayF
  rw [zsq hN c0 v1 v2 v3 hb, zsr hN c0 v1 v2 v3 hb hb3, zst hN c0 v1 v2 v3 hb]
  simp only [bsm, Bool.not_not]
  generalize ltI 8 c0 = a1
  generalize ltI 200 v1 = a2
  generalize ltI 64 (v2.length : Int) = a3
  generalize ltI 200 (v3.length : Int) = a4
  generalize ltI c0 0 = a5
  generalize ltI v1 0 = a6
  generalize ltI (v2.length : Int) c0 = a7
  generalize v2.any bigR = b1
  generalize (v2.any (unkR v1) || v3.any (unkP v1)) = b2
  generalize ze4 c0 0 v2 = b3
  cases a1 <;> cases a2 <;> cases a3 <;> cases a4 <;> simp only [cond_true, cond_false, Bool.true_or, Bool.or_true, Bool.false_or, Bool.or_false]
  cases a5 <;> cases a6 <;> cases a7 <;> simp only [cond_true, cond_false, Bool.true_or, Bool.or_true, Bool.false_or, Bool.or_false]
  cases b1 <;> cases b2 <;> cases b3 <;> rfl
end prog
structure GoodCirc (c0 v1 : Int) (v2 : List Row) (v3 : List Pr) : Prop where
  p0 : 0 <= c0
  p8 : c0 <= 8
  v0 : 0 <= v1
  v200 : v1 <= 200
  rows : v2.length <= 64
  same : v3.length <= 200
  pub : c0 <= (v2.length : Int)
  big : v2.any bigR = false
  unk : v2.any (unkR v1) = false
  unkp : v3.any (unkP v1) = false
  form : ze4 c0 0 v2 = false
theorem GoodCirc.may {c0 v1 : Int} {v2 : List Row} {v3 : List Pr} (h : GoodCirc c0 v1 v2 v3) : mayF c0 v1 v2 v3 = 0 := by
  have := h.p0
  have := h.p8
  have := h.v0
  have := h.v200
  have := h.rows
  have := h.same
  have := h.pub
  unfold mayF
  rw [zai (by omega : ¬ 8 < c0), zai (by omega : ¬ 200 < v1), zai (by omega : ¬ 64 < (v2.length : Int)), zai (by omega : ¬ 200 < (v3.length : Int)), zai (by omega : ¬ c0 < 0), zai (by omega : ¬ v1 < 0), zai (by omega : ¬ (v2.length : Int) < c0), h.big, h.unk, h.unkp, h.form]
  rfl
theorem GoodCirc.pairs {c0 v1 : Int} {v2 : List Row} {v3 : List Pr} (h : GoodCirc c0 v1 v2 v3) {V : Nat} (hV : v1 = (V : Int)) : zsl v3 V := by
  intro p hp
  have h2 := List.any_eq_false.mp h.unkp p hp
  unfold unkP at h2
  simp only [Bool.or_eq_true, not_or, Bool.not_eq_true] at h2
  obtain ⟨⟨a, b⟩, c, d⟩ := h2
  have := of_decide_eq_false a
  have := of_decide_eq_false b
  have := of_decide_eq_false c
  have := of_decide_eq_false d
  subst hV
  omega
theorem zi5 {P : Int} : ∀ {l : List Row} {i : Nat}, ze4 P i l = false -> ∀ r ∈ l, lowR r = false
  | [], _, _, r, hr => absurd hr (by simp)
  | x :: l, i, h, r, hr => by
    unfold ze4 at h
    simp only [Bool.or_eq_false_iff] at h
    rcases List.mem_cons.mp hr with rfl | hr
    . exact h.1.1
    . exact zi5 h.2 r hr
theorem GoodCirc.vars {c0 v1 : Int} {v2 : List Row} {v3 : List Pr} (h : GoodCirc c0 v1 v2 v3) {r : Row} (hr : r ∈ v2) (j : Nat) : -1 <= rw3 r j /\ rw3 r j < v1 := by
  have h1 := List.any_eq_false.mp h.unk r hr
  have h2 := zi5 h.form r hr
  unfold unkR at h1
  unfold lowR at h2
  simp only [Bool.or_eq_true, not_or, Bool.not_eq_true] at h1
  simp only [Bool.or_eq_false_iff] at h2
  obtain ⟨⟨a, b⟩, c⟩ := h1
  obtain ⟨⟨a', b'⟩, c'⟩ := h2
  have := of_decide_eq_false a
  have := of_decide_eq_false b
  have := of_decide_eq_false c
  have := of_decide_eq_false a'
  have := of_decide_eq_false b'
  have := of_decide_eq_false c'
  match j with
  | 0 => exact ⟨by simp only [rw3]; omega, by simp only [rw3]; omega⟩
  | 1 => exact ⟨by simp only [rw3]; omega, by simp only [rw3]; omega⟩
  | _ + 2 => exact ⟨by simp only [rw3]; omega, by simp only [rw3]; omega⟩
end
section
def up (m j i : Nat) (v : Int) (o : List Int) : List Int := if j = m then setL o i v else o
theorem zoG (m j i : Nat) (v : Int) (o : List Int) : (up m j i v o).length = o.length := by
  unfold up
  split
  . rw [zcM]
  . rfl
theorem cell {n j i : Nat} (hi : i < n) : (j * n + i) / n = j /\ (j * n + i) % n = i := by
  have h0 : 0 < n := by omega
  refine ⟨?_, ?_⟩
  . rw [Nat.mul_comm, Nat.mul_add_div h0, Nat.div_eq_of_lt hi, Nat.add_zero]
  . rw [Nat.mul_comm, Nat.mul_add_mod, Nat.mod_eq_of_lt hi]
structure PInv (k : Nat -> Int) (V n a : Nat) (fi la : List Int) (O : Nat -> Int) : Prop where
  lf : fi.length = V
  ll : la.length = V
  F : ∀ c : Nat, c < V -> (fi.getD c 0 = -1 /\ ∀ z, z < a -> k z ≠ c) \/ ∃ f g : Nat, fi.getD c 0 = f /\ la.getD c 0 = g /\ f <= g /\ g < a /\ k f = c /\ k g = c /\ (∀ z, z < f -> k z ≠ c) /\ ∀ z, g < z -> z < a -> k z ≠ c
  O : ∀ z, z < a -> (k z < 0 /\ O z = z) \/ ∃ c : Nat, c < V /\ k z = c /\ ((∃ y : Nat, z < y /\ y < a /\ k y = c /\ (∀ w, z < w -> w < y -> k w ≠ c) /\ O z = y) \/ ((∀ w, z < w -> w < a -> k w ≠ c) /\ O z = fi.getD c 0))
end
section
def Len3 (n j : Nat) (o0 o1 o2 : List Int) : Prop := o0.length = n /\ (1 <= j -> o1.length = n) /\ (2 <= j -> o2.length = n)
theorem Len3.up {n j : Nat} {o0 o1 o2 : List Int} (h : Len3 n j o0 o1 o2) (q i : Nat) (v : Int) : Len3 n j (up 0 q i v o0) (up 1 q i v o1) (up 2 q i v o2) :=
  ⟨by rw [zoG]; exact h.1, fun hj => by rw [zoG]; exact h.2.1 hj, fun hj => by rw [zoG]; exact h.2.2 hj⟩
structure Ground (cl : List Int) (rows : List Row) (n V : Nat) : Prop where
  n1 : 1 <= n
  n64 : n <= 64
  rl : rows.length <= n
  lc : cl.length = V
  cc : ∀ v : Nat, v < V -> ∃ c : Nat, c < V /\ cl.getD v 0 = (c : Int)
  vars : ∀ r ∈ rows, ∀ j, -1 <= rw3 r j /\ rw3 r j < (V : Int)
end
section
instance : Big 100000 := ⟨by omega⟩
end
end Go.Proofs.Ytgimohchocjgcaa.V
