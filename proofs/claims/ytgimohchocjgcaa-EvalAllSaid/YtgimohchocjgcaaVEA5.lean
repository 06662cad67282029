import Derived.Test.YtgimohchocjgcaaVUM
import Derived.Test.YtgimohchocjgcaaVEV5
import Derived.Test.YtgimohchocjgcaaVPA3
import Derived.KernelRfl
set_option linter.unusedVariables false
set_option linter.unusedSimpArgs false
namespace Go.Proofs.Ytgimohchocjgcaa.V
section
def zkX (N : Nat) (A_5 : Int -> (List Fr) -> Int -> Int -> Int -> (List Row) -> (List Pr) -> (List Fr) -> (List Fr) -> (List Fr) -> (List Fr) -> (List Fr) -> (List Fr) -> Option ((List Fr × List Fr × List Fr × Unit) × Int × Unit)) (log1 : Int) (vals2 : List Fr) (x9 ob0_0 ob0_1 : Int) (ob0_2 : List Row) (ob0_3 : List Pr) (ob3 ob4 ob5 ob6 ob7 ob8 : List Fr) : Option ((List Fr × List Fr × List Fr × Unit) × Int × Unit) :=
 must (leI (0 : Int) log1) (must (ltI log1 (18446744073709551616 : Int)) (cond ((ltI x9 ((shlI (3 : Int) (UInt64.toNat (UInt64.ofNat log1.toNat)))))) (Option.bind (q189 N ob0_0 ob0_1 ob0_2 ob0_3 log1 x9) fun rr0 => cond ((leI (0 : Int) rr0.1)) (must (leI (0 : Int) rr0.1 && ltI rr0.1 (↑vals2.length : Int)) (must (leI (0 : Int) log1) (must (ltI log1 (18446744073709551616 : Int)) (must (leI (0 : Int) log1) (must (ltI log1 (18446744073709551616 : Int)) (cond (eqI ((shrI x9 (UInt64.toNat (UInt64.ofNat log1.toNat)))) (↑(0 : Nat) : Int)) (must (leN ((List.length ob6 + List.length [(List.getD vals2 rr0.1.toNat (Fr.zero))]) * (32 : Nat)) (140737488355328 : Nat)) (cond (eqI ((shrI x9 (UInt64.toNat (UInt64.ofNat log1.toNat)))) (↑(0 : Nat) : Int)) (A_5 log1 vals2 ((wr (x9 + (1 : Int)))) ob0_0 ob0_1 ob0_2 ob0_3 ob3 ob4 ob5 (ob6 ++ [(List.getD vals2 rr0.1.toNat (Fr.zero))]) ob7 ob8) (cond (eqI ((shrI x9 (UInt64.toNat (UInt64.ofNat log1.toNat)))) (↑((0 : Nat) + (1 : Nat)) : Int)) (none) (must (eqI ((shrI x9 (UInt64.toNat (UInt64.ofNat log1.toNat)))) (↑((0 : Nat) + (1 : Nat) + (1 : Nat)) : Int)) (none))))) (cond (eqI ((shrI x9 (UInt64.toNat (UInt64.ofNat log1.toNat)))) (↑((0 : Nat) + (1 : Nat)) : Int)) (must (leN ((List.length ob7 + List.length [(List.getD vals2 rr0.1.toNat (Fr.zero))]) * (32 : Nat)) (140737488355328 : Nat)) (cond (eqI ((shrI x9 (UInt64.toNat (UInt64.ofNat log1.toNat)))) (↑(0 : Nat) : Int)) (none) (cond (eqI ((shrI x9 (UInt64.toNat (UInt64.ofNat log1.toNat)))) (↑((0 : Nat) + (1 : Nat)) : Int)) (A_5 log1 vals2 ((wr (x9 + (1 : Int)))) ob0_0 ob0_1 ob0_2 ob0_3 ob3 ob4 ob5 ob6 (ob7 ++ [(List.getD vals2 rr0.1.toNat (Fr.zero))]) ob8) (must (eqI ((shrI x9 (UInt64.toNat (UInt64.ofNat log1.toNat)))) (↑((0 : Nat) + (1 : Nat) + (1 : Nat)) : Int)) (none))))) (must (eqI ((shrI x9 (UInt64.toNat (UInt64.ofNat log1.toNat)))) (↑((0 : Nat) + (1 : Nat) + (1 : Nat)) : Int)) (must (leN ((List.length ob8 + List.length [(List.getD vals2 rr0.1.toNat (Fr.zero))]) * (32 : Nat)) (140737488355328 : Nat)) (cond (eqI ((shrI x9 (UInt64.toNat (UInt64.ofNat log1.toNat)))) (↑(0 : Nat) : Int)) (none) (cond (eqI ((shrI x9 (UInt64.toNat (UInt64.ofNat log1.toNat)))) (↑((0 : Nat) + (1 : Nat)) : Int)) (none) (must (eqI ((shrI x9 (UInt64.toNat (UInt64.ofNat log1.toNat)))) (↑((0 : Nat) + (1 : Nat) + (1 : Nat)) : Int)) (A_5 log1 vals2 ((wr (x9 + (1 : Int)))) ob0_0 ob0_1 ob0_2 ob0_3 ob3 ob4 ob5 ob6 ob7 (ob8 ++ [(List.getD vals2 rr0.1.toNat (Fr.zero))])))))))))))))) (must (leI (0 : Int) log1) (must (ltI log1 (18446744073709551616 : Int)) (must (leI (0 : Int) log1) (must (ltI log1 (18446744073709551616 : Int)) (cond (eqI ((shrI x9 (UInt64.toNat (UInt64.ofNat log1.toNat)))) (↑(0 : Nat) : Int)) (must (leN ((List.length ob6 + List.length [Fr.zero]) * (32 : Nat)) (140737488355328 : Nat)) (cond (eqI ((shrI x9 (UInt64.toNat (UInt64.ofNat log1.toNat)))) (↑(0 : Nat) : Int)) (A_5 log1 vals2 ((wr (x9 + (1 : Int)))) ob0_0 ob0_1 ob0_2 ob0_3 ob3 ob4 ob5 (ob6 ++ [Fr.zero]) ob7 ob8) (cond (eqI ((shrI x9 (UInt64.toNat (UInt64.ofNat log1.toNat)))) (↑((0 : Nat) + (1 : Nat)) : Int)) (none) (must (eqI ((shrI x9 (UInt64.toNat (UInt64.ofNat log1.toNat)))) (↑((0 : Nat) + (1 : Nat) + (1 : Nat)) : Int)) (none))))) (cond (eqI ((shrI x9 (UInt64.toNat (UInt64.ofNat log1.toNat)))) (↑((0 : Nat) + (1 : Nat)) : Int)) (must (leN ((List.length ob7 + List.length [Fr.zero]) * (32 : Nat)) (140737488355328 : Nat)) (cond (eqI ((shrI x9 (UInt64.toNat (UInt64.ofNat log1.toNat)))) (↑(0 : Nat) : Int)) (none) (cond (eqI ((shrI x9 (UInt64.toNat (UInt64.ofNat log1.toNat)))) (↑((0 : Nat) + (1 : Nat)) : Int)) (A_5 log1 vals2 ((wr (x9 + (1 : Int)))) ob0_0 ob0_1 ob0_2 ob0_3 ob3 ob4 ob5 ob6 (ob7 ++ [Fr.zero]) ob8) (must (eqI ((shrI x9 (UInt64.toNat (UInt64.ofNat log1.toNat)))) (↑((0 : Nat) + (1 : Nat) + (1 : Nat)) : Int)) (none))))) (must (eqI ((shrI x9 (UInt64.toNat (UInt64.ofNat log1.toNat)))) (↑((0 : Nat) + (1 : Nat) + (1 : Nat)) : Int)) (must (leN ((List.length ob8 + List.length [Fr.zero]) * (32 : Nat)) (140737488355328 : Nat)) (cond (eqI ((shrI x9 (UInt64.toNat (UInt64.ofNat log1.toNat)))) (↑(0 : Nat) : Int)) (none) (cond (eqI ((shrI x9 (UInt64.toNat (UInt64.ofNat log1.toNat)))) (↑((0 : Nat) + (1 : Nat)) : Int)) (none) (must (eqI ((shrI x9 (UInt64.toNat (UInt64.ofNat log1.toNat)))) (↑((0 : Nat) + (1 : Nat) + (1 : Nat)) : Int)) (A_5 log1 vals2 ((wr (x9 + (1 : Int)))) ob0_0 ob0_1 ob0_2 ob0_3 ob3 ob4 ob5 ob6 ob7 (ob8 ++ [Fr.zero])))))))))))))) (some (((ob6, ob7, ob8, ()), (0 : Int), ())))))
theorem zzo : zyv = zkX := by
 (repeat (apply funext; intro _))
 simp only [zyv, zkX, hide_eq, zCi, zad, zag, zah, zaf, zak, zal, zaH, zaq]
def zcJ (N n : Nat) (log1 : Int) (vals2 : List Fr) (x9 ob0_0 ob0_1 : Int) (ob0_2 : List Row) (ob0_3 : List Pr) (ob3 ob4 ob5 ob6 ob7 ob8 : List Fr) : Option ((List Fr × List Fr × List Fr × Unit) × Int × Unit) :=
 zan (fun A x => zkX N (fun log1 vals2 x9 ob0_0 ob0_1 ob0_2 ob0_3 ob3 ob4 ob5 ob6 ob7 ob8 => A ((log1, (vals2, ((), ((), ((), (x9, ())))))), ((ob0_0, (ob0_1, (ob0_2, (ob0_3, ())))), (((), ((), ((), ()))), (((), ((), ((), ()))), (ob3, (ob4, (ob5, (ob6, (ob7, (ob8, ()))))))))))) x.1.1 x.1.2.1 x.1.2.2.2.2.2.1 x.2.1.1 x.2.1.2.1 x.2.1.2.2.1 x.2.1.2.2.2.1 x.2.2.2.2.1 x.2.2.2.2.2.1 x.2.2.2.2.2.2.1 x.2.2.2.2.2.2.2.1 x.2.2.2.2.2.2.2.2.1 x.2.2.2.2.2.2.2.2.2.1) n ((log1, (vals2, ((), ((), ((), (x9, ())))))), ((ob0_0, (ob0_1, (ob0_2, (ob0_3, ())))), (((), ((), ((), ()))), (((), ((), ((), ()))), (ob3, (ob4, (ob5, (ob6, (ob7, (ob8, ()))))))))))
theorem zzp : zyw = zcJ := by
 (repeat (apply funext; intro _))
 simp only [zyw, zcJ, zzo, zad, zag, zah, zaf, zak, zal, zaH, zaq]
theorem zdN (N n : Nat) (log1 : Int) (vals2 : List Fr) (x9 ob0_0 ob0_1 : Int) (ob0_2 : List Row) (ob0_3 : List Pr) (ob3 ob4 ob5 ob6 ob7 ob8 : List Fr) : zcJ N (n + 1) log1 vals2 x9 ob0_0 ob0_1 ob0_2 ob0_3 ob3 ob4 ob5 ob6 ob7 ob8 = zkX N (zcJ N n) log1 vals2 x9 ob0_0 ob0_1 ob0_2 ob0_3 ob3 ob4 ob5 ob6 ob7 ob8 := rfl
def q97 (N : Nat) (c0 log1 : Int) (vals2 : List Row) (v3 : List Pr) (v4 : Int) (v5 : List Fr) : Option ((List Fr × List Fr × List Fr × Unit) × Int × Unit) :=
 cond ((ltI v4 (1 : Int))) (some ((([], [], [], ()), (1 : Int), ()))) (cond ((ltI (6 : Int) v4)) (some ((([], [], [], ()), (1 : Int), ()))) (must (leI (0 : Int) v4) (must (ltI v4 (18446744073709551616 : Int)) (cond ((ltI ((shlI (1 : Int) (UInt64.toNat (UInt64.ofNat v4.toNat)))) (↑vals2.length : Int))) (some ((([], [], [], ()), (1 : Int), ()))) (cond (!eqI (↑v5.length : Int) log1) (some ((([], [], [], ()), (1 : Int), ()))) (zcJ N N v4 v5 (0 : Int) c0 log1 vals2 v3 [] [] [] [] [] []))))))
theorem zCK : p97 = q97 := by
 (repeat (apply funext; intro _))
 simp only [p97, q97, hide_eq, zzp, zad, zag, zah, zaf, zak, zal, zaH, zaq]
def ziZ (N : Nat) (A_5 : (List Fr) -> Int -> (List Fr) -> Option (List Fr × Int × Unit)) (public1 : List Fr) (i7 : Int) (out6o : List Fr) : Option (List Fr × Int × Unit) :=
 cond ((ltI i7 (↑public1.length : Int))) (must (leI (0 : Int) i7 && ltI i7 (↑public1.length : Int)) (Option.bind (q85 N ((List.getD public1 i7.toNat (Fr.zero)))) fun rr0 => must (leI (0 : Int) i7 && ltI i7 (↑out6o.length : Int)) (A_5 public1 ((wr (i7 + (1 : Int)))) (setL out6o i7.toNat (rr0.1))))) (some ((out6o, (0 : Int), ())))
theorem zv3 : zr1 = ziZ := by
 (repeat (apply funext; intro _))
 simp only [zr1, ziZ, hide_eq, zBR, zad, zag, zah, zaf, zak, zal, zaH, zaq]
def zi0 (N n : Nat) (public1 : List Fr) (i7 : Int) (out6o : List Fr) : Option (List Fr × Int × Unit) :=
 zan (fun A x => ziZ N (fun public1 i7 out6o => A ((public1, ((), (i7, ()))), (out6o, ()))) x.1.1 x.1.2.2.1 x.2.1) n ((public1, ((), (i7, ()))), (out6o, ()))
theorem zv4 : zr2 = zi0 := by
 (repeat (apply funext; intro _))
 simp only [zr2, zi0, zv3, zad, zag, zah, zaf, zak, zal, zaH, zaq]
theorem zhA (N n : Nat) (public1 : List Fr) (i7 : Int) (out6o : List Fr) : zi0 N (n + 1) public1 i7 out6o = ziZ N (zi0 N n) public1 i7 out6o := rfl
def q147 (N : Nat) (log0 : Int) (public1 : List Fr) : Option (List Fr × Int × Unit) :=
 cond ((ltI log0 (1 : Int))) (some (([], (1 : Int), ()))) (cond ((ltI (6 : Int) log0)) (some (([], (1 : Int), ()))) (must (leI (0 : Int) log0) (must (ltI log0 (18446744073709551616 : Int)) (cond ((ltI ((shlI (1 : Int) (UInt64.toNat (UInt64.ofNat log0.toNat)))) (↑public1.length : Int))) (some (([], (1 : Int), ()))) (must (leI (0 : Int) log0) (must (ltI log0 (18446744073709551616 : Int)) (must (leI (0 : Int) ((shlI (1 : Int) (UInt64.toNat (UInt64.ofNat log0.toNat)))) && (eqI ((shlI (1 : Int) (UInt64.toNat (UInt64.ofNat log0.toNat)))) ((shlI (1 : Int) (UInt64.toNat (UInt64.ofNat log0.toNat)))) && leN (Int.toNat ((shlI (1 : Int) (UInt64.toNat (UInt64.ofNat log0.toNat)))) * (32 : Nat)) (140737488355328 : Nat))) (zi0 N N public1 (0 : Int) (List.replicate (Int.toNat ((shlI (1 : Int) (UInt64.toNat (UInt64.ofNat log0.toNat))))) (Fr.zero))))))))))
theorem zwX : p147 = q147 := by
 (repeat (apply funext; intro _))
 simp only [p147, q147, hide_eq, zv4, zad, zag, zah, zaf, zak, zal, zaH, zaq]
def zeo (N : Nat) (A_19 : Int -> Int -> Int -> Int -> (List Row) -> (List Pr) -> (List Fr) -> (List Fr) -> (List Fr) -> (List Fr) -> Option (Int × Int × Unit)) (n16 i17 ob0_0 ob0_1 : Int) (ob0_2 : List Row) (ob0_3 : List Pr) (p14o ob3 ob4 ob5 : List Fr) : Option (Int × Int × Unit) :=
 cond ((ltI i17 n16)) (cond ((ltI i17 (↑ob0_2.length : Int))) (must (leI (0 : Int) i17 && ltI i17 (↑ob0_2.length : Int)) (must (leI (0 : Int) i17 && ltI i17 (↑ob3.length : Int)) (must (leI (0 : Int) i17 && ltI i17 (↑ob4.length : Int)) (must (leI (0 : Int) i17 && ltI i17 (↑ob5.length : Int)) (must (!eqI n16 (0 : Int)) (must (leI (0 : Int) ((Int.tmod ((wr (i17 + (1 : Int)))) n16)) && ltI ((Int.tmod ((wr (i17 + (1 : Int)))) n16)) (↑ob3.length : Int)) (Option.bind (q107 N ([(Row.q0 (List.getD ob0_2 i17.toNat zrow)), (Row.q1 (List.getD ob0_2 i17.toNat zrow)), (Row.q2 (List.getD ob0_2 i17.toNat zrow)), (Row.q3 (List.getD ob0_2 i17.toNat zrow)), (Row.q4 (List.getD ob0_2 i17.toNat zrow)), (Row.q5 (List.getD ob0_2 i17.toNat zrow)), (Row.q6 (List.getD ob0_2 i17.toNat zrow)), (Row.q7 (List.getD ob0_2 i17.toNat zrow))]) ((List.getD ob3 i17.toNat (Fr.zero))) ((List.getD ob4 i17.toNat (Fr.zero))) ((List.getD ob5 i17.toNat (Fr.zero))) (Fr.mk (Fr.a0 (List.getD ob3 (Int.toNat ((Int.tmod ((wr (i17 + (1 : Int)))) n16))) (Fr.zero))) (Fr.a1 (List.getD ob3 (Int.toNat ((Int.tmod ((wr (i17 + (1 : Int)))) n16))) (Fr.zero))) (Fr.a2 (List.getD ob3 (Int.toNat ((Int.tmod ((wr (i17 + (1 : Int)))) n16))) (Fr.zero))) (Fr.a3 (List.getD ob3 (Int.toNat ((Int.tmod ((wr (i17 + (1 : Int)))) n16))) (Fr.zero))))) fun rr2 => must (leI (0 : Int) i17 && ltI i17 (↑p14o.length : Int)) (Option.bind (q194 N (rr2.1) ((List.getD p14o i17.toNat (Fr.zero)))) fun rr3 => cond (!eqF rr3.1 (Fr.mk (0 : UInt64) 0 0 0)) (some ((i17, (12 : Int), ()))) (A_19 n16 ((wr (i17 + (1 : Int)))) ob0_0 ob0_1 ob0_2 ob0_3 p14o ob3 ob4 ob5))))))))) (must (leI (0 : Int) i17 && ltI i17 (↑ob3.length : Int)) (must (leI (0 : Int) i17 && ltI i17 (↑ob4.length : Int)) (must (leI (0 : Int) i17 && ltI i17 (↑ob5.length : Int)) (must (!eqI n16 (0 : Int)) (must (leI (0 : Int) ((Int.tmod ((wr (i17 + (1 : Int)))) n16)) && ltI ((Int.tmod ((wr (i17 + (1 : Int)))) n16)) (↑ob3.length : Int)) (Option.bind (q107 N ([Fr.zero, Fr.zero, Fr.zero, Fr.zero, Fr.zero, Fr.zero, Fr.zero, Fr.zero]) ((List.getD ob3 i17.toNat (Fr.zero))) ((List.getD ob4 i17.toNat (Fr.zero))) ((List.getD ob5 i17.toNat (Fr.zero))) (Fr.mk (Fr.a0 (List.getD ob3 (Int.toNat ((Int.tmod ((wr (i17 + (1 : Int)))) n16))) (Fr.zero))) (Fr.a1 (List.getD ob3 (Int.toNat ((Int.tmod ((wr (i17 + (1 : Int)))) n16))) (Fr.zero))) (Fr.a2 (List.getD ob3 (Int.toNat ((Int.tmod ((wr (i17 + (1 : Int)))) n16))) (Fr.zero))) (Fr.a3 (List.getD ob3 (Int.toNat ((Int.tmod ((wr (i17 + (1 : Int)))) n16))) (Fr.zero))))) fun rr0 => must (leI (0 : Int) i17 && ltI i17 (↑p14o.length : Int)) (Option.bind (q194 N (rr0.1) ((List.getD p14o i17.toNat (Fr.zero)))) fun rr1 => cond (!eqF rr1.1 (Fr.mk (0 : UInt64) 0 0 0)) (some ((i17, (12 : Int), ()))) (A_19 n16 ((wr (i17 + (1 : Int)))) ob0_0 ob0_1 ob0_2 ob0_3 p14o ob3 ob4 ob5))))))))) (some (((0 : Int), (0 : Int), ())))
theorem ztr : zmr = zeo := by
 (repeat (apply funext; intro _))
 simp only [zmr, zeo, hide_eq, zB9, zsD, zad, zag, zah, zaf, zak, zal, zaH, zaq]
def zft (N n : Nat) (n16 i17 ob0_0 ob0_1 : Int) (ob0_2 : List Row) (ob0_3 : List Pr) (p14o ob3 ob4 ob5 : List Fr) : Option (Int × Int × Unit) :=
 zan (fun A x => zeo N (fun n16 i17 ob0_0 ob0_1 ob0_2 ob0_3 p14o ob3 ob4 ob5 => A (((), ((), ((), (n16, (i17, ()))))), ((ob0_0, (ob0_1, (ob0_2, (ob0_3, ())))), (((), ((), ((), ()))), (p14o, (ob3, (ob4, (ob5, ())))))))) x.1.2.2.2.1 x.1.2.2.2.2.1 x.2.1.1 x.2.1.2.1 x.2.1.2.2.1 x.2.1.2.2.2.1 x.2.2.2.1 x.2.2.2.2.1 x.2.2.2.2.2.1 x.2.2.2.2.2.2.1) n (((), ((), ((), (n16, (i17, ()))))), ((ob0_0, (ob0_1, (ob0_2, (ob0_3, ())))), (((), ((), ((), ()))), (p14o, (ob3, (ob4, (ob5, ())))))))
theorem zts : zms = zft := by
 (repeat (apply funext; intro _))
 simp only [zms, zft, ztr, zad, zag, zah, zaf, zak, zal, zaH, zaq]
theorem zfY (N n : Nat) (n16 i17 ob0_0 ob0_1 : Int) (ob0_2 : List Row) (ob0_3 : List Pr) (p14o ob3 ob4 ob5 : List Fr) : zft N (n + 1) n16 i17 ob0_0 ob0_1 ob0_2 ob0_3 p14o ob3 ob4 ob5 = zeo N (zft N n) n16 i17 ob0_0 ob0_1 ob0_2 ob0_3 p14o ob3 ob4 ob5 := rfl
def zep (N : Nat) (A_10 : (List Fr) -> (List Fr) -> Int -> Int -> Int -> (List Row) -> (List Pr) -> (List Int) -> Option (Int × Int × Unit)) (public1 vals2 : List Fr) (i10 ob0_0 ob0_1 : Int) (ob0_2 : List Row) (ob0_3 : List Pr) (l9o : List Int) : Option (Int × Int × Unit) :=
 cond ((ltI i10 ob0_1)) (must (leI (0 : Int) i10 && ltI i10 (↑vals2.length : Int)) (must (leI (0 : Int) i10 && ltI i10 (↑l9o.length : Int)) (must (leI (0 : Int) (List.getD l9o i10.toNat (0 : Int)) && ltI (List.getD l9o i10.toNat (0 : Int)) (↑vals2.length : Int)) (cond (!eqL El.u64 [Fr.a0 (List.getD vals2 i10.toNat (Fr.zero)), Fr.a1 (List.getD vals2 i10.toNat (Fr.zero)), Fr.a2 (List.getD vals2 i10.toNat (Fr.zero)), Fr.a3 (List.getD vals2 i10.toNat (Fr.zero))] [Fr.a0 (List.getD vals2 (Int.toNat (List.getD l9o i10.toNat (0 : Int))) (Fr.zero)), Fr.a1 (List.getD vals2 (Int.toNat (List.getD l9o i10.toNat (0 : Int))) (Fr.zero)), Fr.a2 (List.getD vals2 (Int.toNat (List.getD l9o i10.toNat (0 : Int))) (Fr.zero)), Fr.a3 (List.getD vals2 (Int.toNat (List.getD l9o i10.toNat (0 : Int))) (Fr.zero))]) (some ((i10, (13 : Int), ()))) (A_10 public1 vals2 ((wr (i10 + (1 : Int)))) ob0_0 ob0_1 ob0_2 ob0_3 l9o))))) (Option.bind (q121 N ob0_0 ob0_1 ob0_2 ob0_3) fun rr0 => Option.bind (q97 N ob0_0 ob0_1 ob0_2 ob0_3 rr0.1 vals2) fun rr1 => Option.bind (q147 N rr0.1 public1) fun rr2 => must (leI (0 : Int) rr0.1) (must (ltI rr0.1 (18446744073709551616 : Int)) (zft N N ((shlI (1 : Int) (UInt64.toNat (UInt64.ofNat rr0.1.toNat)))) (0 : Int) ob0_0 ob0_1 ob0_2 ob0_3 rr2.1 (rr1.1.1) (Prod.fst (rr1.1.2)) (Prod.fst (Prod.snd (rr1.1.2))))))
theorem ztt : zmt = zep := by
 (repeat (apply funext; intro _))
 simp only [zmt, zep, hide_eq, zts, zCp, zwX, zCK, zad, zag, zah, zaf, zak, zal, zaH, zaq]
def zdC (N n : Nat) (public1 vals2 : List Fr) (i10 ob0_0 ob0_1 : Int) (ob0_2 : List Row) (ob0_3 : List Pr) (l9o : List Int) : Option (Int × Int × Unit) :=
 zan (fun A x => zep N (fun public1 vals2 i10 ob0_0 ob0_1 ob0_2 ob0_3 l9o => A ((public1, (vals2, ((), ((), (i10, ()))))), ((ob0_0, (ob0_1, (ob0_2, (ob0_3, ())))), (l9o, ())))) x.1.1 x.1.2.1 x.1.2.2.2.2.1 x.2.1.1 x.2.1.2.1 x.2.1.2.2.1 x.2.1.2.2.2.1 x.2.2.1) n ((public1, (vals2, ((), ((), (i10, ()))))), ((ob0_0, (ob0_1, (ob0_2, (ob0_3, ())))), (l9o, ())))
theorem ztu : zmu = zdC := by
 (repeat (apply funext; intro _))
 simp only [zmu, zdC, ztt, zad, zag, zah, zaf, zak, zal, zaH, zaq]
theorem zco (N n : Nat) (public1 vals2 : List Fr) (i10 ob0_0 ob0_1 : Int) (ob0_2 : List Row) (ob0_3 : List Pr) (l9o : List Int) : zdC N (n + 1) public1 vals2 i10 ob0_0 ob0_1 ob0_2 ob0_3 l9o = zep N (zdC N n) public1 vals2 i10 ob0_0 ob0_1 ob0_2 ob0_3 l9o := rfl
def q144 (N : Nat) (c0 public1 : Int) (vals2 : List Row) (v3 : List Pr) (v4 v5 : List Fr) : Option (Int × Int × Unit) :=
 Option.bind (q130 N c0 public1 vals2 v3) fun rr0 => cond (!eqI rr0.1 (0 : Int)) (some (((0 : Int), Prod.fst rr0, ()))) (cond (!eqI (↑v4.length : Int) c0) (some (((0 : Int), (14 : Int), ()))) (cond (!eqI (↑v5.length : Int) public1) (some (((0 : Int), (1 : Int), ()))) (Option.bind (q135 N c0 public1 vals2 v3) fun rr1 => zdC N N v4 v5 (0 : Int) c0 public1 vals2 v3 rr1.1)))
theorem zCL : p144 = q144 := by
 (repeat (apply funext; intro _))
 simp only [p144, q144, hide_eq, ztu, zCk, zCh, zad, zag, zah, zaf, zak, zal, zaH, zaq]
def zfZ (N : Nat) (A_19 : Bool -> Int -> (List Fr) -> (List Fr) -> (List Fr) -> (List Fr) -> (List Fr) -> (List Fr) -> Option (Bool × Unit)) (is26 : Bool) (c27 : Int) (ob2 ob3 ob4 ob5 ob6 ob7 : List Fr) : Option (Bool × Unit) :=
 cond ((ltI c27 (3 : Int))) (cond is26 (cond (eqI c27 (↑(0 : Nat) : Int)) (must (eqI c27 (↑(0 : Nat) : Int)) (Option.bind (q93 N ob2 ob5) fun rr2 => A_19 rr2.1 ((wr ((↑(0 : Nat) : Int) + (1 : Int)))) ob2 ob3 ob4 ob5 ob6 ob7)) (cond (eqI c27 (↑((0 : Nat) + (1 : Nat)) : Int)) (must (eqI c27 (↑((0 : Nat) + (1 : Nat)) : Int)) (Option.bind (q93 N ob3 ob6) fun rr1 => A_19 rr1.1 ((wr ((↑((0 : Nat) + (1 : Nat)) : Int) + (1 : Int)))) ob2 ob3 ob4 ob5 ob6 ob7)) (must (eqI c27 (↑((0 : Nat) + (1 : Nat) + (1 : Nat)) : Int)) (must (eqI c27 (↑((0 : Nat) + (1 : Nat) + (1 : Nat)) : Int)) (Option.bind (q93 N ob4 ob7) fun rr0 => A_19 rr0.1 ((wr ((↑((0 : Nat) + (1 : Nat) + (1 : Nat)) : Int) + (1 : Int)))) ob2 ob3 ob4 ob5 ob6 ob7))))) (A_19 false ((wr (c27 + (1 : Int)))) ob2 ob3 ob4 ob5 ob6 ob7)) (some ((is26, ())))
theorem zv5 : zr6 = zfZ := by
 (repeat (apply funext; intro _))
 simp only [zr6, zfZ, hide_eq, zCb, zad, zag, zah, zaf, zak, zal, zaH, zaq]
def zbZ (N n : Nat) (is26 : Bool) (c27 : Int) (ob2 ob3 ob4 ob5 ob6 ob7 : List Fr) : Option (Bool × Unit) :=
 zan (fun A x => zfZ N (fun is26 c27 ob2 ob3 ob4 ob5 ob6 ob7 => A (((), ((), (is26, (c27, ())))), (((), ((), ((), ()))), (((), ((), ((), ()))), (ob2, (ob3, (ob4, (ob5, (ob6, (ob7, ())))))))))) x.1.2.2.1 x.1.2.2.2.1 x.2.2.2.1 x.2.2.2.2.1 x.2.2.2.2.2.1 x.2.2.2.2.2.2.1 x.2.2.2.2.2.2.2.1 x.2.2.2.2.2.2.2.2.1) n (((), ((), (is26, (c27, ())))), (((), ((), ((), ()))), (((), ((), ((), ()))), (ob2, (ob3, (ob4, (ob5, (ob6, (ob7, ())))))))))
theorem zv6 : zii = zbZ := by
 (repeat (apply funext; intro _))
 simp only [zii, zbZ, zv5, zad, zag, zah, zaf, zak, zal, zaH, zaq]
theorem zdd (N n : Nat) (is26 : Bool) (c27 : Int) (ob2 ob3 ob4 ob5 ob6 ob7 : List Fr) : zbZ N (n + 1) is26 c27 ob2 ob3 ob4 ob5 ob6 ob7 = zfZ N (zbZ N n) is26 c27 ob2 ob3 ob4 ob5 ob6 ob7 := rfl
def q39 (N : Nat) (l0 : List UInt8) (log1 : Int) (at2 : UInt8) (by3 : Fr) (less4 : Bool) : Option (Bool × Unit) :=
 Option.bind (q142 N) fun rr0 => cond (!rr0.1) (some ((false, ()))) (cond ((ltI (80 : Int) (↑l0.length : Int))) (some ((true, ()))) (Option.bind (q69 N (by3)) fun rr1 => cond (!rr1.1) (some ((true, ()))) (Option.bind (q95 N l0 (14 : Int)) fun rr2 => let w2 := Prod.snd (Prod.snd (rr2.1.2)); let w0 := Prod.fst (Prod.snd (Prod.snd w2)); let w7 := (↑(List.length w0) : Int); let w1 := (Int.tmod ((↑at2.toNat : Int)) w7); let w3 := Int.toNat w1; let w4 := Prod.fst (Prod.snd (rr2.1.2)); let w5 := Prod.fst (Prod.snd w2); let w6 := Prod.fst (rr2.1.2); let w8 := List.getD w0 w3 (Fr.zero); let w9 := Prod.fst w2; let w10 := rr2.1.1; must (leN (((0 : Nat) + List.length w0) * (32 : Nat)) (140737488355328 : Nat)) (must (!eqI w7 (0 : Int)) (must (leI (0 : Int) w1 && ltI w1 w7) (Option.bind (q81 N (Fr.mk (Fr.a0 w8) (Fr.a1 w8) (Fr.a2 w8) (Fr.a3 w8)) (by3)) fun rr3 => let w12 := setL w0 w3 (rr3.1); let w13 := wr ((↑(List.length w12) : Int) - (1 : Int)); let w11 := List.take (Int.toNat (w13 - (0 : Int))) w12; must (leI (0 : Int) w1 && ltI w1 w7) (cond less4 (must (leI (0 : Int) (w13) && leI (w13) (↑(List.length w12) : Int)) (Option.bind (q143 N w10 w6 w4 w9 w5 w11) fun rr11 => Option.bind (q144 N w10 w6 w4 w9 w5 w11) fun rr12 => Option.bind (q145 N w10 w6 w4 w9 log1 w11) fun rr13 => let w14 := Prod.fst (Prod.snd (rr13.1.2)); let w15 := Prod.fst (rr13.1.2); Option.bind (q97 N w10 w6 w4 w9 log1 w11) fun rr14 => let w16 := zbZ N N false (0 : Int) (rr13.1.1) w15 w14 (rr14.1.1) (Prod.fst (rr14.1.2)) (Prod.fst (Prod.snd (rr14.1.2))); Option.bind (q146 N log1 w5) fun rr15 => Option.bind (q147 N log1 w5) fun rr16 => cond ((eqI rr11.1 rr12.1)) (cond ((eqI (rr11.2.1) (rr12.2.1))) (cond ((eqI (rr13.2.1) (rr14.2.1))) (cond ((eqI (rr15.2.1) (rr16.2.1))) (Option.bind (q93 N rr15.1 rr16.1) fun rr17 => zbZ N N rr17.1 (0 : Int) (rr13.1.1) w15 w14 (rr14.1.1) (Prod.fst (rr14.1.2)) (Prod.fst (Prod.snd (rr14.1.2)))) w16) w16) w16) w16)) (Option.bind (q143 N w10 w6 w4 w9 w5 w12) fun rr4 => Option.bind (q144 N w10 w6 w4 w9 w5 w12) fun rr5 => Option.bind (q145 N w10 w6 w4 w9 log1 w12) fun rr6 => let w17 := Prod.fst (Prod.snd (rr6.1.2)); let w18 := Prod.fst (rr6.1.2); Option.bind (q97 N w10 w6 w4 w9 log1 w12) fun rr7 => let w19 := zbZ N N false (0 : Int) (rr6.1.1) w18 w17 (rr7.1.1) (Prod.fst (rr7.1.2)) (Prod.fst (Prod.snd (rr7.1.2))); Option.bind (q146 N log1 w5) fun rr8 => Option.bind (q147 N log1 w5) fun rr9 => cond ((eqI rr4.1 rr5.1)) (cond ((eqI (rr4.2.1) (rr5.2.1))) (cond ((eqI (rr6.2.1) (rr7.2.1))) (cond ((eqI (rr8.2.1) (rr9.2.1))) (Option.bind (q93 N rr8.1 rr9.1) fun rr10 => zbZ N N rr10.1 (0 : Int) (rr6.1.1) w18 w17 (rr7.1.1) (Prod.fst (rr7.1.2)) (Prod.fst (Prod.snd (rr7.1.2)))) w19) w19) w19) w19))))))))
theorem zEv : p39 = q39 := by
 (repeat (apply funext; intro _))
 simp only [p39, q39, hide_eq, zv6, zCF, zwW, zCL, ztl, zwV, zwX, zyC, zyJ, zCb, zCo, zCK, zad, zag, zah, zaf, zak, zal, zaH, zaq]
end
section
theorem zb8 {rows : List Row} {v : List Fr} {n j : Nat} {l m : List Fr} (h1 : zcI rows v n j l) (h2 : zcI rows v n j m) : l = m := by
 refine List.ext_getElem (by rw [h1.1, h2.1]) fun i a b => ?_
 have e1 := h1.2 i (by rw [← h1.1]; exact a)
 have e2 := h2.2 i (by rw [← h1.1]; exact a)
 rw [List.getD_eq_getElem?_getD, List.getElem?_eq_getElem a] at e1
 rw [List.getD_eq_getElem?_getD, List.getElem?_eq_getElem b] at e2
 exact e1.trans e2.symm
theorem zzq {x L : Nat} (h : L <= 6) : shrI (x : Int) (UInt64.toNat (UInt64.ofNat (Int.toNat (L : Int)))) = ((x / 2 ^ L : Nat) : Int) := by
 have e : UInt64.toNat (UInt64.ofNat (Int.toNat (L : Int))) = L := by simp; omega
 rw [e]
 exact zvj h
theorem ztv (rows : List Row) (v : List Fr) (n x : Nat) : ceV rows v (x % n) (x / n) = if 0 <= varC rows n x then v.getD (varC rows n x).toNat Fr.zero else Fr.zero := by
 unfold ceV varC
 by_cases h : rows.length <= x % n
 ·rw [if_pos h, if_neg (fun c => absurd c.1 (by omega)), if_neg (by decide)]
 ·rw [if_neg h]
  by_cases h2 : 0 <= rw3 (rows.getD (x % n) zrow) (x / n)
  ·rw [if_pos ⟨by omega, h2⟩, if_pos h2]
  ·rw [if_neg (fun c => h2 c.2), if_neg h2]
section
variable {N L V : Nat} {c0 : Int} {rows : List Row} {S : List Pr} {v : List Fr} (h1 : 1 <= L) (h6 : L <= 6) (hv : v.length = V) (hV : V <= 200) (hin : ∀ r ∈ rows, ∀ j, -1 <= rw3 r j /\ rw3 r j < (V : Int))
include h1 h6 hv hV hin
theorem ztw (x : Nat) (h : 0 <= varC rows (2 ^ L) x) : varC rows (2 ^ L) x < (V : Int) := by
 have _u := And.intro h1 (And.intro h6 (And.intro hv hV))
 unfold varC at h ⊢
 split
 ·omega
 ·rename_i h2
  exact (hin _ (zkS (by omega)) _).2
theorem ztx {o1 o2 : List Fr} : ∀ (k i f : Nat) (o0 : List Fr), i + k = 2 ^ L -> o0.length = i -> (∀ m, m < i -> o0.getD m Fr.zero = ceV rows v m 0) ->
  ∃ o', zcJ N (f + k) (L : Int) v ((0 * 2 ^ L + i : Nat) : Int) c0 (V : Int) rows S [] [] [] o0 o1 o2 = zcJ N f (L : Int) v (((0 + 1) * 2 ^ L : Nat) : Int) c0 (V : Int) rows S [] [] [] o' o1 o2 /\ zcI rows v (2 ^ L) 0 o'
 | 0, i, f, o0, h, hl, ho => by
  refine ⟨o0, ?_, by omega, fun m hm => ho m (by omega)⟩
  rw [show 0 * 2 ^ L + i = (0 + 1) * 2 ^ L by omega]
  rfl
 | k + 1, i, f, o0, h, hl, ho => by
  have hle := zaZ h6
  have hc := cell (n := 2 ^ L) (j := 0) (i := i) (by omega)
  have hx : 0 * 2 ^ L + i < 3 * 2 ^ L := by omega
  have hce := ztv rows v (2 ^ L) (0 * 2 ^ L + i)
  rw [hc.1, hc.2] at hce
  have step : zcJ N (f + (k + 1)) (L : Int) v ((0 * 2 ^ L + i : Nat) : Int) c0 (V : Int) rows S [] [] [] o0 o1 o2 = zcJ N (f + k) (L : Int) v ((0 * 2 ^ L + i + 1 : Nat) : Int) c0 (V : Int) rows S [] [] [] (o0 ++ [ceV rows v i 0]) o1 o2 := by
   rw [show f + (k + 1) = (f + k) + 1 from rfl, zdN]
   unfold zkX
   rw [zaA (by omega : (0 : Int) <= (L : Int)), zab (by omega : (L : Int) < 18446744073709551616), sh3' h6, zmR c0 (V : Int) rows S h6 hx, zzq h6, hc.1, zar (by omega), zab (by omega : (((0 * 2 ^ L + i : Nat)) : Int) < ((3 * 2 ^ L : Nat) : Int))]
   simp only [mst2, cond_true, bsm, List.length_cons, List.length_nil]
   by_cases hneg : 0 <= varC rows (2 ^ L) (0 * 2 ^ L + i)
   ·rw [if_pos hneg] at hce
    rw [zaA hneg, cond_true, zab (by rw [hv]; exact ztw h1 h6 hv hV hin _ hneg), Bool.and_self, mst2, show eqI ((0 : Nat) : Int) ((0 : Nat) : Int) = true from rfl, cond_true, cond_true, zaE (by omega)]
    simp only [mst2, cond_false]
    rw [hce]
   ·rw [if_neg hneg] at hce
    rw [zaF hneg, cond_false, show eqI ((0 : Nat) : Int) ((0 : Nat) : Int) = true from rfl, cond_true, cond_true, zaE (by omega)]
    simp only [mst2, cond_false]
    rw [hce]
  obtain ⟨o', e, ic⟩ := ztx (o1 := o1) (o2 := o2) k (i + 1) f (o0 ++ [ceV rows v i 0]) (by omega) (by simp [hl]) (fun m hm => by
   rw [List.getD_eq_getElem?_getD]
   rcases Nat.lt_or_ge m i with h2 | h2
   ·rw [List.getElem?_append_left (by omega), ← List.getD_eq_getElem?_getD]; exact ho m h2
   ·have : m = i := by omega
    subst this
    rw [List.getElem?_append_right (by omega), hl, Nat.sub_self]; rfl)
  exact ⟨o', step.trans e, ic⟩
theorem zty {o0 o2 : List Fr} : ∀ (k i f : Nat) (o1 : List Fr), i + k = 2 ^ L -> o1.length = i -> (∀ m, m < i -> o1.getD m Fr.zero = ceV rows v m 1) ->
  ∃ o', zcJ N (f + k) (L : Int) v ((1 * 2 ^ L + i : Nat) : Int) c0 (V : Int) rows S [] [] [] o0 o1 o2 = zcJ N f (L : Int) v (((1 + 1) * 2 ^ L : Nat) : Int) c0 (V : Int) rows S [] [] [] o0 o' o2 /\ zcI rows v (2 ^ L) 1 o'
 | 0, i, f, o1, h, hl, ho => by
  refine ⟨o1, ?_, by omega, fun m hm => ho m (by omega)⟩
  rw [show 1 * 2 ^ L + i = (1 + 1) * 2 ^ L by omega]
  rfl
 | k + 1, i, f, o1, h, hl, ho => by
  have hle := zaZ h6
  have hc := cell (n := 2 ^ L) (j := 1) (i := i) (by omega)
  have hx : 1 * 2 ^ L + i < 3 * 2 ^ L := by omega
  have hce := ztv rows v (2 ^ L) (1 * 2 ^ L + i)
  rw [hc.1, hc.2] at hce
  have step : zcJ N (f + (k + 1)) (L : Int) v ((1 * 2 ^ L + i : Nat) : Int) c0 (V : Int) rows S [] [] [] o0 o1 o2 = zcJ N (f + k) (L : Int) v ((1 * 2 ^ L + i + 1 : Nat) : Int) c0 (V : Int) rows S [] [] [] o0 (o1 ++ [ceV rows v i 1]) o2 := by
   rw [show f + (k + 1) = (f + k) + 1 from rfl, zdN]
   unfold zkX
   rw [zaA (by omega : (0 : Int) <= (L : Int)), zab (by omega : (L : Int) < 18446744073709551616), sh3' h6, zmR c0 (V : Int) rows S h6 hx, zzq h6, hc.1, zar (by omega), zab (by omega : (((1 * 2 ^ L + i : Nat)) : Int) < ((3 * 2 ^ L : Nat) : Int))]
   simp only [mst2, cond_true, bsm, List.length_cons, List.length_nil]
   by_cases hneg : 0 <= varC rows (2 ^ L) (1 * 2 ^ L + i)
   ·rw [if_pos hneg] at hce
    rw [zaA hneg, cond_true, zab (by rw [hv]; exact ztw h1 h6 hv hV hin _ hneg), Bool.and_self, mst2, show eqI ((1 : Nat) : Int) ((0 : Nat) : Int) = false from rfl, cond_false, cond_false, show eqI ((1 : Nat) : Int) ((0 + 1 : Nat) : Int) = true from rfl, cond_true, cond_true, zaE (by omega)]
    simp only [mst2, cond_false]
    rw [hce]
   ·rw [if_neg hneg] at hce
    rw [zaF hneg, cond_false, show eqI ((1 : Nat) : Int) ((0 : Nat) : Int) = false from rfl, cond_false, cond_false, show eqI ((1 : Nat) : Int) ((0 + 1 : Nat) : Int) = true from rfl, cond_true, cond_true, zaE (by omega)]
    simp only [mst2, cond_false]
    rw [hce]
  obtain ⟨o', e, ic⟩ := zty (o0 := o0) (o2 := o2) k (i + 1) f (o1 ++ [ceV rows v i 1]) (by omega) (by simp [hl]) (fun m hm => by
   rw [List.getD_eq_getElem?_getD]
   rcases Nat.lt_or_ge m i with h2 | h2
   ·rw [List.getElem?_append_left (by omega), ← List.getD_eq_getElem?_getD]; exact ho m h2
   ·have : m = i := by omega
    subst this
    rw [List.getElem?_append_right (by omega), hl, Nat.sub_self]; rfl)
  exact ⟨o', step.trans e, ic⟩
theorem ztz {o0 o1 : List Fr} : ∀ (k i f : Nat) (o2 : List Fr), i + k = 2 ^ L -> o2.length = i -> (∀ m, m < i -> o2.getD m Fr.zero = ceV rows v m 2) ->
  ∃ o', zcJ N (f + k) (L : Int) v ((2 * 2 ^ L + i : Nat) : Int) c0 (V : Int) rows S [] [] [] o0 o1 o2 = zcJ N f (L : Int) v (((2 + 1) * 2 ^ L : Nat) : Int) c0 (V : Int) rows S [] [] [] o0 o1 o' /\ zcI rows v (2 ^ L) 2 o'
 | 0, i, f, o2, h, hl, ho => by
  refine ⟨o2, ?_, by omega, fun m hm => ho m (by omega)⟩
  rw [show 2 * 2 ^ L + i = (2 + 1) * 2 ^ L by omega]
  rfl
 | k + 1, i, f, o2, h, hl, ho => by
  have hle := zaZ h6
  have hc := cell (n := 2 ^ L) (j := 2) (i := i) (by omega)
  have hx : 2 * 2 ^ L + i < 3 * 2 ^ L := by omega
  have hce := ztv rows v (2 ^ L) (2 * 2 ^ L + i)
  rw [hc.1, hc.2] at hce
  have step : zcJ N (f + (k + 1)) (L : Int) v ((2 * 2 ^ L + i : Nat) : Int) c0 (V : Int) rows S [] [] [] o0 o1 o2 = zcJ N (f + k) (L : Int) v ((2 * 2 ^ L + i + 1 : Nat) : Int) c0 (V : Int) rows S [] [] [] o0 o1 (o2 ++ [ceV rows v i 2]) := by
   rw [show f + (k + 1) = (f + k) + 1 from rfl, zdN]
   unfold zkX
   rw [zaA (by omega : (0 : Int) <= (L : Int)), zab (by omega : (L : Int) < 18446744073709551616), sh3' h6, zmR c0 (V : Int) rows S h6 hx, zzq h6, hc.1, zar (by omega), zab (by omega : (((2 * 2 ^ L + i : Nat)) : Int) < ((3 * 2 ^ L : Nat) : Int))]
   simp only [mst2, cond_true, bsm, List.length_cons, List.length_nil]
   by_cases hneg : 0 <= varC rows (2 ^ L) (2 * 2 ^ L + i)
   ·rw [if_pos hneg] at hce
    rw [zaA hneg, cond_true, zab (by rw [hv]; exact ztw h1 h6 hv hV hin _ hneg), Bool.and_self, mst2, show eqI ((2 : Nat) : Int) ((0 : Nat) : Int) = false from rfl, cond_false, cond_false, show eqI ((2 : Nat) : Int) ((0 + 1 : Nat) : Int) = false from rfl, cond_false, cond_false, show eqI ((2 : Nat) : Int) ((0 + 1 + 1 : Nat) : Int) = true from rfl, zaE (by omega)]
    simp only [mst2, cond_false]
    rw [hce]
   ·rw [if_neg hneg] at hce
    rw [zaF hneg, cond_false, show eqI ((2 : Nat) : Int) ((0 : Nat) : Int) = false from rfl, cond_false, cond_false, show eqI ((2 : Nat) : Int) ((0 + 1 : Nat) : Int) = false from rfl, cond_false, cond_false, show eqI ((2 : Nat) : Int) ((0 + 1 + 1 : Nat) : Int) = true from rfl, zaE (by omega)]
    simp only [mst2, cond_false]
    rw [hce]
  obtain ⟨o', e, ic⟩ := ztz (o0 := o0) (o1 := o1) k (i + 1) f (o2 ++ [ceV rows v i 2]) (by omega) (by simp [hl]) (fun m hm => by
   rw [List.getD_eq_getElem?_getD]
   rcases Nat.lt_or_ge m i with h2 | h2
   ·rw [List.getElem?_append_left (by omega), ← List.getD_eq_getElem?_getD]; exact ho m h2
   ·have : m = i := by omega
    subst this
    rw [List.getElem?_append_right (by omega), hl, Nat.sub_self]; rfl)
  exact ⟨o', step.trans e, ic⟩
theorem ztA (hN : 2000 <= N) : ∃ o0 o1 o2, zcJ N N (L : Int) v 0 c0 (V : Int) rows S [] [] [] [] [] [] = some ((o0, o1, o2, ()), 0, ()) /\ zcI rows v (2 ^ L) 0 o0 /\ zcI rows v (2 ^ L) 1 o1 /\ zcI rows v (2 ^ L) 2 o2 := by
 have hle := zaZ h6
 obtain ⟨f, hf⟩ : ∃ f, N = (((f + 1) + 2 ^ L) + 2 ^ L) + 2 ^ L := ⟨N - 1 - 3 * 2 ^ L, by omega⟩
 obtain ⟨o0, e0, i0⟩ := ztx (N := N) (c0 := c0) (S := S) h1 h6 hv hV hin (o1 := []) (o2 := []) (2 ^ L) 0 (((f + 1) + 2 ^ L) + 2 ^ L) [] (by omega) rfl (fun m hm => absurd hm (by omega))
 obtain ⟨o1, e1, i1⟩ := zty (N := N) (c0 := c0) (S := S) h1 h6 hv hV hin (o0 := o0) (o2 := []) (2 ^ L) 0 ((f + 1) + 2 ^ L) [] (by omega) rfl (fun m hm => absurd hm (by omega))
 obtain ⟨o2, e2, i2⟩ := ztz (N := N) (c0 := c0) (S := S) h1 h6 hv hV hin (o0 := o0) (o1 := o1) (2 ^ L) 0 (f + 1) [] (by omega) rfl (fun m hm => absurd hm (by omega))
 refine ⟨o0, o1, o2, ?_, i0, i1, i2⟩
 have eN : zcJ N N (L : Int) v 0 c0 (V : Int) rows S [] [] [] [] [] [] = zcJ N ((((f + 1) + 2 ^ L) + 2 ^ L) + 2 ^ L) (L : Int) v ((0 * 2 ^ L + 0 : Nat) : Int) c0 (V : Int) rows S [] [] [] [] [] [] := by
  rw [← hf, show 0 * 2 ^ L + 0 = 0 by omega]; rfl
 rw [eN, e0]
 rw [show (0 + 1) * 2 ^ L = 1 * 2 ^ L + 0 by omega, e1, show (1 + 1) * 2 ^ L = 2 * 2 ^ L + 0 by omega, e2, zdN]
 unfold zkX
 rw [zaA (by omega : (0 : Int) <= (L : Int)), zab (by omega : (L : Int) < 18446744073709551616), sh3' h6, zaa (by omega)]
 simp only [mst2, cond_false]
end
theorem zi1 {N V : Nat} (hN : 2000 <= N) {c0 : Int} {rows : List Row} {S : List Pr} {v : List Fr} (hg : GoodCirc c0 (V : Int) rows S) (log : Int) :
  ∃ r, q145 N c0 (V : Int) rows S log v = some r /\ q97 N c0 (V : Int) rows S log v = some r /\ r.1.1.length < 1000 /\ r.1.2.1.length < 1000 /\ r.1.2.2.1.length < 1000 := by
 have hV := hg.v200
 by_cases h1 : log < 1
 ·refine ⟨(([], [], [], ()), 1, ()), ?_, ?_, by simp, by simp, by simp⟩
  ·unfold q145; rw [zab h1, cond_true]
  ·unfold q97; rw [zab h1, cond_true]
 by_cases h6 : 6 < log
 ·refine ⟨(([], [], [], ()), 1, ()), ?_, ?_, by simp, by simp, by simp⟩
  ·unfold q145; rw [zaa h1, cond_false, zab h6, cond_true]
  ·unfold q97; rw [zaa h1, cond_false, zab h6, cond_true]
 obtain ⟨L, rfl⟩ : ∃ L : Nat, log = (L : Int) := ⟨log.toNat, by omega⟩
 have hle := zaZ (show L <= 6 by omega)
 by_cases hr : 2 ^ L < rows.length
 ·refine ⟨(([], [], [], ()), 1, ()), ?_, ?_, by simp, by simp, by simp⟩
  ·unfold q145; rw [zaa h1, cond_false, zaa h6, cond_false, sh1 (by omega), zab (by omega), cond_true]
  ·unfold q97; rw [zaa h1, cond_false, zaa h6, cond_false, zaA (by omega), mst2, zab (by omega : (L : Int) < 18446744073709551616), mst2, sh1' (by omega), zab (by omega), cond_true]
 by_cases hv : v.length = V
 ·obtain ⟨o0, o1, o2, e, i0, i1, i2⟩ := zmY (N := N) hN hg (L := L) (by omega) (by omega) (by omega) hv
  obtain ⟨p0, p1, p2, e', j0, j1, j2⟩ := ztA (N := N) (L := L) (c0 := c0) (S := S) (by omega) (by omega) hv (by omega) (fun r hr j => hg.vars hr j) hN
  obtain rfl := zb8 i0 j0
  obtain rfl := zb8 i1 j1
  obtain rfl := zb8 i2 j2
  refine ⟨_, e, ?_, by simp only; rw [i0.1]; omega, by simp only; rw [i1.1]; omega, by simp only; rw [i2.1]; omega⟩
  unfold q97
  rw [zaa h1, cond_false, zaa h6, cond_false, zaA (by omega), mst2, zab (by omega : (L : Int) < 18446744073709551616), mst2, sh1' (by omega), zaa (by omega), cond_false, zax (by rw [hv]), Bool.not_true, cond_false]
  exact e'
 ·refine ⟨(([], [], [], ()), 1, ()), ?_, ?_, by simp, by simp, by simp⟩
  ·unfold q145; rw [zaa h1, cond_false, zaa h6, cond_false, sh1 (by omega), zaa (by omega), cond_false, zaV (by omega), Bool.not_false, cond_true]
  ·unfold q97; rw [zaa h1, cond_false, zaa h6, cond_false, zaA (by omega), mst2, zab (by omega : (L : Int) < 18446744073709551616), mst2, sh1' (by omega), zaa (by omega), cond_false, zaV (by omega), Bool.not_false, cond_true]
end
section
theorem znW {N n : Nat} (hN : 2000 <= N) {pub : List Fr} (hn : n <= 64) (hp : pub.length <= n) (hs : ∀ x ∈ pub, Sc x) : ∀ (k t f : Nat) (o : List Fr), t + k = pub.length -> k < f -> o.length = n ->
  ∃ o', zhy N f pub (pub.length : Int) (t : Int) o = some (o', 0, ()) /\ zi0 N f pub (t : Int) o = some (o', 0, ()) /\ o'.length = n
 | 0, t, f + 1, o, h1, h2, h3 => by
  refine ⟨o, ?_, ?_, h3⟩
  ·rw [zdc]
   unfold zfW
   rw [zaa (by omega), cond_false]
  ·rw [zhA]
   unfold ziZ
   rw [zaa (by omega), cond_false]
 | k + 1, t, f + 1, o, h1, h2, h3 => by
  have hsc : Sc (pub.getD t Fr.zero) := ztp hs t
  obtain ⟨o', e1, e2, e3⟩ := znW hN hn hp hs k (t + 1) f (setL o t (frN ((RR - fv (pub.getD t Fr.zero)) % RR))) (by omega) (by omega) (by rw [zaQ]; exact h3)
  refine ⟨o', ?_, ?_, e3⟩
  ·rw [zdc]
   unfold zfW
   rw [zab (by omega), cond_true, zaA (by omega : (0 : Int) <= (t : Int)), Bool.and_self, mst2, Int.toNat_natCast, zwH (by omega) hsc]
   simp only [bsm]
   rw [zab (by omega : (t : Int) < (o.length : Int)), Bool.and_self, mst2, zar (by omega)]
   exact e1
  ·rw [zhA]
   unfold ziZ
   rw [zab (by omega), cond_true, zaA (by omega : (0 : Int) <= (t : Int)), Bool.and_self, mst2, Int.toNat_natCast, zsA (by omega) hsc]
   simp only [bsm]
   rw [zab (by omega : (t : Int) < (o.length : Int)), Bool.and_self, mst2, zar (by omega)]
   exact e2
theorem znX {N : Nat} (hN : 2000 <= N) {pub : List Fr} (hs : ∀ x ∈ pub, Sc x) (log : Int) : ∃ r, q146 N log pub = some r /\ q147 N log pub = some r /\ r.1.length < 1000 := by
 by_cases h1 : log < 1
 ·refine ⟨([], 1, ()), ?_, ?_, by simp⟩
  ·unfold q146; rw [zab h1, cond_true]
  ·unfold q147; rw [zab h1, cond_true]
 by_cases h6 : 6 < log
 ·refine ⟨([], 1, ()), ?_, ?_, by simp⟩
  ·unfold q146; rw [zaa h1, cond_false, zab h6, cond_true]
  ·unfold q147; rw [zaa h1, cond_false, zab h6, cond_true]
 obtain ⟨L, rfl⟩ : ∃ L : Nat, log = (L : Int) := ⟨log.toNat, by omega⟩
 have hle := zaZ (show L <= 6 by omega)
 by_cases hr : 2 ^ L < pub.length
 ·refine ⟨([], 1, ()), ?_, ?_, by simp⟩
  ·unfold q146; rw [zaa h1, cond_false, zaa h6, cond_false, sh1 (by omega), zab (by omega), cond_true]
  ·unfold q147; rw [zaa h1, cond_false, zaa h6, cond_false, zaA (by omega), mst2, zab (by omega : (L : Int) < 18446744073709551616), mst2, sh1' (by omega), zab (by omega), cond_true]
 ·obtain ⟨o, e1, e2, e3⟩ := znW (N := N) (n := 2 ^ L) hN hle (by omega) hs pub.length 0 N (List.replicate (2 ^ L) Fr.zero) (by omega) (by omega) List.length_replicate
  refine ⟨(o, 0, ()), ?_, ?_, by simp only; omega⟩
  ·unfold q146
   rw [zaa h1, cond_false, zaa h6, cond_false, sh1 (by omega), zaa (by omega), cond_false, zas, zax rfl, Int.toNat_natCast, zaE (by omega)]
   simp only [Bool.and_self, mst2]
   exact e1
  ·unfold q147
   rw [zaa h1, cond_false, zaa h6, cond_false, zaA (by omega), mst2, zab (by omega : (L : Int) < 18446744073709551616), mst2, sh1' (by omega), zaa (by omega), cond_false]
   simp only [mst2]
   rw [zas, zax rfl, Int.toNat_natCast, zaE (by omega)]
   simp only [Bool.and_self, mst2]
   exact e2
abbrev Tell := Option (Int × Int × Unit)
def cpF (v : List Fr) (cl : List Int) (R : Tell) : Nat -> Nat -> Tell
 | 0, _ => R
 | k + 1, t => cond (!decide (v.getD t Fr.zero = v.getD (cl.getD t 0).toNat Fr.zero)) (some ((t : Int), 13, ())) (cpF v cl R k (t + 1))
def rwF (rows : List Row) (v pub : List Fr) (n : Nat) : Nat -> Nat -> Tell
 | 0, _ => some (0, 0, ())
 | k + 1, i => cond (!eqF (rowV rows v pub n i) Fr.zero) (some ((i : Int), 12, ())) (rwF rows v pub n k (i + 1))
def lgF (len : Nat) : Nat -> Nat -> Nat
 | 0, k => k
 | d + 1, k => if 2 ^ k < len then lgF len d (k + 1) else k
theorem znY (len : Nat) : ∀ d k, k <= lgF len d k /\ lgF len d k <= k + d /\ (len <= 2 ^ lgF len d k \/ lgF len d k = k + d)
 | 0, k => ⟨Nat.le_refl _, Nat.le_refl _, .inr rfl⟩
 | d + 1, k => by
  unfold lgF
  split
  ·obtain ⟨a, b, c⟩ := znY len d (k + 1)
   exact ⟨by omega, by omega, by rcases c with c | c; exact .inl c; exact .inr (by omega)⟩
  ·exact ⟨Nat.le_refl _, by omega, .inl (by omega)⟩
theorem zCM {N : Nat} (c0 v1 : Int) (rows : List Row) (S : List Pr) : ∀ (d k f : Nat), 1 <= k -> k + d = 6 -> d < f -> zch N f (k : Int) c0 v1 rows S = some (((lgF rows.length d k : Nat) : Int), ()) /\ ziV N f (k : Int) c0 v1 rows S = some (((lgF rows.length d k : Nat) : Int), ())
 | 0, k, f + 1, h1, h2, h3 => by
  rw [zbk, zhv]
  unfold zbB ziU
  rw [zaa (by omega), cond_false, cond_false]
  exact ⟨rfl, rfl⟩
 | d + 1, k, f + 1, h1, h2, h3 => by
  have ih := zCM (N := N) c0 v1 rows S d (k + 1) f (by omega) (by omega)
  rw [zbk, zhv]
  unfold zbB ziU lgF
  rw [zab (by omega : (k : Int) < 6), cond_true, cond_true, sh1 (by omega), sh1' (by omega), zaA (by omega), mst2, zab (by omega : (k : Int) < 18446744073709551616), mst2, zar (by omega)]
  by_cases hl : 2 ^ k < rows.length
  ·rw [zab (by omega), cond_true, cond_true, if_pos hl]
   exact ih (by omega)
  ·rw [zaa (by omega), cond_false, cond_false, if_neg hl]
   exact ⟨rfl, rfl⟩
theorem zwY {N V : Nat} (hV : V <= 200) {c0 : Int} {rows : List Row} {S : List Pr} {v pub : List Fr} {cl : List Int} (hv : v.length = V) (hcl : cl.length = V) (hin : ∀ i, i < V -> ∃ c : Nat, c < V /\ cl.getD i 0 = (c : Int)) : ∀ (k t f : Nat), t + k = V -> k < f ->
  zcj N f pub v (V : Int) (t : Int) c0 (V : Int) rows S cl = cpF v cl (zcj N 1 pub v (V : Int) (V : Int) c0 (V : Int) rows S cl) k t /\
  zdC N f pub v (t : Int) c0 (V : Int) rows S cl = cpF v cl (zdC N 1 pub v (V : Int) c0 (V : Int) rows S cl) k t
 | 0, t, f + 1, h1, h2 => by
  rw [show t = V by omega]
  unfold cpF
  rw [show (1 : Nat) = 0 + 1 from rfl, zbd, zbd, zco, zco]
  unfold zd1 zep
  rw [zaa (by omega)]
  exact ⟨rfl, rfl⟩
 | k + 1, t, f + 1, h1, h2 => by
  obtain ⟨c, hc, ec⟩ := hin t (by omega)
  obtain ⟨i1, i2⟩ := zwY (N := N) (c0 := c0) (rows := rows) (S := S) (pub := pub) hV hv hcl hin k (t + 1) f (by omega) (by omega)
  unfold cpF
  rw [← i1, ← i2]
  constructor
  ·rw [zbd]
   unfold zd1
   rw [zab (by omega), cond_true, hcl, hv, Int.toNat_natCast, ec, ixk (by omega : t < V), ixk hc, zkJ, zar (by omega), Int.toNat_natCast]
   simp only [mst2]
  ·rw [zco]
   unfold zep
   rw [zab (by omega), cond_true, hcl, hv, Int.toNat_natCast, ec, ixk (by omega : t < V), ixk hc, zkJ, zar (by omega), Int.toNat_natCast]
   simp only [mst2]
section
variable {N n : Nat} (hN : 2000 <= N) {c0 v1 : Int} {rows : List Row} {S : List Pr} {v pub own o0 o1 o2 : List Fr} (hn : n <= 64) (h1 : 1 <= n) (hsel : zv0 rows) (hv : ∀ x ∈ v, Sc x)
 (hi0 : zcI rows v n 0 o0) (hi1 : zcI rows v n 1 o1) (hi2 : zcI rows v n 2 o2) (hol : own.length = n) (ho : ∀ i, i < n -> own.getD i Fr.zero = ownV pub i)
include hN hn h1 hsel hv hi0 hi1 hi2 hol ho
theorem ztB : ∀ (k i f : Nat), i + k + 1 = n -> k < f -> zci N f (i : Int) c0 v1 rows S own o0 o1 o2 = rwF rows v pub n (k + 1) i
 | k, i, f + 1, hk, hf => by
  rw [zd0, znT hN hn h1 hsel hv hi0 hi1 hi2 hol ho (by omega)]
  cases k with
  | zero =>
   rw [zaa (by omega), cond_false]
   rfl
  | succ k =>
   rw [zab (by omega), cond_true, ztB k (i + 1) f (by omega) (by omega)]
   rfl
theorem ztC {A : Int -> Int -> Int -> Int -> (List Row) -> (List Pr) -> (List Fr) -> (List Fr) -> (List Fr) -> (List Fr) -> Option (Int × Int × Unit)} {i : Nat} (hi : i < n) :
  zeo N A (n : Int) (i : Int) c0 v1 rows S own o0 o1 o2 = cond (!eqF (rowV rows v pub n i) Fr.zero) (some ((i : Int), 12, ())) (A (n : Int) ((i + 1 : Nat) : Int) c0 v1 rows S own o0 o1 o2) := by
 have _u := hsel
 have hm : (i + 1) % n < n := Nat.mod_lt _ (by omega)
 have e0 := hi0.2 i hi
 have e1 := hi1.2 i hi
 have e2 := hi2.2 i hi
 have e3 := hi0.2 _ hm
 have e4 := ho i hi
 have hsum : q194 N (gval (selL rows i) (ceV rows v i 0) (ceV rows v i 1) (ceV rows v i 2) (ceV rows v ((i + 1) % n) 0)) (ownV pub i) = some (rowV rows v pub n i, ()) := zmF (by omega) (zsG _ _ _ _ _) (ztq _ _)
 have hval : q107 N (selL rows i) (ceV rows v i 0) (ceV rows v i 1) (ceV rows v i 2) (ceV rows v ((i + 1) % n) 0) = some (gval (selL rows i) (ceV rows v i 0) (ceV rows v i 1) (ceV rows v i 2) (ceV rows v ((i + 1) % n) 0), ()) :=
  zy1 (by omega) (znS _ _) (zfX hv _ _) (zfX hv _ _) (zfX hv _ _) (zfX hv _ _)
 have b0 : (leI 0 (i : Int) && ltI (i : Int) (o0.length : Int)) = true := ixk (by rw [hi0.1]; exact hi)
 have b1 : (leI 0 (i : Int) && ltI (i : Int) (o1.length : Int)) = true := ixk (by rw [hi1.1]; exact hi)
 have b2 : (leI 0 (i : Int) && ltI (i : Int) (o2.length : Int)) = true := ixk (by rw [hi2.1]; exact hi)
 have b3 : (leI 0 (i : Int) && ltI (i : Int) (own.length : Int)) = true := ixk (by rw [hol]; exact hi)
 have b4 : (leI 0 (((i + 1) % n : Nat) : Int) && ltI (((i + 1) % n : Nat) : Int) (o0.length : Int)) = true := ixk (by rw [hi0.1]; exact hm)
 unfold zeo
 rw [zab (by omega : (i : Int) < (n : Int)), cond_true, zar (by omega), zaV (by omega : ¬ (n : Int) = 0), zgc, b0, b1, b2, b3, b4]
 simp only [Bool.not_false, mst2, zad, Int.toNat_natCast, e0, e1, e2, e3, e4]
 by_cases hr : i < rows.length
 ·rw [zab (by omega), cond_true, zaA (by omega), Bool.and_self, mst2]
  have hs : selL rows i = [(rows.getD i zrow).q0, (rows.getD i zrow).q1, (rows.getD i zrow).q2, (rows.getD i zrow).q3, (rows.getD i zrow).q4, (rows.getD i zrow).q5, (rows.getD i zrow).q6, (rows.getD i zrow).q7] := by unfold selL; rw [if_pos hr]
  rw [← hs, hval]
  simp only [bsm]
  rw [hsum]
  simp only [bsm]
  rfl
 ·rw [zaa (by omega), cond_false]
  have hs : selL rows i = [Fr.zero, Fr.zero, Fr.zero, Fr.zero, Fr.zero, Fr.zero, Fr.zero, Fr.zero] := by unfold selL; rw [if_neg hr]
  rw [← hs, hval]
  simp only [bsm]
  rw [hsum]
  simp only [bsm]
  rfl
theorem ztD : ∀ (k i f : Nat), i + k = n -> k < f -> zft N f (n : Int) (i : Int) c0 v1 rows S own o0 o1 o2 = rwF rows v pub n k i
 | 0, i, f + 1, hk, hf => by
  rw [zfY]
  unfold zeo
  rw [zaa (by omega), cond_false]
  rfl
 | k + 1, i, f + 1, hk, hf => by
  rw [zfY, ztC hN hn h1 hsel hv hi0 hi1 hi2 hol ho (by omega), ztD k (i + 1) f (by omega) (by omega)]
  rfl
end
end
section
theorem zi2 {N V : Nat} (hN : 100000 <= N) {c0 : Int} {rows : List Row} {S : List Pr} {v pub : List Fr} (hg : GoodCirc c0 (V : Int) rows S) (hvs : ∀ x ∈ v, Sc x) (hp : (pub.length : Int) = c0) (hps : ∀ x ∈ pub, Sc x) :
  ∃ r, q143 N c0 (V : Int) rows S pub v = some r /\ q144 N c0 (V : Int) rows S pub v = some r := by
 have hV := hg.v200
 have hS := hg.pairs (V := V) rfl
 have hm : q119 N c0 (V : Int) rows S = some (0, ()) := by
  rw [zmQ (by omega) c0 (V : Int) rows S (by have := hg.rows; omega) (by have := hg.same; omega), hg.may]
 have hm2 : q130 N c0 (V : Int) rows S = some (0, ()) := by
  rw [zy9 (by omega), hg.may]
 obtain ⟨cl, e4, e5, gc, fc⟩ := ziQ (c0 := c0) (v2 := rows) hS (by have := hg.same; omega) (by omega) hN hm
 by_cases hv : v.length = V
 case neg =>
  refine ⟨(0, 1, ()), ?_, ?_⟩
  ·unfold q143
   rw [hm]
   simp only [bsm]
   rw [zax rfl, Bool.not_true, cond_false, zax hp, Bool.not_true, cond_false, zaV (by omega), Bool.not_false, cond_true]
  ·unfold q144
   rw [hm2]
   simp only [bsm]
   rw [zax rfl, Bool.not_true, cond_false, zax hp, Bool.not_true, cond_false, zaV (by omega), Bool.not_false, cond_true]
 have hin : ∀ i, i < V -> ∃ c : Nat, c < V /\ cl.getD i 0 = (c : Int) := fun i hi => ⟨(cl.getD i 0).toNat, by have := gc.nn i hi; have := gc.le i hi; omega, by have := gc.nn i hi; omega⟩
 obtain ⟨g1, g2⟩ := zCM (N := N) c0 (V : Int) rows S 5 1 N (by omega) (by omega) (by omega)
 obtain ⟨a1, a2, a3⟩ := znY rows.length 5 1
 generalize lgF rows.length 5 1 = L at g1 g2 a1 a2 a3
 have h6 : L <= 6 := by omega
 have hle := zaZ h6
 have hp2 := zc8 L
 have hr : rows.length <= 2 ^ L := by
  rcases a3 with h | h
  ·exact h
  ·have := hg.rows
   rw [h]; omega
 obtain ⟨o0, o1, o2, e6, i0, i1, i2⟩ := zmY (N := N) (by omega) hg a1 h6 hr hv
 obtain ⟨p0, p1, p2, e7, j0, j1, j2⟩ := ztA (N := N) (L := L) (c0 := c0) (S := S) a1 h6 hv (by omega) (fun r hr j => hg.vars hr j) (by omega)
 obtain rfl := zb8 i0 j0
 obtain rfl := zb8 i1 j1
 obtain rfl := zb8 i2 j2
 have hpl : pub.length <= 2 ^ L := by have := hg.pub; omega
 obtain ⟨own, e8, l8, o8⟩ := ztn (N := N) (by omega) a1 h6 hpl hps
 obtain ⟨r9, e9, e10, _⟩ := znX (N := N) (by omega) hps (L : Int)
 rw [e8] at e9
 cases e9
 have e97 : q97 N c0 (V : Int) rows S (L : Int) v = some ((o0, o1, o2, ()), 0, ()) := by
  unfold q97
  rw [zaa (by omega), cond_false, zaa (by omega), cond_false, zaA (by omega), mst2, zab (by omega : (L : Int) < 18446744073709551616), mst2, sh1' h6, zaa (by omega), cond_false, zax (by rw [hv]), Bool.not_true, cond_false]
  exact e7
 obtain ⟨c1, c2⟩ := zwY (N := N) (c0 := c0) (rows := rows) (S := S) (pub := pub) (by omega) hv gc.len hin V 0 N (by omega) (by omega)
 have f1 : zcj N 1 pub v (V : Int) (V : Int) c0 (V : Int) rows S cl = rwF rows v pub (2 ^ L) (2 ^ L) 0 := by
  rw [show (1 : Nat) = 0 + 1 from rfl, zbd]
  unfold zd1
  rw [zaa (by omega), cond_false, show q120 N c0 (V : Int) rows S = some ((L : Int), ()) from g1]
  simp only [bsm]
  rw [e6]
  simp only [bsm]
  rw [e8]
  simp only [bsm]
  have := ztB (N := N) (n := 2 ^ L) (c0 := c0) (v1 := (V : Int)) (S := S) (by omega) hle hp2 (zto hg.big) hvs i0 i1 i2 l8 o8 (2 ^ L - 1) 0 N (by omega) (by omega)
  rw [show 2 ^ L - 1 + 1 = 2 ^ L by omega] at this
  exact this
 have f2 : zdC N 1 pub v (V : Int) c0 (V : Int) rows S cl = rwF rows v pub (2 ^ L) (2 ^ L) 0 := by
  rw [show (1 : Nat) = 0 + 1 from rfl, zco]
  unfold zep
  rw [zaa (by omega), cond_false, show q121 N c0 (V : Int) rows S = some ((L : Int), ()) from g2]
  simp only [bsm]
  rw [e97]
  simp only [bsm]
  rw [e10]
  simp only [bsm]
  rw [zaA (by omega), mst2, zab (by omega : (L : Int) < 18446744073709551616), mst2, sh1' h6]
  exact ztD (N := N) (n := 2 ^ L) (c0 := c0) (v1 := (V : Int)) (S := S) (by omega) hle hp2 (zto hg.big) hvs i0 i1 i2 l8 o8 (2 ^ L) 0 N (by omega) (by omega)
 have s1 : q143 N c0 (V : Int) rows S pub v = cpF v cl (rwF rows v pub (2 ^ L) (2 ^ L) 0) V 0 := by
  rw [← f1, ← c1]
  unfold q143
  rw [hm]
  simp only [bsm]
  rw [zax rfl, Bool.not_true, cond_false, zax hp, Bool.not_true, cond_false, zax (by rw [hv]), Bool.not_true, cond_false, e4]
  simp only [bsm]
  rw [gc.len]
  rfl
 have s2 : q144 N c0 (V : Int) rows S pub v = cpF v cl (rwF rows v pub (2 ^ L) (2 ^ L) 0) V 0 := by
  rw [← f2, ← c2]
  unfold q144
  rw [hm2]
  simp only [bsm]
  rw [zax rfl, Bool.not_true, cond_false, zax hp, Bool.not_true, cond_false, zax (by rw [hv]), Bool.not_true, cond_false, e5]
  simp only [bsm]
  rfl
 obtain ⟨r, _, er, _⟩ := zv2 (N := N) hN hg hv hvs hp hps
 exact ⟨r, er, by rw [s2, ← s1]; exact er⟩
theorem zwZ {N : Nat} (l : List Fr) : ∀ (k i f : Nat), i + k = l.length -> k < f -> l.length < 100000 -> zoQ N f l l (i : Int) = some (true, ())
 | 0, i, f + 1, h1, h2, h3 => by
  rw [ziD]
  unfold zoP
  rw [zaa (by omega), cond_false]
 | k + 1, i, f + 1, h1, h2, h3 => by
  rw [ziD]
  unfold zoP
  rw [zab (by omega), cond_true, zas, Bool.and_self, mst2, mst2, zvd, Bool.not_true, cond_false, zar (by omega)]
  exact zwZ l k (i + 1) f (by omega) (by omega) h3
theorem zeU {N : Nat} (hN : 2000 <= N) {l : List Fr} (h : l.length < 1000) : q93 N l l = some (true, ()) := by
 unfold q93
 rw [zax rfl, Bool.not_true, cond_false]
 exact zwZ l l.length 0 N (by omega) (by omega) (by omega)
theorem zw0 {N : Nat} (hN : 2000 <= N) (a b c : List Fr) (ha : a.length < 1000) (hb : b.length < 1000) (hc : c.length < 1000) : zbZ N N true 0 a b c a b c = some (true, ()) := by
 obtain ⟨n, hn⟩ : ∃ n, N = n + 1 + 1 + 1 + 1 := ⟨N - 4, by omega⟩
 have e : ∀ M, M = n + 1 + 1 + 1 + 1 -> zbZ N M true 0 a b c a b c = some (true, ()) := by
  rintro M rfl
  have s0 : zbZ N (n + 1 + 1 + 1 + 1) true 0 a b c a b c = zbZ N (n + 1 + 1 + 1) true 1 a b c a b c := by
   rw [zdd]
   unfold zfZ
   rw [zab (by omega : (0 : Int) < 3), cond_true, zeU hN ha]
   rfl
  have s1 : zbZ N (n + 1 + 1 + 1) true 1 a b c a b c = zbZ N (n + 1 + 1) true 2 a b c a b c := by
   rw [zdd]
   unfold zfZ
   rw [zab (by omega : (1 : Int) < 3), cond_true, zeU hN hb]
   rfl
  have s2 : zbZ N (n + 1 + 1) true 2 a b c a b c = zbZ N (n + 1) true 3 a b c a b c := by
   rw [zdd]
   unfold zfZ
   rw [zab (by omega : (2 : Int) < 3), cond_true, zeU hN hc]
   rfl
  rw [s0, s1, s2, zdd]
  unfold zfZ
  rw [zaa (by omega), cond_false]
 exact e N hn
set_option maxHeartbeats 1000000 in
theorem zhN (l : List UInt8) (log : Int) (at1 : UInt8) (by2 : Fr) (less : Bool) : q39 100000 l log at1 by2 less = some (true, ()) := by
 unfold q39
 rw [zCJ]
 simp only [bsm]
 rw [Bool.not_true, cond_false]
 cases hlen : ltI 80 (l.length : Int)
 case true => rfl
 rw [cond_false, zsB (by omega)]
 simp only [bsm]
 by_cases hby : fv by2 < RR
 case neg => rw [decide_eq_false hby]; rfl
 rw [decide_eq_true hby, Bool.not_true, cond_false]
 obtain ⟨n, a, b, s, g, ha, hb, hg, hp, hi, hgd, hgc, e⟩ := zvR (N := 100000) (most := 14) (by omega) (by omega) l
 have hpv : PvI s := Plays.keep (P := PvI) (fun g s s' hi hg h => hg.pvI hi h) hp 0 (zhx ha hb) (fun x hx => by cases hx)
 rw [show ((14 : Nat) : Int) = (14 : Int) from rfl] at e
 rw [e]
 simp only [bsm, PlS.res]
 have hv2 := hi.v2
 have hvv := hi.v
 have hpp := hi.pp
 have hk : at1.toNat % s.vs.length < s.vs.length := Nat.mod_lt _ (by omega)
 rw [zaE (by omega), mst2, zaV (by omega : ¬ (s.vs.length : Int) = 0), zgc, Bool.not_false, mst2, ixk hk]
 simp only [mst2, Int.toNat_natCast, zad]
 generalize at1.toNat % s.vs.length = k at hk
 rw [show s.vs.getD k Fr.zero = s.val k from rfl, addR (by omega) (hi.val k) hby]
 simp only [bsm]
 have hvl : (setL s.vs k (fadd (s.val k) by2)).length = s.vs.length := zaQ _ _ _
 have hvs : ∀ x ∈ setL s.vs k (fadd (s.val k) by2), Sc x := zzn hi.sc (zfr _ _) k
 generalize setL s.vs k (fadd (s.val k) by2) = v at hvl hvs
 have hc0 : (s.pv.length : Int) = (s.pb.length : Int) := by rw [hpp]
 obtain ⟨rp, p1, p2, p3⟩ := znX (N := 100000) (by omega) hpv log
 have ew : wr ((s.vs.length : Int) - 1) = ((s.vs.length - 1 : Nat) : Int) := by rw [zec (by omega) (by omega)]; omega
 cases less with
 | true =>
  rw [cond_true, hvl, ew, zas, zaA (by omega), Bool.and_self, mst2]
  have hws : ∀ x ∈ v.take ((((s.vs.length - 1 : Nat) : Int) - 0).toNat), Sc x := fun x hx => hvs x (List.mem_of_mem_take hx)
  generalize v.take ((((s.vs.length - 1 : Nat) : Int) - 0).toNat) = w at hws
  obtain ⟨r, r1, r2⟩ := zi2 (N := 100000) (by omega) hgc hws hc0 hpv
  obtain ⟨q, q1, q2, q3, q4, q5⟩ := zi1 (N := 100000) (by omega) (v := w) hgc log
  rw [r1, r2, q1, q2, p1, p2]
  simp only [bsm]
  rw [zax rfl, zax rfl, zax rfl, zax rfl]
  simp only [cond_true]
  rw [zeU (by omega) p3]
  simp only [bsm]
  exact zw0 (by omega) _ _ _ q3 q4 q5
 | false =>
  rw [cond_false]
  obtain ⟨r, r1, r2⟩ := zi2 (N := 100000) (by omega) hgc hvs hc0 hpv
  obtain ⟨q, q1, q2, q3, q4, q5⟩ := zi1 (N := 100000) (by omega) (v := v) hgc log
  rw [r1, r2, q1, q2, p1, p2]
  simp only [bsm]
  rw [zax rfl, zax rfl, zax rfl, zax rfl]
  simp only [cond_true]
  rw [zeU (by omega) p3]
  simp only [bsm]
  exact zw0 (by omega) _ _ _ q3 q4 q5
end
end Go.Proofs.Ytgimohchocjgcaa.V
