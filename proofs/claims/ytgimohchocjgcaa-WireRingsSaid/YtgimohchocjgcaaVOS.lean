import Derived.Test.YtgimohchocjgcaaVWD1
import Derived.Test.YtgimohchocjgcaaVWC6
import Derived.KernelRfl
import Derived.Test.YtgimohchocjgcaaVME
import Derived.WalkKit
import Derived.ProofKit
import Derived.OpenShut
import Derived.Carry
import Derived.ChangeSlices
import Derived.Test.YtgimohchocjgcaaVRW
import Derived.Test.YtgimohchocjgcaaVTM
set_option linter.unusedVariables false
set_option linter.unusedSimpArgs false
namespace Go.Proofs.Ytgimohchocjgcaa.V
section
def q137 (N : Nat) (c0 n1 : Int) (cell2 : List Row) (v3 : List Pr) (v4 v5 : Int) : Option (Int × Unit) :=
  must (!eqI v4 (0 : Int)) (cond ((leI (↑cell2.length : Int) ((Int.tmod v5 v4)))) (some (((-1 : Int), ()))) (must (!eqI v4 (0 : Int)) (must (!eqI v4 (0 : Int)) (must (leI (0 : Int) ((Int.tmod v5 v4)) && ltI ((Int.tmod v5 v4)) (↑cell2.length : Int)) (cond (eqI ((wr (Int.tdiv v5 v4))) (↑(0 : Nat) : Int)) (some ((Row.w0 (List.getD cell2 (Int.toNat ((Int.tmod v5 v4))) zrow), ()))) (cond (eqI ((wr (Int.tdiv v5 v4))) (↑((0 : Nat) + (1 : Nat)) : Int)) (some ((Row.w1 (List.getD cell2 (Int.toNat ((Int.tmod v5 v4))) zrow), ()))) (must (eqI ((wr (Int.tdiv v5 v4))) (↑((0 : Nat) + (1 : Nat) + (1 : Nat)) : Int)) (some ((Row.w2 (List.getD cell2 (Int.toNat ((Int.tmod v5 v4))) zrow), ()))))))))))
theorem zui : p137 = q137 := by
  (repeat (apply funext; intro _))
  simp only [p137, q137, hide_eq, zah, zak, zal, zaj, zaB, zaD, zbj, zaQ]
def zh8 (N : Nat) (A_14 : Int -> Int -> Int -> Int -> (List Int) -> (List Bool) -> (List Row) -> (List Pr) -> (List Int) -> (List Int) -> (List Int) -> Option (Bool × Unit)) (A_24 : Int -> Int -> Int -> Int -> Int -> Int -> Int -> (List Int) -> (List Bool) -> (List Row) -> (List Pr) -> (List Int) -> (List Int) -> (List Int) -> Option (Bool × Unit)) (n5 x10 to11 a12 y14 ob0_0 ob0_1 : Int) (cl8o : List Int) (seen9o : List Bool) (ob4 : List Row) (ob5 : List Pr) (ob6 ob7 ob8 : List Int) : Option (Bool × Unit) :=
  cond ((ltI y14 ((wr ((3 : Int) * n5))))) (cond ((leI to11 x10)) (Option.bind (q137 N ob0_0 ob0_1 ob4 ob5 n5 y14) fun rr1 => cond ((leI (0 : Int) a12)) (cond ((leI (0 : Int) rr1.1)) (must (leI (0 : Int) rr1.1 && ltI rr1.1 (↑cl8o.length : Int)) (must (leI (0 : Int) a12 && ltI a12 (↑cl8o.length : Int)) (cond ((eqI (List.getD cl8o rr1.1.toNat (0 : Int)) (List.getD cl8o a12.toNat (0 : Int)))) (some ((false, ()))) (A_24 n5 x10 to11 a12 ((wr (y14 + (1 : Int)))) ob0_0 ob0_1 cl8o seen9o ob4 ob5 ob6 ob7 ob8)))) (A_24 n5 x10 to11 a12 ((wr (y14 + (1 : Int)))) ob0_0 ob0_1 cl8o seen9o ob4 ob5 ob6 ob7 ob8)) (A_24 n5 x10 to11 a12 ((wr (y14 + (1 : Int)))) ob0_0 ob0_1 cl8o seen9o ob4 ob5 ob6 ob7 ob8)) (cond ((ltI y14 to11)) (Option.bind (q137 N ob0_0 ob0_1 ob4 ob5 n5 y14) fun rr0 => cond ((leI (0 : Int) a12)) (cond ((leI (0 : Int) rr0.1)) (must (leI (0 : Int) rr0.1 && ltI rr0.1 (↑cl8o.length : Int)) (must (leI (0 : Int) a12 && ltI a12 (↑cl8o.length : Int)) (cond ((eqI (List.getD cl8o rr0.1.toNat (0 : Int)) (List.getD cl8o a12.toNat (0 : Int)))) (some ((false, ()))) (A_24 n5 x10 to11 a12 ((wr (y14 + (1 : Int)))) ob0_0 ob0_1 cl8o seen9o ob4 ob5 ob6 ob7 ob8)))) (A_24 n5 x10 to11 a12 ((wr (y14 + (1 : Int)))) ob0_0 ob0_1 cl8o seen9o ob4 ob5 ob6 ob7 ob8)) (A_24 n5 x10 to11 a12 ((wr (y14 + (1 : Int)))) ob0_0 ob0_1 cl8o seen9o ob4 ob5 ob6 ob7 ob8)) (A_14 n5 ((wr (x10 + (1 : Int)))) ob0_0 ob0_1 cl8o seen9o ob4 ob5 ob6 ob7 ob8))) (A_14 n5 ((wr (x10 + (1 : Int)))) ob0_0 ob0_1 cl8o seen9o ob4 ob5 ob6 ob7 ob8)
theorem ztx : zqi = zh8 := by
  (repeat (apply funext; intro _))
  simp only [zqi, zh8, hide_eq, zui, zah, zak, zal, zaj, zaB, zaD, zbj, zaQ]
def zbo (N : Nat) (A_14 : Int -> Int -> Int -> Int -> (List Int) -> (List Bool) -> (List Row) -> (List Pr) -> (List Int) -> (List Int) -> (List Int) -> Option (Bool × Unit)) (n : Nat) (n5 x10 to11 a12 y14 ob0_0 ob0_1 : Int) (cl8o : List Int) (seen9o : List Bool) (ob4 : List Row) (ob5 : List Pr) (ob6 ob7 ob8 : List Int) : Option (Bool × Unit) :=
  zao (fun A x => zh8 N A_14 (fun n5 x10 to11 a12 y14 ob0_0 ob0_1 cl8o seen9o ob4 ob5 ob6 ob7 ob8 => A (((), (n5, ((), ((), ((), (x10, (to11, (a12, (y14, ()))))))))), ((ob0_0, (ob0_1, ((), ((), ())))), (((), ((), ((), ()))), (cl8o, (seen9o, (ob4, (ob5, (ob6, (ob7, (ob8, ()))))))))))) x.1.2.1 x.1.2.2.2.2.2.1 x.1.2.2.2.2.2.2.1 x.1.2.2.2.2.2.2.2.1 x.1.2.2.2.2.2.2.2.2.1 x.2.1.1 x.2.1.2.1 x.2.2.2.1 x.2.2.2.2.1 x.2.2.2.2.2.1 x.2.2.2.2.2.2.1 x.2.2.2.2.2.2.2.1 x.2.2.2.2.2.2.2.2.1 x.2.2.2.2.2.2.2.2.2.1) n (((), (n5, ((), ((), ((), (x10, (to11, (a12, (y14, ()))))))))), ((ob0_0, (ob0_1, ((), ((), ())))), (((), ((), ((), ()))), (cl8o, (seen9o, (ob4, (ob5, (ob6, (ob7, (ob8, ()))))))))))
theorem zty : zcg = zbo := by
  (repeat (apply funext; intro _))
  simp only [zcg, zbo, ztx, zah, zak, zal, zaj, zaB, zaD, zbj, zaQ]
theorem zgY (N : Nat) (A_14 : Int -> Int -> Int -> Int -> (List Int) -> (List Bool) -> (List Row) -> (List Pr) -> (List Int) -> (List Int) -> (List Int) -> Option (Bool × Unit)) (n : Nat) (n5 x10 to11 a12 y14 ob0_0 ob0_1 : Int) (cl8o : List Int) (seen9o : List Bool) (ob4 : List Row) (ob5 : List Pr) (ob6 ob7 ob8 : List Int) : zbo N A_14 (n + 1) n5 x10 to11 a12 y14 ob0_0 ob0_1 cl8o seen9o ob4 ob5 ob6 ob7 ob8 = zh8 N A_14 (zbo N A_14 n) n5 x10 to11 a12 y14 ob0_0 ob0_1 cl8o seen9o ob4 ob5 ob6 ob7 ob8 := rfl
def zc5 (N : Nat) (A_14 : Int -> Int -> Int -> Int -> (List Int) -> (List Bool) -> (List Row) -> (List Pr) -> (List Int) -> (List Int) -> (List Int) -> Option (Bool × Unit)) (n5 x10 ob0_0 ob0_1 : Int) (cl8o : List Int) (seen9o : List Bool) (ob4 : List Row) (ob5 : List Pr) (ob6 ob7 ob8 : List Int) : Option (Bool × Unit) :=
  cond ((ltI x10 ((wr ((3 : Int) * n5))))) (must (!eqI n5 (0 : Int)) (cond (eqI ((wr (Int.tdiv x10 n5))) (↑(0 : Nat) : Int)) (must (!eqI n5 (0 : Int)) (must (leI (0 : Int) ((Int.tmod x10 n5)) && ltI ((Int.tmod x10 n5)) (↑ob6.length : Int)) (cond ((ltI (List.getD ob6 (Int.toNat ((Int.tmod x10 n5))) (0 : Int)) (0 : Int))) (some ((false, ()))) (cond ((leI ((wr ((3 : Int) * n5))) (List.getD ob6 (Int.toNat ((Int.tmod x10 n5))) (0 : Int)))) (some ((false, ()))) (must (leI (0 : Int) (List.getD ob6 (Int.toNat ((Int.tmod x10 n5))) (0 : Int)) && ltI (List.getD ob6 (Int.toNat ((Int.tmod x10 n5))) (0 : Int)) (↑seen9o.length : Int)) (cond (List.getD seen9o (Int.toNat (List.getD ob6 (Int.toNat ((Int.tmod x10 n5))) (0 : Int))) false) (some ((false, ()))) (must (leI (0 : Int) (List.getD ob6 (Int.toNat ((Int.tmod x10 n5))) (0 : Int)) && ltI (List.getD ob6 (Int.toNat ((Int.tmod x10 n5))) (0 : Int)) (↑seen9o.length : Int)) (Option.bind (q137 N ob0_0 ob0_1 ob4 ob5 n5 x10) fun rr4 => Option.bind (q137 N ob0_0 ob0_1 ob4 ob5 n5 (List.getD ob6 (Int.toNat ((Int.tmod x10 n5))) (0 : Int))) fun rr5 => cond ((ltI rr4.1 (0 : Int))) (cond (!eqI (List.getD ob6 (Int.toNat ((Int.tmod x10 n5))) (0 : Int)) x10) (some ((false, ()))) (cond ((leI (0 : Int) rr4.1)) (cond ((ltI rr5.1 (0 : Int))) (some ((false, ()))) (must (leI (0 : Int) rr4.1 && ltI rr4.1 (↑cl8o.length : Int)) (must (leI (0 : Int) rr5.1 && ltI rr5.1 (↑cl8o.length : Int)) (cond (!eqI (List.getD cl8o rr4.1.toNat (0 : Int)) (List.getD cl8o rr5.1.toNat (0 : Int))) (some ((false, ()))) (zbo N A_14 N n5 x10 (List.getD ob6 (Int.toNat ((Int.tmod x10 n5))) (0 : Int)) rr4.1 ((wr (x10 + (1 : Int)))) ob0_0 ob0_1 cl8o (setL seen9o (Int.toNat (List.getD ob6 (Int.toNat ((Int.tmod x10 n5))) (0 : Int))) true) ob4 ob5 ob6 ob7 ob8))))) (zbo N A_14 N n5 x10 (List.getD ob6 (Int.toNat ((Int.tmod x10 n5))) (0 : Int)) rr4.1 ((wr (x10 + (1 : Int)))) ob0_0 ob0_1 cl8o (setL seen9o (Int.toNat (List.getD ob6 (Int.toNat ((Int.tmod x10 n5))) (0 : Int))) true) ob4 ob5 ob6 ob7 ob8))) (cond ((leI (0 : Int) rr4.1)) (cond ((ltI rr5.1 (0 : Int))) (some ((false, ()))) (must (leI (0 : Int) rr4.1 && ltI rr4.1 (↑cl8o.length : Int)) (must (leI (0 : Int) rr5.1 && ltI rr5.1 (↑cl8o.length : Int)) (cond (!eqI (List.getD cl8o rr4.1.toNat (0 : Int)) (List.getD cl8o rr5.1.toNat (0 : Int))) (some ((false, ()))) (zbo N A_14 N n5 x10 (List.getD ob6 (Int.toNat ((Int.tmod x10 n5))) (0 : Int)) rr4.1 ((wr (x10 + (1 : Int)))) ob0_0 ob0_1 cl8o (setL seen9o (Int.toNat (List.getD ob6 (Int.toNat ((Int.tmod x10 n5))) (0 : Int))) true) ob4 ob5 ob6 ob7 ob8))))) (zbo N A_14 N n5 x10 (List.getD ob6 (Int.toNat ((Int.tmod x10 n5))) (0 : Int)) rr4.1 ((wr (x10 + (1 : Int)))) ob0_0 ob0_1 cl8o (setL seen9o (Int.toNat (List.getD ob6 (Int.toNat ((Int.tmod x10 n5))) (0 : Int))) true) ob4 ob5 ob6 ob7 ob8)))))))))) (cond (eqI ((wr (Int.tdiv x10 n5))) (↑((0 : Nat) + (1 : Nat)) : Int)) (must (!eqI n5 (0 : Int)) (must (leI (0 : Int) ((Int.tmod x10 n5)) && ltI ((Int.tmod x10 n5)) (↑ob7.length : Int)) (cond ((ltI (List.getD ob7 (Int.toNat ((Int.tmod x10 n5))) (0 : Int)) (0 : Int))) (some ((false, ()))) (cond ((leI ((wr ((3 : Int) * n5))) (List.getD ob7 (Int.toNat ((Int.tmod x10 n5))) (0 : Int)))) (some ((false, ()))) (must (leI (0 : Int) (List.getD ob7 (Int.toNat ((Int.tmod x10 n5))) (0 : Int)) && ltI (List.getD ob7 (Int.toNat ((Int.tmod x10 n5))) (0 : Int)) (↑seen9o.length : Int)) (cond (List.getD seen9o (Int.toNat (List.getD ob7 (Int.toNat ((Int.tmod x10 n5))) (0 : Int))) false) (some ((false, ()))) (must (leI (0 : Int) (List.getD ob7 (Int.toNat ((Int.tmod x10 n5))) (0 : Int)) && ltI (List.getD ob7 (Int.toNat ((Int.tmod x10 n5))) (0 : Int)) (↑seen9o.length : Int)) (Option.bind (q137 N ob0_0 ob0_1 ob4 ob5 n5 x10) fun rr2 => Option.bind (q137 N ob0_0 ob0_1 ob4 ob5 n5 (List.getD ob7 (Int.toNat ((Int.tmod x10 n5))) (0 : Int))) fun rr3 => cond ((ltI rr2.1 (0 : Int))) (cond (!eqI (List.getD ob7 (Int.toNat ((Int.tmod x10 n5))) (0 : Int)) x10) (some ((false, ()))) (cond ((leI (0 : Int) rr2.1)) (cond ((ltI rr3.1 (0 : Int))) (some ((false, ()))) (must (leI (0 : Int) rr2.1 && ltI rr2.1 (↑cl8o.length : Int)) (must (leI (0 : Int) rr3.1 && ltI rr3.1 (↑cl8o.length : Int)) (cond (!eqI (List.getD cl8o rr2.1.toNat (0 : Int)) (List.getD cl8o rr3.1.toNat (0 : Int))) (some ((false, ()))) (zbo N A_14 N n5 x10 (List.getD ob7 (Int.toNat ((Int.tmod x10 n5))) (0 : Int)) rr2.1 ((wr (x10 + (1 : Int)))) ob0_0 ob0_1 cl8o (setL seen9o (Int.toNat (List.getD ob7 (Int.toNat ((Int.tmod x10 n5))) (0 : Int))) true) ob4 ob5 ob6 ob7 ob8))))) (zbo N A_14 N n5 x10 (List.getD ob7 (Int.toNat ((Int.tmod x10 n5))) (0 : Int)) rr2.1 ((wr (x10 + (1 : Int)))) ob0_0 ob0_1 cl8o (setL seen9o (Int.toNat (List.getD ob7 (Int.toNat ((Int.tmod x10 n5))) (0 : Int))) true) ob4 ob5 ob6 ob7 ob8))) (cond ((leI (0 : Int) rr2.1)) (cond ((ltI rr3.1 (0 : Int))) (some ((false, ()))) (must (leI (0 : Int) rr2.1 && ltI rr2.1 (↑cl8o.length : Int)) (must (leI (0 : Int) rr3.1 && ltI rr3.1 (↑cl8o.length : Int)) (cond (!eqI (List.getD cl8o rr2.1.toNat (0 : Int)) (List.getD cl8o rr3.1.toNat (0 : Int))) (some ((false, ()))) (zbo N A_14 N n5 x10 (List.getD ob7 (Int.toNat ((Int.tmod x10 n5))) (0 : Int)) rr2.1 ((wr (x10 + (1 : Int)))) ob0_0 ob0_1 cl8o (setL seen9o (Int.toNat (List.getD ob7 (Int.toNat ((Int.tmod x10 n5))) (0 : Int))) true) ob4 ob5 ob6 ob7 ob8))))) (zbo N A_14 N n5 x10 (List.getD ob7 (Int.toNat ((Int.tmod x10 n5))) (0 : Int)) rr2.1 ((wr (x10 + (1 : Int)))) ob0_0 ob0_1 cl8o (setL seen9o (Int.toNat (List.getD ob7 (Int.toNat ((Int.tmod x10 n5))) (0 : Int))) true) ob4 ob5 ob6 ob7 ob8)))))))))) (must (eqI ((wr (Int.tdiv x10 n5))) (↑((0 : Nat) + (1 : Nat) + (1 : Nat)) : Int)) (must (!eqI n5 (0 : Int)) (must (leI (0 : Int) ((Int.tmod x10 n5)) && ltI ((Int.tmod x10 n5)) (↑ob8.length : Int)) (cond ((ltI (List.getD ob8 (Int.toNat ((Int.tmod x10 n5))) (0 : Int)) (0 : Int))) (some ((false, ()))) (cond ((leI ((wr ((3 : Int) * n5))) (List.getD ob8 (Int.toNat ((Int.tmod x10 n5))) (0 : Int)))) (some ((false, ()))) (must (leI (0 : Int) (List.getD ob8 (Int.toNat ((Int.tmod x10 n5))) (0 : Int)) && ltI (List.getD ob8 (Int.toNat ((Int.tmod x10 n5))) (0 : Int)) (↑seen9o.length : Int)) (cond (List.getD seen9o (Int.toNat (List.getD ob8 (Int.toNat ((Int.tmod x10 n5))) (0 : Int))) false) (some ((false, ()))) (must (leI (0 : Int) (List.getD ob8 (Int.toNat ((Int.tmod x10 n5))) (0 : Int)) && ltI (List.getD ob8 (Int.toNat ((Int.tmod x10 n5))) (0 : Int)) (↑seen9o.length : Int)) (Option.bind (q137 N ob0_0 ob0_1 ob4 ob5 n5 x10) fun rr0 => Option.bind (q137 N ob0_0 ob0_1 ob4 ob5 n5 (List.getD ob8 (Int.toNat ((Int.tmod x10 n5))) (0 : Int))) fun rr1 => cond ((ltI rr0.1 (0 : Int))) (cond (!eqI (List.getD ob8 (Int.toNat ((Int.tmod x10 n5))) (0 : Int)) x10) (some ((false, ()))) (cond ((leI (0 : Int) rr0.1)) (cond ((ltI rr1.1 (0 : Int))) (some ((false, ()))) (must (leI (0 : Int) rr0.1 && ltI rr0.1 (↑cl8o.length : Int)) (must (leI (0 : Int) rr1.1 && ltI rr1.1 (↑cl8o.length : Int)) (cond (!eqI (List.getD cl8o rr0.1.toNat (0 : Int)) (List.getD cl8o rr1.1.toNat (0 : Int))) (some ((false, ()))) (zbo N A_14 N n5 x10 (List.getD ob8 (Int.toNat ((Int.tmod x10 n5))) (0 : Int)) rr0.1 ((wr (x10 + (1 : Int)))) ob0_0 ob0_1 cl8o (setL seen9o (Int.toNat (List.getD ob8 (Int.toNat ((Int.tmod x10 n5))) (0 : Int))) true) ob4 ob5 ob6 ob7 ob8))))) (zbo N A_14 N n5 x10 (List.getD ob8 (Int.toNat ((Int.tmod x10 n5))) (0 : Int)) rr0.1 ((wr (x10 + (1 : Int)))) ob0_0 ob0_1 cl8o (setL seen9o (Int.toNat (List.getD ob8 (Int.toNat ((Int.tmod x10 n5))) (0 : Int))) true) ob4 ob5 ob6 ob7 ob8))) (cond ((leI (0 : Int) rr0.1)) (cond ((ltI rr1.1 (0 : Int))) (some ((false, ()))) (must (leI (0 : Int) rr0.1 && ltI rr0.1 (↑cl8o.length : Int)) (must (leI (0 : Int) rr1.1 && ltI rr1.1 (↑cl8o.length : Int)) (cond (!eqI (List.getD cl8o rr0.1.toNat (0 : Int)) (List.getD cl8o rr1.1.toNat (0 : Int))) (some ((false, ()))) (zbo N A_14 N n5 x10 (List.getD ob8 (Int.toNat ((Int.tmod x10 n5))) (0 : Int)) rr0.1 ((wr (x10 + (1 : Int)))) ob0_0 ob0_1 cl8o (setL seen9o (Int.toNat (List.getD ob8 (Int.toNat ((Int.tmod x10 n5))) (0 : Int))) true) ob4 ob5 ob6 ob7 ob8))))) (zbo N A_14 N n5 x10 (List.getD ob8 (Int.toNat ((Int.tmod x10 n5))) (0 : Int)) rr0.1 ((wr (x10 + (1 : Int)))) ob0_0 ob0_1 cl8o (setL seen9o (Int.toNat (List.getD ob8 (Int.toNat ((Int.tmod x10 n5))) (0 : Int))) true) ob4 ob5 ob6 ob7 ob8)))))))))))))) (some ((true, ())))
theorem ztz : zqj = zc5 := by
  (repeat (apply funext; intro _))
  simp only [zqj, zc5, hide_eq, zty, zui, zah, zak, zal, zaj, zaB, zaD, zbj, zaQ]
def zfu (N n : Nat) (n5 x10 ob0_0 ob0_1 : Int) (cl8o : List Int) (seen9o : List Bool) (ob4 : List Row) (ob5 : List Pr) (ob6 ob7 ob8 : List Int) : Option (Bool × Unit) :=
  zao (fun A x => zc5 N (fun n5 x10 ob0_0 ob0_1 cl8o seen9o ob4 ob5 ob6 ob7 ob8 => A (((), (n5, ((), ((), ((), (x10, ())))))), ((ob0_0, (ob0_1, ((), ((), ())))), (((), ((), ((), ()))), (cl8o, (seen9o, (ob4, (ob5, (ob6, (ob7, (ob8, ()))))))))))) x.1.2.1 x.1.2.2.2.2.2.1 x.2.1.1 x.2.1.2.1 x.2.2.2.1 x.2.2.2.2.1 x.2.2.2.2.2.1 x.2.2.2.2.2.2.1 x.2.2.2.2.2.2.2.1 x.2.2.2.2.2.2.2.2.1 x.2.2.2.2.2.2.2.2.2.1) n (((), (n5, ((), ((), ((), (x10, ())))))), ((ob0_0, (ob0_1, ((), ((), ())))), (((), ((), ((), ()))), (cl8o, (seen9o, (ob4, (ob5, (ob6, (ob7, (ob8, ()))))))))))
theorem ztA : zqk = zfu := by
  (repeat (apply funext; intro _))
  simp only [zqk, zfu, ztz, zah, zak, zal, zaj, zaB, zaD, zbj, zaQ]
theorem zgZ (N n : Nat) (n5 x10 ob0_0 ob0_1 : Int) (cl8o : List Int) (seen9o : List Bool) (ob4 : List Row) (ob5 : List Pr) (ob6 ob7 ob8 : List Int) : zfu N (n + 1) n5 x10 ob0_0 ob0_1 cl8o seen9o ob4 ob5 ob6 ob7 ob8 = zc5 N (zfu N n) n5 x10 ob0_0 ob0_1 cl8o seen9o ob4 ob5 ob6 ob7 ob8 := rfl
def q35 (N : Nat) (l0 : List UInt8) : Option (Bool × Unit) :=
  Option.bind (q128 N) fun rr0 => cond (!rr0.1) (some ((false, ()))) (cond ((ltI (80 : Int) (↑l0.length : Int))) (some ((true, ()))) (Option.bind (q95 N l0 (14 : Int)) fun rr1 => Option.bind (q121 N (rr1.1.1) (Prod.fst (rr1.1.2)) (Prod.fst (Prod.snd (rr1.1.2))) (Prod.fst (Prod.snd (Prod.snd (rr1.1.2))))) fun rr2 => must (leI (0 : Int) rr2.1) (must (ltI rr2.1 (18446744073709551616 : Int)) (Option.bind (q131 N (rr1.1.1) (Prod.fst (rr1.1.2)) (Prod.fst (Prod.snd (rr1.1.2))) (Prod.fst (Prod.snd (Prod.snd (rr1.1.2)))) rr2.1) fun rr3 => Option.bind (q134 N (rr1.1.1) (Prod.fst (rr1.1.2)) (Prod.fst (Prod.snd (rr1.1.2))) (Prod.fst (Prod.snd (Prod.snd (rr1.1.2))))) fun rr4 => cond (!eqI (rr3.2.1) (0 : Int)) (some ((false, ()))) (cond (!eqI (↑(List.length (rr3.1.1)) : Int) ((shlI (1 : Int) (UInt64.toNat (UInt64.ofNat rr2.1.toNat))))) (some ((false, ()))) (cond (!eqI (↑(List.length (Prod.fst (rr3.1.2))) : Int) ((shlI (1 : Int) (UInt64.toNat (UInt64.ofNat rr2.1.toNat))))) (some ((false, ()))) (cond (!eqI (↑(List.length (Prod.fst (Prod.snd (rr3.1.2)))) : Int) ((shlI (1 : Int) (UInt64.toNat (UInt64.ofNat rr2.1.toNat))))) (some ((false, ()))) (cond (!eqI (↑rr4.1.length : Int) (Prod.fst (rr1.1.2))) (some ((false, ()))) (must (leI (0 : Int) ((wr ((3 : Int) * (shlI (1 : Int) (UInt64.toNat (UInt64.ofNat rr2.1.toNat)))))) && (eqI ((wr ((3 : Int) * (shlI (1 : Int) (UInt64.toNat (UInt64.ofNat rr2.1.toNat)))))) ((wr ((3 : Int) * (shlI (1 : Int) (UInt64.toNat (UInt64.ofNat rr2.1.toNat)))))) && leN (Int.toNat ((wr ((3 : Int) * (shlI (1 : Int) (UInt64.toNat (UInt64.ofNat rr2.1.toNat)))))) * (1 : Nat)) (140737488355328 : Nat))) (zfu N N ((shlI (1 : Int) (UInt64.toNat (UInt64.ofNat rr2.1.toNat)))) (0 : Int) (rr1.1.1) (Prod.fst (rr1.1.2)) rr4.1 (List.replicate (Int.toNat ((wr ((3 : Int) * (shlI (1 : Int) (UInt64.toNat (UInt64.ofNat rr2.1.toNat))))))) false) (Prod.fst (Prod.snd (rr1.1.2))) (Prod.fst (Prod.snd (Prod.snd (rr1.1.2)))) (rr3.1.1) (Prod.fst (rr3.1.2)) (Prod.fst (Prod.snd (rr3.1.2)))))))))))))
theorem zBe : p35 = q35 := by
  (repeat (apply funext; intro _))
  simp only [p35, q35, hide_eq, ztA, zy9, zy3, zt5, zqW, zA4, zah, zak, zal, zaj, zaB, zaD, zbj, zaQ]
end
section
theorem add_mod {M x d : Nat} (hx : x < M) (hd : d <= M) : (x + d) % M = if x + d < M then x + d else x + d - M := by
  by_cases h : x + d < M
  . rw [if_pos h, Nat.mod_eq_of_lt h]
  . rw [if_neg h, Nat.mod_eq_sub_mod (by omega), Nat.mod_eq_of_lt (by omega)]
theorem znH {k : Nat -> Int} {M x u : Nat} (hx : x < M) (h : zcZ k M x u) : u < M := by
  rcases h with ⟨_, rfl⟩ | ⟨_, d, _, _, rfl, _⟩
  . exact hx
  . exact Nat.mod_lt _ (by omega)
theorem zc0 {k : Nat -> Int} {M x u : Nat} (h : zcZ k M x u) : k u = k x := by
  rcases h with ⟨_, rfl⟩ | ⟨_, d, _, _, _, h, _⟩
  . rfl
  . exact h
theorem zlM {k : Nat -> Int} {M x y u : Nat} (hx : x < M) (hy : y < M) (h1 : zcZ k M x u) (h2 : zcZ k M y u) : x = y := by
  have c1 := zc0 h1
  have c2 := zc0 h2
  rcases h1 with ⟨a, b⟩ | ⟨a, d, d1, d2, d3, d4, d5⟩
  . rcases h2 with ⟨a', b'⟩ | ⟨a', _⟩
    . rw [← b, ← b']
    . omega
  . rcases h2 with ⟨a', b'⟩ | ⟨a', e, e1, e2, e3, e4, e5⟩
    . omega
    . have m1 := add_mod hx d2
      have m2 := add_mod hy e2
      rw [← d3] at m1
      rw [← e3] at m2
      by_cases hlt : d < e
      . have m3 := add_mod hy (show e - d <= M by omega)
        refine absurd ?_ (e5 (e - d) (by omega) (by omega))
        have : (y + (e - d)) % M = x := by
          rw [m3]
          split at m1 <;> split at m2 <;> split <;> omega
        rw [this, ← c1, c2]
      . by_cases hgt : e < d
        . have m3 := add_mod hx (show d - e <= M by omega)
          refine absurd ?_ (d5 (d - e) (by omega) (by omega))
          have : (x + (d - e)) % M = y := by
            rw [m3]
            split at m1 <;> split at m2 <;> split <;> omega
          rw [this, ← c2, c1]
        . split at m1 <;> split at m2 <;> omega
theorem zg0 {k : Nat -> Int} {M x u y : Nat} (hx : x < M) (h : zcZ k M x u) (h0 : 0 <= k x) (h1 : x < y) (h2 : y < M) (h3 : u <= x \/ y < u) : k y ≠ k x := by
  rcases h with ⟨a, _⟩ | ⟨_, d, d1, d2, d3, d4, d5⟩
  . omega
  . have m1 := add_mod hx d2
    rw [← d3] at m1
    have m2 := add_mod hx (show y - x <= M by omega)
    have e : (x + (y - x)) % M = y := by rw [m2]; split <;> omega
    have := d5 (y - x) (by omega) (by split at m1 <;> omega)
    rwa [e] at this
theorem zrr (l : List Bool) (i : Nat) (a : Bool) (p : Nat) : (setL l i a).getD p false = if p = i /\ i < l.length then a else l.getD p false := by
  induction l generalizing i p with
  | nil => simp [setL]
  | cons x l ih =>
    cases i with
    | zero => cases p <;> simp [setL]
    | succ i =>
      cases p with
      | zero => simp [setL]
      | succ p =>
        have := ih i p
        simp only [List.getD_eq_getElem?_getD] at this
        simp [setL, this]
theorem zd6 {N n z : Nat} (c0 v1 : Int) (rows : List Row) (S : List Pr) (hn : 0 < n) (h64 : n <= 64) (hz : z < 3 * n) : q137 N c0 v1 rows S (n : Int) (z : Int) = some (varC rows n z, ()) := by
  have hm : z % n < n := Nat.mod_lt _ hn
  have hq : z / n < 3 := Nat.div_lt_of_lt_mul (by omega)
  have hd : z / n <= z := Nat.div_le_self _ _
  unfold q137 varC
  rw [zaO (by omega : ¬ (n : Int) = 0), zey, zbp, zmH (Nat.lt_of_le_of_lt hd (by omega)), Int.toNat_natCast, zae]
  simp only [Bool.not_false, mst2]
  by_cases h : rows.length <= z % n
  . rw [zay (by omega), cond_true, if_pos h]
  . rw [zan (by omega), cond_false, if_neg h, zaa (by omega), show (true && true) = true from rfl, mst2]
    obtain ⟨q, hqq⟩ : ∃ q, z / n = q := ⟨_, rfl⟩
    rw [hqq] at hq
    rw [hqq]
    obtain rfl | rfl | rfl : q = 0 \/ q = 1 \/ q = 2 := by omega
    . rfl
    . rfl
    . rfl
section
variable {N n V : Nat} {c0 : Int} {rows : List Row} {S : List Pr} {cl o0 o1 o2 : List Int} (G : Ground cl rows n V)
include G
theorem wr3 : wr ((3 : Int) * (n : Int)) = ((3 * n : Nat) : Int) := by
  have := G.n64
  rw [zaX (by omega) (by omega)]; omega
theorem zrs (z : Nat) : -1 <= varC rows n z /\ varC rows n z < (V : Int) \/ (varC rows n z = -1) := by
  unfold varC
  split
  . exact .inr rfl
  . rename_i h
    exact .inl (G.vars _ (zuc (by omega)) _)
theorem zfv {z : Nat} (h : 0 <= varC rows n z) : (leI 0 (varC rows n z) && ltI (varC rows n z) (cl.length : Int)) = true := by
  rcases zrs G z with h1 | h1
  . rw [zay h, zaa (by rw [G.lc]; omega)]; rfl
  . omega
theorem zj2 {A : Int -> Int -> Int -> Int -> (List Int) -> (List Bool) -> (List Row) -> (List Pr) -> (List Int) -> (List Int) -> (List Int) -> Option (Bool × Unit)} {x u : Nat} {seen : List Bool} (hx : x < 3 * n) (hu : u < 3 * n)
    (hb : ∀ y, x < y -> y < 3 * n -> (u <= x \/ y < u) -> 0 <= varC rows n x -> 0 <= varC rows n y -> cl.getD (varC rows n y).toNat 0 ≠ cl.getD (varC rows n x).toNat 0) : ∀ (k y f : Nat), x < y -> y + k = 3 * n -> k < f ->
    zbo N A f (n : Int) (x : Int) (u : Int) (varC rows n x) (y : Int) c0 (V : Int) cl seen rows S o0 o1 o2 = A (n : Int) ((x + 1 : Nat) : Int) c0 (V : Int) cl seen rows S o0 o1 o2
  | 0, y, f + 1, h1, h2, h3 => by
    have := G.n64
    rw [zgY]
    unfold zh8
    rw [wr3 G, zab (by omega), cond_false, zap (by omega)]
  | k + 1, y, f + 1, h1, h2, h3 => by
    have h64 := G.n64
    have ih := zj2 (A := A) (seen := seen) hx hu hb k (y + 1) f (by omega) (by omega) (by omega)
    rw [zgY]
    unfold zh8
    rw [wr3 G, zaa (by omega), cond_true, zd6 c0 (V : Int) rows S G.n1 h64 (by omega : y < 3 * n), zap (by omega : x < 9223372036854775807), zap (by omega : y < 9223372036854775807), ih]
    simp only [bsm]
    have go : (u <= x \/ y < u) -> (cond (leI 0 (varC rows n x)) (cond (leI 0 (varC rows n y)) (must (leI 0 (varC rows n y) && ltI (varC rows n y) (cl.length : Int)) (must (leI 0 (varC rows n x) && ltI (varC rows n x) (cl.length : Int)) (cond (eqI (cl.getD (varC rows n y).toNat 0) (cl.getD (varC rows n x).toNat 0)) (some (false, ())) (A (n : Int) ((x + 1 : Nat) : Int) c0 (V : Int) cl seen rows S o0 o1 o2)))) (A (n : Int) ((x + 1 : Nat) : Int) c0 (V : Int) cl seen rows S o0 o1 o2)) (A (n : Int) ((x + 1 : Nat) : Int) c0 (V : Int) cl seen rows S o0 o1 o2)) = A (n : Int) ((x + 1 : Nat) : Int) c0 (V : Int) cl seen rows S o0 o1 o2 := fun h => by
      by_cases hvx : 0 <= varC rows n x
      . by_cases hvy : 0 <= varC rows n y
        . rw [zfv G hvx, zfv G hvy, zay hvx, zay hvy, cond_true, cond_true, mst2, mst2, zaO (hb y h1 (by omega) h hvx hvy), cond_false]
        . rw [zay hvx, zan hvy, cond_true, cond_false]
      . rw [zan hvx, cond_false]
    by_cases hux : u <= x
    . rw [zay (by omega), cond_true]
      exact go (.inl hux)
    . rw [zan (by omega), cond_false]
      by_cases hyu : y < u
      . rw [zaa (by omega), cond_true]
        exact go (.inr hyu)
      . rw [zab (by omega), cond_false]
theorem zzm {A : Int -> Int -> Int -> Int -> (List Int) -> (List Bool) -> (List Row) -> (List Pr) -> (List Int) -> (List Int) -> (List Int) -> Option (Bool × Unit)} {x u : Nat} {seen : List Bool} (hx : x < 3 * n) (hj : x / n = 0) (hl : o0.length = n) (hto : o0.getD (x % n) 0 = (u : Int)) (hu : u < 3 * n) (hs : seen.length = 3 * n) (hseen : seen.getD u false = false)
    (hneg : varC rows n x < 0 -> u = x) (hpos : 0 <= varC rows n x -> 0 <= varC rows n u /\ cl.getD (varC rows n x).toNat 0 = cl.getD (varC rows n u).toNat 0) :
    zc5 N A (n : Int) (x : Int) c0 (V : Int) cl seen rows S o0 o1 o2 = zbo N A N (n : Int) (x : Int) (u : Int) (varC rows n x) ((x + 1 : Nat) : Int) c0 (V : Int) cl (setL seen u true) rows S o0 o1 o2 := by
  have h64 := G.n64
  have h1 := G.n1
  have hm : x % n < n := Nat.mod_lt _ h1
  have hbi : (leI 0 ((x % n : Nat) : Int) && ltI ((x % n : Nat) : Int) (o0.length : Int)) = true := by rw [zae, zaa (by omega)]; rfl
  have hbu : (leI 0 (u : Int) && ltI (u : Int) (seen.length : Int)) = true := by rw [zae, zaa (by omega)]; rfl
  unfold zc5
  rw [wr3 G, zaa (by omega), cond_true, zaO (by omega : ¬ (n : Int) = 0)]
  simp only [Bool.not_false, mst2]
  rw [zbp, hj, zmH (by omega), zey]
  rw [show eqI ((0 : Nat) : Int) ((0 : Nat) : Int) = true from rfl, cond_true]
  rw [hbi]
  simp only [mst2, Int.toNat_natCast]
  rw [hto, zab (by omega), cond_false, zan (by omega), cond_false, hbu, Int.toNat_natCast, hseen]
  simp only [mst2, cond_false]
  rw [zd6 c0 (V : Int) rows S h1 h64 hx, zd6 c0 (V : Int) rows S h1 h64 hu]
  simp only [bsm]
  by_cases hn : varC rows n x < 0
  . rw [zaa hn, cond_true, zaN (by rw [hneg hn]), Bool.not_true, cond_false, zan (by omega), cond_false, zap (by omega)]
  . obtain ⟨hp1, hp2⟩ := hpos (by omega)
    rw [zab hn, cond_false, zay (by omega), cond_true, zab (by omega), cond_false]
    have b1 := zfv G (z := x) (by omega)
    have b2 := zfv G (z := u) hp1
    rw [zay (by omega)] at b1
    rw [zay hp1] at b2 ⊢
    rw [b1, b2, mst2, mst2, zaN hp2, Bool.not_true, cond_false, zap (by omega)]
theorem zzn {A : Int -> Int -> Int -> Int -> (List Int) -> (List Bool) -> (List Row) -> (List Pr) -> (List Int) -> (List Int) -> (List Int) -> Option (Bool × Unit)} {x u : Nat} {seen : List Bool} (hx : x < 3 * n) (hj : x / n = 1) (hl : o1.length = n) (hto : o1.getD (x % n) 0 = (u : Int)) (hu : u < 3 * n) (hs : seen.length = 3 * n) (hseen : seen.getD u false = false)
    (hneg : varC rows n x < 0 -> u = x) (hpos : 0 <= varC rows n x -> 0 <= varC rows n u /\ cl.getD (varC rows n x).toNat 0 = cl.getD (varC rows n u).toNat 0) :
    zc5 N A (n : Int) (x : Int) c0 (V : Int) cl seen rows S o0 o1 o2 = zbo N A N (n : Int) (x : Int) (u : Int) (varC rows n x) ((x + 1 : Nat) : Int) c0 (V : Int) cl (setL seen u true) rows S o0 o1 o2 := by
  have h64 := G.n64
  have h1 := G.n1
  have hm : x % n < n := Nat.mod_lt _ h1
  have hbi : (leI 0 ((x % n : Nat) : Int) && ltI ((x % n : Nat) : Int) (o1.length : Int)) = true := by rw [zae, zaa (by omega)]; rfl
  have hbu : (leI 0 (u : Int) && ltI (u : Int) (seen.length : Int)) = true := by rw [zae, zaa (by omega)]; rfl
  unfold zc5
  rw [wr3 G, zaa (by omega), cond_true, zaO (by omega : ¬ (n : Int) = 0)]
  simp only [Bool.not_false, mst2]
  rw [zbp, hj, zmH (by omega), zey]
  rw [show eqI ((1 : Nat) : Int) ((0 : Nat) : Int) = false from rfl, cond_false, show eqI ((1 : Nat) : Int) ((0 + 1 : Nat) : Int) = true from rfl, cond_true]
  rw [hbi]
  simp only [mst2, Int.toNat_natCast]
  rw [hto, zab (by omega), cond_false, zan (by omega), cond_false, hbu, Int.toNat_natCast, hseen]
  simp only [mst2, cond_false]
  rw [zd6 c0 (V : Int) rows S h1 h64 hx, zd6 c0 (V : Int) rows S h1 h64 hu]
  simp only [bsm]
  by_cases hn : varC rows n x < 0
  . rw [zaa hn, cond_true, zaN (by rw [hneg hn]), Bool.not_true, cond_false, zan (by omega), cond_false, zap (by omega)]
  . obtain ⟨hp1, hp2⟩ := hpos (by omega)
    rw [zab hn, cond_false, zay (by omega), cond_true, zab (by omega), cond_false]
    have b1 := zfv G (z := x) (by omega)
    have b2 := zfv G (z := u) hp1
    rw [zay (by omega)] at b1
    rw [zay hp1] at b2 ⊢
    rw [b1, b2, mst2, mst2, zaN hp2, Bool.not_true, cond_false, zap (by omega)]
theorem zzo {A : Int -> Int -> Int -> Int -> (List Int) -> (List Bool) -> (List Row) -> (List Pr) -> (List Int) -> (List Int) -> (List Int) -> Option (Bool × Unit)} {x u : Nat} {seen : List Bool} (hx : x < 3 * n) (hj : x / n = 2) (hl : o2.length = n) (hto : o2.getD (x % n) 0 = (u : Int)) (hu : u < 3 * n) (hs : seen.length = 3 * n) (hseen : seen.getD u false = false)
    (hneg : varC rows n x < 0 -> u = x) (hpos : 0 <= varC rows n x -> 0 <= varC rows n u /\ cl.getD (varC rows n x).toNat 0 = cl.getD (varC rows n u).toNat 0) :
    zc5 N A (n : Int) (x : Int) c0 (V : Int) cl seen rows S o0 o1 o2 = zbo N A N (n : Int) (x : Int) (u : Int) (varC rows n x) ((x + 1 : Nat) : Int) c0 (V : Int) cl (setL seen u true) rows S o0 o1 o2 := by
  have h64 := G.n64
  have h1 := G.n1
  have hm : x % n < n := Nat.mod_lt _ h1
  have hbi : (leI 0 ((x % n : Nat) : Int) && ltI ((x % n : Nat) : Int) (o2.length : Int)) = true := by rw [zae, zaa (by omega)]; rfl
  have hbu : (leI 0 (u : Int) && ltI (u : Int) (seen.length : Int)) = true := by rw [zae, zaa (by omega)]; rfl
  unfold zc5
  rw [wr3 G, zaa (by omega), cond_true, zaO (by omega : ¬ (n : Int) = 0)]
  simp only [Bool.not_false, mst2]
  rw [zbp, hj, zmH (by omega), zey]
  rw [show eqI ((2 : Nat) : Int) ((0 : Nat) : Int) = false from rfl, cond_false, show eqI ((2 : Nat) : Int) ((0 + 1 : Nat) : Int) = false from rfl, cond_false, show eqI ((2 : Nat) : Int) ((0 + 1 + 1 : Nat) : Int) = true from rfl, mst2]
  rw [hbi]
  simp only [mst2, Int.toNat_natCast]
  rw [hto, zab (by omega), cond_false, zan (by omega), cond_false, hbu, Int.toNat_natCast, hseen]
  simp only [mst2, cond_false]
  rw [zd6 c0 (V : Int) rows S h1 h64 hx, zd6 c0 (V : Int) rows S h1 h64 hu]
  simp only [bsm]
  by_cases hn : varC rows n x < 0
  . rw [zaa hn, cond_true, zaN (by rw [hneg hn]), Bool.not_true, cond_false, zan (by omega), cond_false, zap (by omega)]
  . obtain ⟨hp1, hp2⟩ := hpos (by omega)
    rw [zab hn, cond_false, zay (by omega), cond_true, zab (by omega), cond_false]
    have b1 := zfv G (z := x) (by omega)
    have b2 := zfv G (z := u) hp1
    rw [zay (by omega)] at b1
    rw [zay hp1] at b2 ⊢
    rw [b1, b2, mst2, mst2, zaN hp2, Bool.not_true, cond_false, zap (by omega)]
def Seen (n : Nat) (O : Nat -> Int) (x : Nat) (seen : List Bool) : Prop := seen.length = 3 * n /\ ∀ u : Nat, u < 3 * n -> (seen.getD u false = true ↔ ∃ z, z < x /\ O z = (u : Int))
theorem zmK (hl : Len3 n 2 o0 o1 o2) (hf : ∀ z, z < 3 * n -> ∃ u : Nat, oG n o0 o1 o2 z = (u : Int) /\ zcZ (kC cl rows n) (3 * n) z u) (hN : 1000 <= N) : ∀ (k x f : Nat) (seen : List Bool), x + k = 3 * n -> k < f -> Seen n (oG n o0 o1 o2) x seen ->
    zfu N f (n : Int) (x : Int) c0 (V : Int) cl seen rows S o0 o1 o2 = some (true, ())
  | 0, x, f + 1, seen, h1, h2, hs => by
    rw [zgZ]
    unfold zc5
    rw [wr3 G, zab (by omega), cond_false]
  | k + 1, x, f + 1, seen, h1, h2, hs => by
    have h64 := G.n64
    have hn1 := G.n1
    have hx : x < 3 * n := by omega
    obtain ⟨u, hou, hfu⟩ := hf x hx
    have hu := znH hx hfu
    have hcls := zc0 hfu
    have hseen : seen.getD u false = false := by
      cases hb : seen.getD u false with
      | false => rfl
      | true =>
        obtain ⟨z, hz, hoz⟩ := (hs.2 u hu).1 hb
        obtain ⟨u', hou', hfu'⟩ := hf z (by omega)
        rw [hoz] at hou'
        have : u' = u := by omega
        subst this
        have := zlM hx (by omega) hfu hfu'
        omega
    have hkn : ∀ z, 0 <= varC rows n z -> 0 <= kC cl rows n z := fun z hz => by
      rw [zgV (by omega)]
      rcases zrs G z with h | h
      . obtain ⟨c, _, hc⟩ := G.cc (varC rows n z).toNat (by omega)
        rw [hc]; omega
      . omega
    have hneg : varC rows n x < 0 -> u = x := fun h => by
      rcases hfu with ⟨_, e⟩ | ⟨e, _⟩
      . exact e
      . rw [zrh h] at e; omega
    have hpos : 0 <= varC rows n x -> 0 <= varC rows n u /\ cl.getD (varC rows n x).toNat 0 = cl.getD (varC rows n u).toNat 0 := fun h => by
      have h0 := hkn x h
      have hvu : 0 <= varC rows n u := by
        rcases Int.lt_or_le (varC rows n u) 0 with h' | h'
        . rw [zrh h'] at hcls; omega
        . exact h'
      rw [zgV (by omega), zgV (by omega)] at hcls
      exact ⟨hvu, hcls.symm⟩
    have hstep : zc5 N (zfu N f) (n : Int) (x : Int) c0 (V : Int) cl seen rows S o0 o1 o2 = zbo N (zfu N f) N (n : Int) (x : Int) (u : Int) (varC rows n x) ((x + 1 : Nat) : Int) c0 (V : Int) cl (setL seen u true) rows S o0 o1 o2 := by
      have hq : x / n < 3 := Nat.div_lt_of_lt_mul (by omega)
      unfold oG at hou
      by_cases a0 : x / n = 0
      . rw [if_pos a0] at hou
        exact zzm G hx a0 hl.1 hou hu hs.1 hseen hneg hpos
      . rw [if_neg a0] at hou
        by_cases a1 : x / n = 1
        . rw [if_pos a1] at hou
          exact zzn G hx a1 (hl.2.1 (by omega)) hou hu hs.1 hseen hneg hpos
        . rw [if_neg a1] at hou
          exact zzo G hx ((show ∀ q : Nat, q < 3 -> ¬ q = 0 -> ¬ q = 1 -> q = 2 by omega) _ hq a0 a1) (hl.2.2 (by omega)) hou hu hs.1 hseen hneg hpos
    rw [zgZ, hstep, zj2 G hx hu (fun y hy1 hy2 hy3 hvx hvy => by
      have := zg0 hx hfu (hkn x hvx) hy1 hy2 hy3
      rw [zgV (by omega), zgV (by omega)] at this
      exact this) (3 * n - (x + 1)) (x + 1) N (by omega) (by omega) (by omega)]
    refine zmK hl hf hN k (x + 1) f _ (by omega) (by omega) ⟨by rw [zaz]; exact hs.1, fun v hv => ?_⟩
    rw [zrr]
    constructor
    . intro h
      split at h
      . rename_i hc
        exact ⟨x, by omega, by rw [hc.1]; exact hou⟩
      . obtain ⟨z, hz, e⟩ := (hs.2 v hv).1 h
        exact ⟨z, by omega, e⟩
    . rintro ⟨z, hz, e⟩
      split
      . rfl
      . rename_i hc
        refine (hs.2 v hv).2 ⟨z, ?_, e⟩
        rcases Nat.lt_or_ge z x with h | h
        . exact h
        . have : z = x := by omega
          subst this
          rw [hou] at e
          exact absurd ⟨by omega, by rw [hs.1]; omega⟩ hc
end
theorem ztB {N : Nat} (hN : 100000 <= N) {c0 : Int} {V : Nat} {rows : List Row} {S : List Pr} (hg : GoodCirc c0 (V : Int) rows S) {L : Nat} (h1 : 1 <= L) (h6 : L <= 6) (hr : rows.length <= 2 ^ L) :
    ∃ r cl, q131 N c0 (V : Int) rows S (L : Int) = some r /\ q134 N c0 (V : Int) rows S = some (cl, ()) /\ r.2.1 = 0 /\ Len3 (2 ^ L) 2 r.1.1 r.1.2.1 r.1.2.2.1 /\ GoodC S V cl /\
      ∀ z, z < 3 * 2 ^ L -> ∃ u : Nat, oG (2 ^ L) r.1.1 r.1.2.1 r.1.2.2.1 z = (u : Int) /\ zcZ (kC cl rows (2 ^ L)) (3 * 2 ^ L) z u := by
  have hV := hg.v200
  have hp := zcX L
  have hle := zdy h6
  have hm : q119 N c0 (V : Int) rows S = some (0, ()) := by
    rw [zwd (by omega) c0 (V : Int) rows S (by have := hg.rows; omega) (by have := hg.same; omega), hg.may]
  have hS := hg.pairs (V := V) rfl
  obtain ⟨cl, e4, e5, gc, fc⟩ := znD (c0 := c0) (v2 := rows) hS (by have := hg.same; omega) (by omega) hN hm
  have G := zjW hg gc h6 (by omega)
  obtain ⟨fi, r8, fl, fm⟩ := zjV (N := N) (n6 := ((2 ^ L : Nat) : Int)) (c0 := c0) (v1 := (V : Int)) (rows := rows) (S := S) (cl := cl) (la := List.replicate V 0) (x := []) (y := []) (z := []) (o0 := []) (o1 := []) (o2 := []) (V := V) (by omega) V 0 N (List.replicate V 0) (ze3 V) (fun i hi => absurd hi (by omega)) (by omega) (by omega)
  have I0 : PInv (kC cl rows (2 ^ L)) V (2 ^ L) 0 fi (List.replicate V 0) (fun _ => 0) :=
    ⟨fl, ze3 V, fun c hc => .inl ⟨fm c hc, fun z hz => absurd hz (by omega)⟩, fun z hz => absurd hz (by omega)⟩
  obtain ⟨n, rfl⟩ : ∃ n, N = n + 4 := ⟨N - 4, by omega⟩
  obtain ⟨p0, p1, p2, r13, l3, f3⟩ := zlJ (N := n + 4) (c0 := c0) (v1 := (V : Int)) (S := S) (x := []) (y := []) (z := []) (by omega) G I0 n
  refine ⟨((p0, p1, p2, ()), 0, ()), cl, ?_, e4, rfl, l3, gc, f3⟩
  unfold q131
  rw [zqP (n + 4) h1 h6]
  simp only [bsm]
  rw [Bool.not_true, cond_false, sh1 h6, zab (by omega), cond_false, hm]
  simp only [bsm]
  rw [zaN rfl, Bool.not_true, cond_false, e4]
  simp only [bsm]
  rw [zae, zaN rfl, Int.toNat_natCast, zaI (by omega), show (true && (true && true)) = true from rfl, mst2, mst2, ze3]
  exact r8.trans r13
theorem zfA (l : List UInt8) : q35 100000 l = some (true, ()) := by
  unfold q35
  rw [zwh]
  simp only [bsm]
  rw [Bool.not_true, cond_false]
  cases hlen : ltI 80 (l.length : Int)
  case true => rfl
  obtain ⟨n, a', b', s, g, ha, hb, hg, hp, hi, hgd, hgc, e⟩ := ztw (N := 100000) (most := 14) (by omega) (by omega) l
  rw [cond_false, show ((14 : Nat) : Int) = (14 : Int) from rfl] at *
  rw [e]
  simp only [bsm, PlS.res]
  obtain ⟨L, h1, h6, hr, eL⟩ := zwn (N := 100000) (by omega) (s.pb.length : Int) (s.vs.length : Int) s.sm hgc.rows
  rw [eL]
  simp only [bsm]
  have hV := hgc.v200
  have hp2 := zcX L
  have hle := zdy h6
  obtain ⟨r, cl, r1, e4, hr0, hlen3, gc, hfol⟩ := ztB (by omega : 100000 <= 100000) hgc h1 h6 hr
  rw [zay (by omega), mst2, zaa (by omega : (L : Int) < 18446744073709551616), mst2, r1, e4]
  simp only [bsm]
  rw [sh1' h6, hr0, hlen3.1, hlen3.2.1 (by omega), hlen3.2.2 (by omega), gc.len]
  simp only [zaN rfl, Bool.not_true, cond_false]
  have G := zjW hgc gc h6 hr
  rw [wr3 G, zay (by omega), Int.toNat_natCast, zaI (by omega)]
  simp only [Bool.and_self, mst2]
  exact zmK G hlen3 hfol (by omega) (3 * 2 ^ L) 0 100000 _ (by omega) (by omega) ⟨by simp, fun u hu => ⟨fun h => by rw [List.getD_eq_getElem?_getD, List.getElem?_replicate] at h; split at h <;> simp at h, fun ⟨z, hz, _⟩ => absurd hz (by omega)⟩⟩
end
section
open Go.ChangeShapes Go.WideShapes Go.ChangeAt Go.RowKit
def zwo (P : Program) (k : K) (t : TypeId) : Prop :=
  ∀ (H : Type) (enc : TypeId × Value -> H) (W : World) (base : Nat) (v : Value) (d : DataW H) (p : List MemPlace), Value.okWide P W .any base t v -> DataW.Trod enc P W 0 (fun _ => true) true t v d p ->
    ∃ x : k.T, zhm W (fun b => b < W.heap.size) (k.enc x) v
theorem zg1 {P : Program} {H : Type} {enc : TypeId × Value -> H} {W : World} {base : Nat} {sp : Nat -> Bool} {hd : Bool} : ∀ {ts : List TypeId} {vs : List Value} {ds : List (DataW H)} {p : List MemPlace}, DataW.TrodAll enc P W base sp hd ts vs ds p -> ds.length = ts.length
  | [], [], [], _, _ => rfl
  | _ :: _, _ :: _, _ :: _, _, ⟨_, _, _, h, _⟩ => by simp [zg1 h]
  | [], _ :: _, _, _, h => by cases h
  | [], [], _ :: _, _, h => by cases h
  | _ :: _, [], _, _, h => by cases h
  | _ :: _, _ :: _, [], _, h => by cases h
structure NumEl where
  e : El
  k : IntKind
  of : Int -> e.T
  one : e.size = 1
  val : ∀ n, (Lit.int k n).wf = true -> ∃ c, e.toC (of n) = [c] /\ c.val = some (.int k n)
def zBf : NumEl := ⟨.u8, .u8, fun n => UInt8.ofNat n.toNat, rfl, fun n hw => ⟨_, rfl, by
  have := bounds_u8 hw
  simp only [C.val, Option.some.injEq, Value.int.injEq, true_and]
  rw [UInt8.toNat_ofNat']
  omega⟩⟩
theorem zj3 (m : NumEl) (zs : List Int) (hw : ∀ n ∈ zs, (Lit.int m.k n).wf = true) (j : Nat) (c : C) (h : (flat m.e (zs.map m.of))[j]? = some c) : j < zs.length /\ c.val = some (.int m.k (zs.getD j 0)) := by
  induction zs generalizing j with
  | nil => simp [flat] at h
  | cons z zs ih =>
    obtain ⟨c0, h1, h2⟩ := m.val z (hw z (by simp))
    simp only [List.map_cons, flat, h1] at h
    cases j with
    | zero =>
      simp at h
      subst h
      exact ⟨by simp, by simpa using h2⟩
    | succ j =>
      simp at h
      obtain ⟨h3, h4⟩ := ih (fun n hn => hw n (by simp [hn])) j h
      exact ⟨by simpa using h3, by simpa using h4⟩
theorem zlN {P : Program} {t e : TypeId} (m : NumEl) (ht : P.underlying t = some (.slice e)) (he : P.underlying e = some (.int m.k)) (hc : P.cellsOf e = 1) : zwo P (K.ro m.e) t := fun H enc W base v d p hv h => by
  obtain ⟨ad, n, c, rfl⟩ := okWide_slice ht hv
  obtain ⟨fuel, hf⟩ := h
  rcases open_ints ht he hc hf with ⟨hcs, _⟩ | ⟨a, len, cap, zs, hcs, _, h1, h2, h3, _, h5, h6⟩
  . simp [Value.cells] at hcs
    obtain ⟨rfl, rfl, rfl⟩ := hcs
    exact ⟨[], .emp⟩
  . simp [Value.cells] at hcs
    obtain ⟨rfl, rfl, rfl⟩ := hcs
    simp only [if_true] at h3
    cases hn : n with
    | zero => exact ⟨[], .emp⟩
    | succ n' =>
      have hlen : ((zs.take n).map m.of).length = n := by simp; omega
      have h0 := h5 0 (by omega)
      have hspot : a.spot = none /\ a.block < W.heap.size := by
        have e0 : a.add 0 = a := by simp [Addr.add]
        rw [e0] at h0
        unfold World.cell? at h0
        split at h0
        . rename_i cs _ _ hb
          refine ⟨?_, (Array.getElem?_eq_some_iff.1 hb).1⟩
          cases hs : a.spot with
          | none => rfl
          | some q => rw [hs] at h0; simp at h0
        . cases h0
      obtain ⟨b, off, spot⟩ := a
      obtain ⟨hs, hb⟩ := hspot
      simp only at hs hb
      subst hs
      have hw : ∀ z ∈ zs.take n, (Lit.int m.k z).wf = true := fun z hz => h6 z (List.mem_of_mem_take hz)
      refine ⟨(zs.take n).map m.of, ?_⟩
      have := Holds.ro (w := W) (ok := fun b => b < W.heap.size) (e := m.e) (l := (zs.take n).map m.of) (b := b) (off := off) (cap := c) (fun j => .int m.k (zs.getD j 0)) (by rw [hlen]; exact h1) h2 hb (fun j c' hj => ?_) (fun j c' hj => ?_)
      . rw [hlen] at this
        rw [← hn]
        exact this
      . obtain ⟨q1, q2⟩ := zj3 m _ hw j c' hj
        have := h5 j (by rw [List.length_take] at q1; omega)
        rw [zaV] at this
        exact this
      . obtain ⟨q1, q2⟩ := zj3 m _ hw j c' hj
        rw [List.length_take] at q1
        refine .sc ?_
        rw [q2]
        congr 2
        simp only [List.getD_eq_getElem?_getD, List.getElem?_take]
        rw [if_pos (by omega)]
theorem ztC {P : Program} (hlaid : laidOutB P = true) {H : Type} {enc : TypeId × Value -> H} {fn : Func} {s : ChangeSpec} {apart fresh : Bool} {W W' : World} {args : Array Value} {ds gs : List (DataW H)} {before : List MemPlace} {tb : TypeId}
    (hread : ∀ t ∈ fn.params.toList, P.readableRec t = true /\ t < P.types.size) (hvars : s.vars = []) (hres : fn.resultTypes = #[tb]) (htb : P.underlying tb = some .bool)
    (hspec : s.fn H (ds ++ []) = { results := [.lit (.bool true)], args := ds })
    (hW : DataW.Whole enc P fn.params.toList s.vars apart W args.toList ds gs before) (hk : Kept W W') : s.post enc P fn apart fresh false false W args (.bool true) W' := by
  have hW' := hW
  obtain ⟨p, q, hA, hV, rfl, hz, hn⟩ := hW'
  rw [hvars] at hV
  obtain ⟨rfl, rfl⟩ := trodVars_none hV
  have hlt : ∀ x ∈ p, x.block < W.heap.size := fun x hx => hW.lt x (by simp [hx])
  have hbelow : Below W.heap.size W W' := ⟨hk.os, hk.tape, hk.output, hk.size, hk.block⟩
  have hargs : ∀ {ts : List TypeId} {vs : List Value} {ds : List (DataW H)} {p : List MemPlace}, (∀ t ∈ ts, P.readableRec t = true /\ t < P.types.size) -> DataW.TrodAll enc P W 0 (fun _ => true) true ts vs ds p -> (∀ x ∈ p, x.block < W.heap.size) ->
      DataW.TrodAll enc P W' 0 (fun b => decide (b < W.heap.size)) true ts vs ds p := by
    intro ts
    induction ts with
    | nil => intro vs ds p _ h _; cases vs <;> cases ds <;> first | exact h | exact h.elim
    | cons t ts ih =>
      intro vs ds p hr h hl
      cases vs with
      | nil => cases ds <;> exact h.elim
      | cons v vs => cases ds with
        | nil => exact h.elim
        | cons d ds =>
          obtain ⟨p1, q1, h1, h2, rfl⟩ := h
          exact ⟨p1, q1, Below.trod hlaid (hr t (by simp)).1 (hr t (by simp)).2 h1 hbelow (fun x hx => hl x (by simp [hx])), ih (fun t ht => hr t (by simp [ht])) h2 (fun x hx => hl x (by simp [hx])), rfl⟩
  have hkeep : W.keptBut W' (fun _ => False) := by
    refine ⟨hk.os, hk.output, fun i hi => ?_⟩
    rw [hk.block i hi]
    cases hb : W.heap[i]? with
    | none => trivial
    | some o => cases o <;> simp
  refine ⟨ds, [], p ++ [], [], p, [], hW, ?_, ?_, ?_, World.keptBut_mono (fun _ h => h.elim) hkeep, fun h => by cases h⟩
  . rw [hspec, hres]
    refine ⟨[], [], ⟨1, ?_⟩, rfl, rfl⟩
    simp [DataW.trod, htb, Value.cells, Value.resultList]
  . rw [hspec]
    exact hargs hread hA hlt
  . rw [hspec, hvars]
    rfl
end
section
open Go.ChangeShapes Go.WideShapes Go.ChangeAt Go.RowKit
theorem own : ownKnob Try.prog.godebug = none := by kernel_rfl
theorem laid : laidOutB Try.pinned.checked.prog = true := by kernel_rfl
theorem zBg : mapsRowed Try.pinned.checked.prog = true := by kernel_rfl
theorem zBh : Try.pinned.checked.prog.stopsHeard = true := by kernel_rfl
theorem znI : Try.pinned.checked.prog.mayEnter = true := znM
theorem zwp : zwo Try.prog (K.ro .u8) 24 := zlN zBf Try.underlying24 Try.underlying5 (by kernel_rfl)
end
section
open Go.ChangeShapes Go.WideShapes Go.ChangeAt Go.RowKit
deriving instance DecidableEq for CS
section
variable {P : Program} {els : List (Nat × El)} {W : World} {H : Type} {enc : TypeId × Value -> H}
end
structure KQ where
  k : K
  q : k.T -> Prop
def TKQ : (l : List KQ) -> TKs (l.map KQ.k) -> Prop
  | [], _ => True
  | a :: l, x => a.q x.1 /\ TKQ l x.2
def zrt (P : Program) (a : KQ) (t : TypeId) : Prop :=
  ∀ (H : Type) (enc : TypeId × Value -> H) (W : World) (base : Nat) (v : Value) (d : DataW H) (p : List MemPlace), Value.okWide P W .any base t v -> DataW.Trod enc P W 0 (fun _ => true) true t v d p ->
    ∃ x : a.k.T, a.q x /\ zhm W (fun b => b < W.heap.size) (a.k.enc x) v
def zj4 (P : Program) : List KQ -> List TypeId -> Prop
  | [], [] => True
  | k :: ks, t :: ts => zrt P k t /\ zj4 P ks ts
  | _, _ => False
theorem zg2 {P : Program} {H : Type} {enc : TypeId × Value -> H} {W : World} {base : Nat} : ∀ {ks : List KQ} {ts : List TypeId} {vs : List Value} {ds : List (DataW H)} {p : List MemPlace}, zj4 P ks ts -> DataW.TrodAll enc P W 0 (fun _ => true) true ts vs ds p ->
    (∀ (j : Nat) t v, ts[j]? = some t -> vs[j]? = some v -> Value.okWide P W .any base t v) -> ∃ x : TKs (ks.map KQ.k), TKQ ks x /\ zbc W (fun b => b < W.heap.size) (zeS (ks.map KQ.k) x) vs
  | [], [], [], [], _, _, _, _ => ⟨(), trivial, trivial⟩
  | k :: ks, t :: ts, v :: vs, d :: ds, p, ho, ht, hv => by
    obtain ⟨p1, q1, h1, h2, _⟩ := ht
    obtain ⟨x, hx0, hx⟩ := ho.1 H enc W base v d p1 (hv 0 t v rfl rfl) h1
    obtain ⟨y, hy0, hy⟩ := zg2 ho.2 h2 fun j t v hj hw => hv (j + 1) t v (by simpa using hj) (by simpa using hw)
    exact ⟨(x, y), ⟨hx0, hy0⟩, hx, hy⟩
  | [], _ :: _, _, _, _, ho, _, _ => ho.elim
  | _ :: _, [], _, _, _, ho, _, _ => ho.elim
  | [], [], _ :: _, _, _, _, ht, _ => by cases ht
  | [], [], [], _ :: _, _, _, ht, _ => by cases ht
  | _ :: _, _ :: _, [], _, _, _, ht, _ => by cases ht
  | _ :: _, _ :: _, _ :: _, [], _, _, ht, _ => by cases ht
def KQ.any (k : K) : KQ := ⟨k, fun _ => True⟩
theorem zru {P : Program} {k : K} {t : TypeId} (h : zwo P k t) : zrt P (KQ.any k) t := fun H enc W base v d p hv ht => by
  obtain ⟨x, hx⟩ := h H enc W base v d p hv ht
  exact ⟨x, trivial, hx⟩
def isAgg : TypeDesc -> Bool
  | .struct _ => true
  | .array _ _ => true
  | _ => false
def KQ.vec (e : El) (n : Nat) : KQ := ⟨K.vec e, fun l => l.length = n⟩
theorem znJ {P : Program} {pd : PD} (hp : PDok P pd) {env : Nat -> Option Sg} (henv : ∀ f g, env f = some g -> SgOK P pd.els f g) {n : FuncId} {fn : Func} (hf : P.funcs[n]? = some fn) (hname : fn.name ≠ "runtime.NumGoroutine")
    (ps : List K) (f : TKs ps -> Option (TKs [K.bool])) (N : Nat) (tab : List (Nat × Head)) (d : Nat)
    (hrun : ∀ x, zja pd env fn (zck [K.bool]) (mkLp pd env (zc2 pd fn (zck [K.bool])) N tab d) (zeS ps x) = f x)
    (x : TKs ps) (hx : f x = some (true, ())) (w : World) (vs : List Value) (ok : Nat -> Prop) (hok : ∀ b, ok b -> b < w.heap.size) (hh : zbc w ok (zeS ps x) vs) :
    Calls P n vs.toArray w fun e w' => e = .returned (.bool true) /\ Kept w w' := by
  have h := zr9 (P := P) (pd := pd) hp henv hf hname ⟨TKs [K.bool], 0, fun us => zja pd env fn (zck [K.bool]) (mkLp pd env (zc2 pd fn (zck [K.bool])) N tab d) us, fun r => zoN (zeS [K.bool] r)⟩ rfl (zck [K.bool])
    (fun us r h => by rw [zcV h]) N tab d (fun us r h => h) (us := zeS ps x) (r := (true, ())) ((hrun x).trans hx) w vs ok hok hh
  refine h.mono fun e w' he => ?_
  cases e with
  | returned v =>
    obtain ⟨⟨gs, cs, h1, h2⟩, h3⟩ := he
    refine ⟨?_, h3⟩
    cases h1 with
    | c h4 =>
      cases h4
      cases h2 with
      | sc h5 _ => simp only [C.val, Option.some.injEq] at h5; subst h5; rfl
  | panicked ch => exact he.elim
  | outgrown => exact he.elim
end
section
open Go.ChangeShapes Go.WideShapes Go.ChangeAt Go.RowKit
theorem oq24 : zrt Try.prog (KQ.any (K.ro .u8)) 24 := zru zwp
end
section
def KQ.ro (e : El) : KQ := ⟨K.ro e, fun l => (show List e.T from l).length < 9223372036854775808⟩
end
end Go.Proofs.Ytgimohchocjgcaa.V
