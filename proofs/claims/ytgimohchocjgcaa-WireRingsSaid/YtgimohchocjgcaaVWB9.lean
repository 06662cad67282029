import Derived.Test.YtgimohchocjgcaaVWD1
import Derived.Test.YtgimohchocjgcaaVWB6
import Derived.KernelRfl
import Derived.Test.YtgimohchocjgcaaVPA3
set_option linter.unusedVariables false
set_option linter.unusedSimpArgs false
namespace Go.Proofs.Ytgimohchocjgcaa.V
section
def zbP (N : Nat) (A_10 : Int -> Int -> Stp -> (List Bool) -> Option (Int × Unit)) (vars1 i7 : Int) (ob0 : Stp) (ob1 : List Bool) : Option (Int × Unit) :=
  cond ((ltI i7 (3 : Int))) (must (leI (0 : Int) i7 && ltI i7 (↑(3 : Nat) : Int)) (cond (List.getD ob1 i7.toNat false) (cond (eqI i7 (↑(0 : Nat) : Int)) (must (eqI i7 (↑(0 : Nat) : Int)) (cond ((leI vars1 ob0.v0)) (some (((10 : Int), ()))) (cond ((ltI ob0.v0 (0 : Int))) (cond (!eqI ob0.kind (2 : Int)) (some (((10 : Int), ()))) (A_10 vars1 ((wr ((↑(0 : Nat) : Int) + (1 : Int)))) (ob0) ob1)) (A_10 vars1 ((wr ((↑(0 : Nat) : Int) + (1 : Int)))) (ob0) ob1)))) (cond (eqI i7 (↑((0 : Nat) + (1 : Nat)) : Int)) (must (eqI i7 (↑((0 : Nat) + (1 : Nat)) : Int)) (cond ((leI vars1 ob0.v1)) (some (((10 : Int), ()))) (cond ((ltI ob0.v1 (0 : Int))) (cond (!eqI ob0.kind (2 : Int)) (some (((10 : Int), ()))) (A_10 vars1 ((wr ((↑((0 : Nat) + (1 : Nat)) : Int) + (1 : Int)))) (ob0) ob1)) (A_10 vars1 ((wr ((↑((0 : Nat) + (1 : Nat)) : Int) + (1 : Int)))) (ob0) ob1)))) (must (eqI i7 (↑((0 : Nat) + (1 : Nat) + (1 : Nat)) : Int)) (must (eqI i7 (↑((0 : Nat) + (1 : Nat) + (1 : Nat)) : Int)) (cond ((leI vars1 ob0.v2)) (some (((10 : Int), ()))) (cond ((ltI ob0.v2 (0 : Int))) (cond (!eqI ob0.kind (2 : Int)) (some (((10 : Int), ()))) (A_10 vars1 ((wr ((↑((0 : Nat) + (1 : Nat) + (1 : Nat)) : Int) + (1 : Int)))) (ob0) ob1)) (A_10 vars1 ((wr ((↑((0 : Nat) + (1 : Nat) + (1 : Nat)) : Int) + (1 : Int)))) (ob0) ob1))))))) (A_10 vars1 ((wr (i7 + (1 : Int)))) (ob0) ob1))) (some (((0 : Int), ())))
theorem zq9 : zln = zbP := by
  (repeat (apply funext; intro _))
  simp only [zln, zbP, hide_eq, zah, zak, zal, zaj, zaB, zaD, zbj, zaQ]
def zaZ (N n : Nat) (vars1 i7 : Int) (ob0 : Stp) (ob1 : List Bool) : Option (Int × Unit) :=
  zao (fun A x => zbP N (fun vars1 i7 ob0 ob1 => A ((vars1, ((), ((), (i7, ())))), (ob0, (ob1, ())))) x.1.1 x.1.2.2.2.1 x.2.1 x.2.2.1) n ((vars1, ((), ((), (i7, ())))), (ob0, (ob1, ())))
theorem zra : zeT = zaZ := by
  (repeat (apply funext; intro _))
  simp only [zeT, zaZ, zq9, zah, zak, zal, zaj, zaB, zaD, zbj, zaQ]
theorem zci (N n : Nat) (vars1 i7 : Int) (ob0 : Stp) (ob1 : List Bool) : zaZ N (n + 1) vars1 i7 ob0 ob1 = zbP N (zaZ N n) vars1 i7 ob0 ob1 := rfl
def zbi (N : Nat) (A_4 : Int -> Int -> Stp -> Option (Int × Unit)) (vars1 i5 : Int) (ob0 : Stp) : Option (Int × Unit) :=
  cond ((ltI i5 (5 : Int))) (cond (eqI i5 (↑(0 : Nat) : Int)) (must (eqI i5 (↑(0 : Nat) : Int)) (Option.bind (q69 N (ob0.q0)) fun rr4 => cond (!rr4.1) (some (((4 : Int), ()))) (A_4 vars1 ((wr ((↑(0 : Nat) : Int) + (1 : Int)))) (ob0)))) (cond (eqI i5 (↑((0 : Nat) + (1 : Nat)) : Int)) (must (eqI i5 (↑((0 : Nat) + (1 : Nat)) : Int)) (Option.bind (q69 N (ob0.q1)) fun rr3 => cond (!rr3.1) (some (((4 : Int), ()))) (A_4 vars1 ((wr ((↑((0 : Nat) + (1 : Nat)) : Int) + (1 : Int)))) (ob0)))) (cond (eqI i5 (↑((0 : Nat) + (1 : Nat) + (1 : Nat)) : Int)) (must (eqI i5 (↑((0 : Nat) + (1 : Nat) + (1 : Nat)) : Int)) (Option.bind (q69 N (ob0.q2)) fun rr2 => cond (!rr2.1) (some (((4 : Int), ()))) (A_4 vars1 ((wr ((↑((0 : Nat) + (1 : Nat) + (1 : Nat)) : Int) + (1 : Int)))) (ob0)))) (cond (eqI i5 (↑((0 : Nat) + (1 : Nat) + (1 : Nat) + (1 : Nat)) : Int)) (must (eqI i5 (↑((0 : Nat) + (1 : Nat) + (1 : Nat) + (1 : Nat)) : Int)) (Option.bind (q69 N (ob0.q3)) fun rr1 => cond (!rr1.1) (some (((4 : Int), ()))) (A_4 vars1 ((wr ((↑((0 : Nat) + (1 : Nat) + (1 : Nat) + (1 : Nat)) : Int) + (1 : Int)))) (ob0)))) (must (eqI i5 (↑((0 : Nat) + (1 : Nat) + (1 : Nat) + (1 : Nat) + (1 : Nat)) : Int)) (must (eqI i5 (↑((0 : Nat) + (1 : Nat) + (1 : Nat) + (1 : Nat) + (1 : Nat)) : Int)) (Option.bind (q69 N (ob0.q4)) fun rr0 => cond (!rr0.1) (some (((4 : Int), ()))) (A_4 vars1 ((wr ((↑((0 : Nat) + (1 : Nat) + (1 : Nat) + (1 : Nat) + (1 : Nat)) : Int) + (1 : Int)))) (ob0))))))))) (cond ((eqI ob0.kind (2 : Int))) (cond ((eqI ob0.kind (2 : Int))) (zaZ N N vars1 (0 : Int) (ob0) ([(ltI (1 : Int) ob0.kind), true, true])) (cond ((eqI ob0.kind (4 : Int))) (zaZ N N vars1 (0 : Int) (ob0) ([(ltI (1 : Int) ob0.kind), true, true])) (zaZ N N vars1 (0 : Int) (ob0) ([(ltI (1 : Int) ob0.kind), true, (eqI ob0.kind (5 : Int))])))) (cond ((eqI ob0.kind (5 : Int))) (cond ((eqI ob0.kind (2 : Int))) (zaZ N N vars1 (0 : Int) (ob0) ([(ltI (1 : Int) ob0.kind), true, true])) (cond ((eqI ob0.kind (4 : Int))) (zaZ N N vars1 (0 : Int) (ob0) ([(ltI (1 : Int) ob0.kind), true, true])) (zaZ N N vars1 (0 : Int) (ob0) ([(ltI (1 : Int) ob0.kind), true, (eqI ob0.kind (5 : Int))])))) (cond ((eqI ob0.kind (2 : Int))) (zaZ N N vars1 (0 : Int) (ob0) ([(ltI (1 : Int) ob0.kind), (eqI ob0.kind (6 : Int)), true])) (cond ((eqI ob0.kind (4 : Int))) (zaZ N N vars1 (0 : Int) (ob0) ([(ltI (1 : Int) ob0.kind), (eqI ob0.kind (6 : Int)), true])) (zaZ N N vars1 (0 : Int) (ob0) ([(ltI (1 : Int) ob0.kind), (eqI ob0.kind (6 : Int)), (eqI ob0.kind (5 : Int))]))))))
theorem ztc : zp5 = zbi := by
  (repeat (apply funext; intro _))
  simp only [zp5, zbi, hide_eq, zra, zAT, zah, zak, zal, zaj, zaB, zaD, zbj, zaQ]
def zgT (N n : Nat) (vars1 i5 : Int) (ob0 : Stp) : Option (Int × Unit) :=
  zao (fun A x => zbi N (fun vars1 i5 ob0 => A ((vars1, ((), (i5, ()))), (ob0, ()))) x.1.1 x.1.2.2.1 x.2.1) n ((vars1, ((), (i5, ()))), (ob0, ()))
theorem ztd : zp6 = zgT := by
  (repeat (apply funext; intro _))
  simp only [zp6, zgT, ztc, zah, zak, zal, zaj, zaB, zaD, zbj, zaQ]
theorem zbQ (N n : Nat) (vars1 i5 : Int) (ob0 : Stp) : zgT N (n + 1) vars1 i5 ob0 = zbi N (zgT N n) vars1 i5 ob0 := rfl
def q196 (N : Nat) (s0 : Stp) (vars1 : Int) : Option (Int × Unit) :=
  cond ((ltI s0.kind (1 : Int))) (some (((11 : Int), ()))) (cond ((ltI (7 : Int) s0.kind)) (some (((11 : Int), ()))) (zgT N N vars1 (0 : Int) (s0)))
theorem zy6 : p196 = q196 := by
  (repeat (apply funext; intro _))
  simp only [p196, q196, hide_eq, ztd, zah, zak, zal, zaj, zaB, zaD, zbj, zaQ]
def q115 (N : Nat) (b0 : Int) (s1 v2 : List Row) (v3 : List Pr) (v4 : Stp) : Option ((Int × List Row × List Row × List Pr × Unit) × Int × Int × Unit) :=
  Option.bind (q196 N (v4) b0) fun rr0 => cond (!eqI rr0.1 (0 : Int)) (some (((b0, s1, v2, v3, ()), (0 : Int), Prod.fst rr0, ()))) (Option.bind (q197 N (v4)) fun rr1 => cond ((ltI (64 : Int) ((wr ((wr ((↑s1.length : Int) + (↑v2.length : Int))) + (↑rr1.1.length : Int)))))) (some (((b0, s1, v2, v3, ()), (0 : Int), (8 : Int), ()))) (cond ((eqI v4.kind (1 : Int))) (cond ((leI (200 : Int) b0)) (some (((b0, s1, v2, v3, ()), (0 : Int), (8 : Int), ()))) (some ((((wr (b0 + (1 : Int))), s1, v2, v3, ()), (wr ((wr (b0 + (1 : Int))) - (1 : Int))), (0 : Int), ())))) (cond ((eqI v4.kind (6 : Int))) (cond ((leI (200 : Int) (↑v3.length : Int))) (some (((b0, s1, v2, v3, ()), (0 : Int), (8 : Int), ()))) (must (leN (((0 : Nat) + List.length v3) * (16 : Nat)) (140737488355328 : Nat)) (must (leN ((List.length v3 + List.length [Pr.mk v4.v0 v4.v1]) * (16 : Nat)) (140737488355328 : Nat)) (some (((b0, s1, v2, v3 ++ [Pr.mk v4.v0 v4.v1], ()), (0 : Int), (0 : Int), ())))))) (cond ((eqI v4.kind (7 : Int))) (cond ((leI (8 : Int) (↑s1.length : Int))) (some (((b0, s1, v2, v3, ()), (0 : Int), (8 : Int), ()))) (must (leN (((0 : Nat) + List.length s1) * (280 : Nat)) (140737488355328 : Nat)) (must (leN ((List.length s1 + List.length rr1.1) * (280 : Nat)) (140737488355328 : Nat)) (some (((b0, s1 ++ Prod.fst rr1, v2, v3, ()), (0 : Int), (0 : Int), ())))))) (must (leN (((0 : Nat) + List.length v2) * (280 : Nat)) (140737488355328 : Nat)) (must (leN ((List.length v2 + List.length rr1.1) * (280 : Nat)) (140737488355328 : Nat)) (some (((b0, s1, v2 ++ Prod.fst rr1, v3, ()), (0 : Int), (0 : Int), ())))))))))
theorem zy7 : p115 = q115 := by
  (repeat (apply funext; intro _))
  simp only [p115, q115, hide_eq, zy6, zy5, zah, zak, zal, zaj, zaB, zaD, zbj, zaQ]
def q118 (N : Nat) (b0 : Int) (v1 v2 : List Row) (v3 : List Pr) : Option (((Int × List Row × List Row × Unit) × Nat) × (Int × Int × List Row × List Pr × Unit) × Unit) :=
  must (leN (((0 : Nat) + List.length v1) * (280 : Nat)) (140737488355328 : Nat)) (must (leN ((List.length v1 + List.length v2) * (280 : Nat)) (140737488355328 : Nat)) (some ((((b0, v1, v2, ()), List.length v3), ((↑v1.length : Int), b0, v1 ++ v2, v3, ()), ()))))
theorem zy8 : p118 = q118 := by
  (repeat (apply funext; intro _))
  simp only [p118, q118, zah, zak, zal, zaj, zaB, zaD, zbj, zaQ]
def q186 (N : Nat) (l0 : Int) (n1 : List UInt8) (m2 : Int) : Option ((Int × Unit) × Int × Unit) :=
  cond ((leI (↑n1.length : Int) l0)) (some (((l0, ()), (0 : Int), ()))) (must (leI (0 : Int) ((wr ((wr (l0 + (1 : Int))) - (1 : Int)))) && ltI ((wr ((wr (l0 + (1 : Int))) - (1 : Int)))) (↑n1.length : Int)) (must (!eqI m2 (0 : Int)) (some ((((wr (l0 + (1 : Int))), ()), (Int.tmod ((↑(UInt8.toNat (List.getD n1 (Int.toNat ((wr ((wr (l0 + (1 : Int))) - (1 : Int))))) (0 : UInt8))) : Int)) m2), ())))))
theorem zt9 : p186 = q186 := by
  (repeat (apply funext; intro _))
  simp only [p186, q186, hide_eq, zah, zak, zal, zaj, zaB, zaD, zbj, zaQ]
def q187 (N : Nat) (m0 b1 : Int) (s2 : List Row) (val3 : List Pr) (v4 v5 : List Fr) (v6 : List Stp) (v7 : Int) (v8 v9 : List Row) (v10 : List Pr) (v11 : Stp) (v12 : Fr) : Option ((Int × Int × List Row × List Pr × List Fr × List Fr × List Stp × Unit) × (Int × List Row × List Row × List Pr × Unit) × Int × Unit) :=
  Option.bind (q115 N v7 v8 v9 v10 (v11)) fun rr0 => cond (!eqI (Prod.fst (rr0.2.2)) (0 : Int)) (some (((m0, b1, s2, val3, v4, v5, v6, ()), (Prod.fst rr0.1, Prod.fst (rr0.1.2), Prod.fst (Prod.snd (rr0.1.2)), Prod.fst (Prod.snd (Prod.snd (rr0.1.2))), ()), (0 : Int), ()))) (must (leN ((List.length v6 + List.length [v11]) * (192 : Nat)) (140737488355328 : Nat)) (cond ((eqI v11.kind (1 : Int))) (must (leN ((List.length v5 + List.length [v12]) * (32 : Nat)) (140737488355328 : Nat)) (some (((m0, b1, s2, val3, v4, v5 ++ [v12], v6 ++ [v11], ()), (Prod.fst rr0.1, Prod.fst (rr0.1.2), Prod.fst (Prod.snd (rr0.1.2)), Prod.fst (Prod.snd (Prod.snd (rr0.1.2))), ()), Prod.fst rr0.2, ())))) (some (((m0, b1, s2, val3, v4, v5, v6 ++ [v11], ()), (Prod.fst rr0.1, Prod.fst (rr0.1.2), Prod.fst (Prod.snd (rr0.1.2)), Prod.fst (Prod.snd (Prod.snd (rr0.1.2))), ()), Prod.fst rr0.2, ())))))
theorem zua : p187 = q187 := by
  (repeat (apply funext; intro _))
  simp only [p187, q187, hide_eq, zy7, zah, zak, zal, zaj, zaB, zaD, zbj, zaQ]
def q185 (N : Nat) (m0 b1 : Int) (val2 : List Row) (v3 : List Pr) (v4 v5 : List Fr) (v6 : List Stp) (v7 : Int) (v8 v9 : List Row) (v10 : List Pr) (v11 : Fr) : Option ((Int × Int × List Row × List Pr × List Fr × List Fr × List Stp × Unit) × (Int × List Row × List Row × List Pr × Unit) × Int × Unit) :=
  Option.bind (q187 N m0 b1 val2 v3 v4 v5 v6 v7 v8 v9 v10 (Stp.mk (1 : Int) (0 : Int) (0 : Int) (0 : Int) (Fr.zero) (Fr.zero) (Fr.zero) (Fr.zero) (Fr.zero)) (v11)) fun rr0 => some (((Prod.fst rr0.1, Prod.fst (rr0.1.2), Prod.fst (Prod.snd (rr0.1.2)), Prod.fst (Prod.snd (Prod.snd (rr0.1.2))), Prod.fst (Prod.snd (Prod.snd (Prod.snd (rr0.1.2)))), Prod.fst (Prod.snd (Prod.snd (Prod.snd (Prod.snd (rr0.1.2))))), Prod.fst (Prod.snd (Prod.snd (Prod.snd (Prod.snd (Prod.snd (rr0.1.2)))))), ()), (Prod.fst (rr0.2.1), Prod.fst (Prod.snd (rr0.2.1)), Prod.fst (Prod.snd (Prod.snd (rr0.2.1))), Prod.fst (Prod.snd (Prod.snd (Prod.snd (rr0.2.1)))), ()), Prod.fst (rr0.2.2), ()))
theorem zub : p185 = q185 := by
  (repeat (apply funext; intro _))
  simp only [p185, q185, zua, zah, zak, zal, zaj, zaB, zaD, zbj, zaQ]
def zjQ (N : Nat) (A_8 : (List UInt8) -> Int -> Int -> Int -> Int -> Int -> Int -> Int -> Int -> Fr -> (List Row) -> (List Pr) -> (List Fr) -> (List Fr) -> (List Stp) -> (List Row) -> (List Pr) -> (List Fr) -> (List Fr) -> (List Stp) -> (List Row) -> (List Row) -> (List Pr) -> Option ((Int × Int × List Row × List Pr × List Fr × List Fr × List Stp × Unit) × Unit)) (l0 : List UInt8) (most1 g9 ob0_0 ob0_1 ob1_0 ob1_1 ob2_0 ob3_0 : Int) (ob4 : Fr) (ob5 : List Row) (ob6 : List Pr) (ob7 ob8 : List Fr) (ob9 : List Stp) (ob10 : List Row) (ob11 : List Pr) (ob12 ob13 : List Fr) (ob14 : List Stp) (ob15 ob16 : List Row) (ob17 : List Pr) : Option ((Int × Int × List Row × List Pr × List Fr × List Fr × List Stp × Unit) × Unit) :=
  cond ((ltI g9 most1)) (cond ((ltI ob2_0 (↑l0.length : Int))) (Option.bind (q186 N ob2_0 l0 ((↑ob13.length : Int))) fun rr2 => Option.bind (q186 N (rr2.1.1) l0 ((↑ob13.length : Int))) fun rr3 => must (leI (0 : Int) (rr2.2.1) && ltI (rr2.2.1) (↑ob13.length : Int)) (must (leI (0 : Int) (rr3.2.1) && ltI (rr3.2.1) (↑ob13.length : Int)) (Option.bind (q186 N (rr3.1.1) l0 (7 : Int)) fun rr4 => cond ((eqI (rr4.2.1) (0 : Int))) (Option.bind (q186 N (rr4.1.1) l0 (9 : Int)) fun rr20 => Option.bind (q173 N ((u64I (rr20.2.1)))) fun rr21 => Option.bind (q94 N (Fr.mk (Fr.a0 (List.getD ob13 (Int.toNat (rr2.2.1)) (Fr.zero))) (Fr.a1 (List.getD ob13 (Int.toNat (rr2.2.1)) (Fr.zero))) (Fr.a2 (List.getD ob13 (Int.toNat (rr2.2.1)) (Fr.zero))) (Fr.a3 (List.getD ob13 (Int.toNat (rr2.2.1)) (Fr.zero)))) (Fr.mk (Fr.a0 (List.getD ob13 (Int.toNat (rr3.2.1)) (Fr.zero))) (Fr.a1 (List.getD ob13 (Int.toNat (rr3.2.1)) (Fr.zero))) (Fr.a2 (List.getD ob13 (Int.toNat (rr3.2.1)) (Fr.zero))) (Fr.a3 (List.getD ob13 (Int.toNat (rr3.2.1)) (Fr.zero))))) fun rr22 => Option.bind (q94 N (rr21.1) (Fr.mk (Fr.a0 (List.getD ob13 (Int.toNat (rr2.2.1)) (Fr.zero))) (Fr.a1 (List.getD ob13 (Int.toNat (rr2.2.1)) (Fr.zero))) (Fr.a2 (List.getD ob13 (Int.toNat (rr2.2.1)) (Fr.zero))) (Fr.a3 (List.getD ob13 (Int.toNat (rr2.2.1)) (Fr.zero))))) fun rr23 => Option.bind (q81 N (rr22.1) (rr23.1)) fun rr24 => Option.bind (q173 N (5 : UInt64)) fun rr25 => Option.bind (q81 N (rr24.1) (rr25.1)) fun rr26 => Option.bind (q185 N ob1_0 ob1_1 ob10 ob11 ob12 ob13 ob14 ob3_0 ob15 ob16 ob17 (rr26.1)) fun rr27 => Option.bind (q85 N (ob4)) fun rr28 => Option.bind (q173 N (5 : UInt64)) fun rr29 => Option.bind (q187 N (rr27.1.1) (Prod.fst (rr27.1.2)) (Prod.fst (Prod.snd (rr27.1.2))) (Prod.fst (Prod.snd (Prod.snd (rr27.1.2)))) (Prod.fst (Prod.snd (Prod.snd (Prod.snd (rr27.1.2))))) (Prod.fst (Prod.snd (Prod.snd (Prod.snd (Prod.snd (rr27.1.2)))))) (Prod.fst (Prod.snd (Prod.snd (Prod.snd (Prod.snd (Prod.snd (rr27.1.2))))))) (Prod.fst (rr27.2.1)) (Prod.fst (Prod.snd (rr27.2.1))) (Prod.fst (Prod.snd (Prod.snd (rr27.2.1)))) (Prod.fst (Prod.snd (Prod.snd (Prod.snd (rr27.2.1))))) (Stp.mk (2 : Int) (rr2.2.1) (rr3.2.1) (Prod.fst (rr27.2.2)) (ob4) (rr21.1) (Fr.zero) (rr28.1) (rr29.1)) (ob4)) fun rr30 => A_8 l0 most1 ((wr (g9 + (1 : Int)))) ob0_0 ob0_1 (rr30.1.1) (Prod.fst (rr30.1.2)) (rr20.1.1) (Prod.fst (rr30.2.1)) (ob4) ob5 ob6 ob7 ob8 ob9 (Prod.fst (Prod.snd (rr30.1.2))) (Prod.fst (Prod.snd (Prod.snd (rr30.1.2)))) (Prod.fst (Prod.snd (Prod.snd (Prod.snd (rr30.1.2))))) (Prod.fst (Prod.snd (Prod.snd (Prod.snd (Prod.snd (rr30.1.2)))))) (Prod.fst (Prod.snd (Prod.snd (Prod.snd (Prod.snd (Prod.snd (rr30.1.2))))))) (Prod.fst (Prod.snd (rr30.2.1))) (Prod.fst (Prod.snd (Prod.snd (rr30.2.1)))) (Prod.fst (Prod.snd (Prod.snd (Prod.snd (rr30.2.1)))))) (cond ((eqI (rr4.2.1) (1 : Int))) (Option.bind (q186 N (rr4.1.1) l0 (2 : Int)) fun rr16 => Option.bind (q173 N ((u64I (rr16.2.1)))) fun rr17 => Option.bind (q185 N ob1_0 ob1_1 ob10 ob11 ob12 ob13 ob14 ob3_0 ob15 ob16 ob17 (rr17.1)) fun rr18 => Option.bind (q187 N (rr18.1.1) (Prod.fst (rr18.1.2)) (Prod.fst (Prod.snd (rr18.1.2))) (Prod.fst (Prod.snd (Prod.snd (rr18.1.2)))) (Prod.fst (Prod.snd (Prod.snd (Prod.snd (rr18.1.2))))) (Prod.fst (Prod.snd (Prod.snd (Prod.snd (Prod.snd (rr18.1.2)))))) (Prod.fst (Prod.snd (Prod.snd (Prod.snd (Prod.snd (Prod.snd (rr18.1.2))))))) (Prod.fst (rr18.2.1)) (Prod.fst (Prod.snd (rr18.2.1))) (Prod.fst (Prod.snd (Prod.snd (rr18.2.1)))) (Prod.fst (Prod.snd (Prod.snd (Prod.snd (rr18.2.1))))) (Stp.mk (3 : Int) (Prod.fst (rr18.2.2)) (0 : Int) (0 : Int) (Fr.zero) (Fr.zero) (Fr.zero) (Fr.zero) (Fr.zero)) (ob4)) fun rr19 => A_8 l0 most1 ((wr (g9 + (1 : Int)))) ob0_0 ob0_1 (rr19.1.1) (Prod.fst (rr19.1.2)) (rr16.1.1) (Prod.fst (rr19.2.1)) (ob4) ob5 ob6 ob7 ob8 ob9 (Prod.fst (Prod.snd (rr19.1.2))) (Prod.fst (Prod.snd (Prod.snd (rr19.1.2)))) (Prod.fst (Prod.snd (Prod.snd (Prod.snd (rr19.1.2))))) (Prod.fst (Prod.snd (Prod.snd (Prod.snd (Prod.snd (rr19.1.2)))))) (Prod.fst (Prod.snd (Prod.snd (Prod.snd (Prod.snd (Prod.snd (rr19.1.2))))))) (Prod.fst (Prod.snd (rr19.2.1))) (Prod.fst (Prod.snd (Prod.snd (rr19.2.1)))) (Prod.fst (Prod.snd (Prod.snd (Prod.snd (rr19.2.1)))))) (cond ((eqI (rr4.2.1) (2 : Int))) (Option.bind (q73 N (Fr.mk (Fr.a0 (List.getD ob13 (Int.toNat (rr2.2.1)) (Fr.zero))) (Fr.a1 (List.getD ob13 (Int.toNat (rr2.2.1)) (Fr.zero))) (Fr.a2 (List.getD ob13 (Int.toNat (rr2.2.1)) (Fr.zero))) (Fr.a3 (List.getD ob13 (Int.toNat (rr2.2.1)) (Fr.zero)))) ([(5 : UInt64)])) fun rr13 => Option.bind (q185 N ob1_0 ob1_1 ob10 ob11 ob12 ob13 ob14 ob3_0 ob15 ob16 ob17 (rr13.1)) fun rr14 => Option.bind (q187 N (rr14.1.1) (Prod.fst (rr14.1.2)) (Prod.fst (Prod.snd (rr14.1.2))) (Prod.fst (Prod.snd (Prod.snd (rr14.1.2)))) (Prod.fst (Prod.snd (Prod.snd (Prod.snd (rr14.1.2))))) (Prod.fst (Prod.snd (Prod.snd (Prod.snd (Prod.snd (rr14.1.2)))))) (Prod.fst (Prod.snd (Prod.snd (Prod.snd (Prod.snd (Prod.snd (rr14.1.2))))))) (Prod.fst (rr14.2.1)) (Prod.fst (Prod.snd (rr14.2.1))) (Prod.fst (Prod.snd (Prod.snd (rr14.2.1)))) (Prod.fst (Prod.snd (Prod.snd (Prod.snd (rr14.2.1))))) (Stp.mk (4 : Int) (rr2.2.1) (0 : Int) (Prod.fst (rr14.2.2)) (Fr.zero) (Fr.zero) (Fr.zero) (Fr.zero) (Fr.zero)) (ob4)) fun rr15 => A_8 l0 most1 ((wr (g9 + (1 : Int)))) ob0_0 ob0_1 (rr15.1.1) (Prod.fst (rr15.1.2)) (rr4.1.1) (Prod.fst (rr15.2.1)) (ob4) ob5 ob6 ob7 ob8 ob9 (Prod.fst (Prod.snd (rr15.1.2))) (Prod.fst (Prod.snd (Prod.snd (rr15.1.2)))) (Prod.fst (Prod.snd (Prod.snd (Prod.snd (rr15.1.2))))) (Prod.fst (Prod.snd (Prod.snd (Prod.snd (Prod.snd (rr15.1.2)))))) (Prod.fst (Prod.snd (Prod.snd (Prod.snd (Prod.snd (Prod.snd (rr15.1.2))))))) (Prod.fst (Prod.snd (rr15.2.1))) (Prod.fst (Prod.snd (Prod.snd (rr15.2.1)))) (Prod.fst (Prod.snd (Prod.snd (Prod.snd (rr15.2.1)))))) (cond ((eqI (rr4.2.1) (3 : Int))) (Option.bind (q81 N (Fr.mk (Fr.a0 (List.getD ob13 (Int.toNat (rr2.2.1)) (Fr.zero))) (Fr.a1 (List.getD ob13 (Int.toNat (rr2.2.1)) (Fr.zero))) (Fr.a2 (List.getD ob13 (Int.toNat (rr2.2.1)) (Fr.zero))) (Fr.a3 (List.getD ob13 (Int.toNat (rr2.2.1)) (Fr.zero)))) (Fr.mk (Fr.a0 (List.getD ob13 (Int.toNat (rr3.2.1)) (Fr.zero))) (Fr.a1 (List.getD ob13 (Int.toNat (rr3.2.1)) (Fr.zero))) (Fr.a2 (List.getD ob13 (Int.toNat (rr3.2.1)) (Fr.zero))) (Fr.a3 (List.getD ob13 (Int.toNat (rr3.2.1)) (Fr.zero))))) fun rr10 => Option.bind (q185 N ob1_0 ob1_1 ob10 ob11 ob12 ob13 ob14 ob3_0 ob15 ob16 ob17 (rr10.1)) fun rr11 => Option.bind (q187 N (rr11.1.1) (Prod.fst (rr11.1.2)) (Prod.fst (Prod.snd (rr11.1.2))) (Prod.fst (Prod.snd (Prod.snd (rr11.1.2)))) (Prod.fst (Prod.snd (Prod.snd (Prod.snd (rr11.1.2))))) (Prod.fst (Prod.snd (Prod.snd (Prod.snd (Prod.snd (rr11.1.2)))))) (Prod.fst (Prod.snd (Prod.snd (Prod.snd (Prod.snd (Prod.snd (rr11.1.2))))))) (Prod.fst (rr11.2.1)) (Prod.fst (Prod.snd (rr11.2.1))) (Prod.fst (Prod.snd (Prod.snd (rr11.2.1)))) (Prod.fst (Prod.snd (Prod.snd (Prod.snd (rr11.2.1))))) (Stp.mk (5 : Int) (rr2.2.1) (rr3.2.1) (Prod.fst (rr11.2.2)) (Fr.zero) (Fr.zero) (Fr.zero) (Fr.zero) (Fr.zero)) (ob4)) fun rr12 => A_8 l0 most1 ((wr (g9 + (1 : Int)))) ob0_0 ob0_1 (rr12.1.1) (Prod.fst (rr12.1.2)) (rr4.1.1) (Prod.fst (rr12.2.1)) (ob4) ob5 ob6 ob7 ob8 ob9 (Prod.fst (Prod.snd (rr12.1.2))) (Prod.fst (Prod.snd (Prod.snd (rr12.1.2)))) (Prod.fst (Prod.snd (Prod.snd (Prod.snd (rr12.1.2))))) (Prod.fst (Prod.snd (Prod.snd (Prod.snd (Prod.snd (rr12.1.2)))))) (Prod.fst (Prod.snd (Prod.snd (Prod.snd (Prod.snd (Prod.snd (rr12.1.2))))))) (Prod.fst (Prod.snd (rr12.2.1))) (Prod.fst (Prod.snd (Prod.snd (rr12.2.1)))) (Prod.fst (Prod.snd (Prod.snd (Prod.snd (rr12.2.1)))))) (cond ((eqI (rr4.2.1) (4 : Int))) (Option.bind (q185 N ob1_0 ob1_1 ob10 ob11 ob12 ob13 ob14 ob3_0 ob15 ob16 ob17 (Fr.mk (Fr.a0 (List.getD ob13 (Int.toNat (rr2.2.1)) (Fr.zero))) (Fr.a1 (List.getD ob13 (Int.toNat (rr2.2.1)) (Fr.zero))) (Fr.a2 (List.getD ob13 (Int.toNat (rr2.2.1)) (Fr.zero))) (Fr.a3 (List.getD ob13 (Int.toNat (rr2.2.1)) (Fr.zero))))) fun rr8 => Option.bind (q187 N (rr8.1.1) (Prod.fst (rr8.1.2)) (Prod.fst (Prod.snd (rr8.1.2))) (Prod.fst (Prod.snd (Prod.snd (rr8.1.2)))) (Prod.fst (Prod.snd (Prod.snd (Prod.snd (rr8.1.2))))) (Prod.fst (Prod.snd (Prod.snd (Prod.snd (Prod.snd (rr8.1.2)))))) (Prod.fst (Prod.snd (Prod.snd (Prod.snd (Prod.snd (Prod.snd (rr8.1.2))))))) (Prod.fst (rr8.2.1)) (Prod.fst (Prod.snd (rr8.2.1))) (Prod.fst (Prod.snd (Prod.snd (rr8.2.1)))) (Prod.fst (Prod.snd (Prod.snd (Prod.snd (rr8.2.1))))) (Stp.mk (6 : Int) (Prod.fst (rr8.2.2)) (rr2.2.1) (0 : Int) (Fr.zero) (Fr.zero) (Fr.zero) (Fr.zero) (Fr.zero)) (ob4)) fun rr9 => A_8 l0 most1 ((wr (g9 + (1 : Int)))) ob0_0 ob0_1 (rr9.1.1) (Prod.fst (rr9.1.2)) (rr4.1.1) (Prod.fst (rr9.2.1)) (ob4) ob5 ob6 ob7 ob8 ob9 (Prod.fst (Prod.snd (rr9.1.2))) (Prod.fst (Prod.snd (Prod.snd (rr9.1.2)))) (Prod.fst (Prod.snd (Prod.snd (Prod.snd (rr9.1.2))))) (Prod.fst (Prod.snd (Prod.snd (Prod.snd (Prod.snd (rr9.1.2)))))) (Prod.fst (Prod.snd (Prod.snd (Prod.snd (Prod.snd (Prod.snd (rr9.1.2))))))) (Prod.fst (Prod.snd (rr9.2.1))) (Prod.fst (Prod.snd (Prod.snd (rr9.2.1)))) (Prod.fst (Prod.snd (Prod.snd (Prod.snd (rr9.2.1)))))) (cond ((eqI (rr4.2.1) (5 : Int))) (cond ((ltI (↑ob12.length : Int) (3 : Int))) (Option.bind (q187 N ob1_0 ob1_1 ob10 ob11 ob12 ob13 ob14 ob3_0 ob15 ob16 ob17 (Stp.mk (7 : Int) (rr2.2.1) (0 : Int) (0 : Int) (Fr.zero) (Fr.zero) (Fr.zero) (Fr.zero) (Fr.zero)) (ob4)) fun rr7 => must (leN ((List.length (Prod.fst (Prod.snd (Prod.snd (Prod.snd (rr7.1.2))))) + List.length [Fr.mk (Fr.a0 (List.getD ob13 (Int.toNat (rr2.2.1)) (Fr.zero))) (Fr.a1 (List.getD ob13 (Int.toNat (rr2.2.1)) (Fr.zero))) (Fr.a2 (List.getD ob13 (Int.toNat (rr2.2.1)) (Fr.zero))) (Fr.a3 (List.getD ob13 (Int.toNat (rr2.2.1)) (Fr.zero)))]) * (32 : Nat)) (140737488355328 : Nat)) (A_8 l0 most1 ((wr (g9 + (1 : Int)))) ob0_0 ob0_1 (rr7.1.1) (Prod.fst (rr7.1.2)) (rr4.1.1) (Prod.fst (rr7.2.1)) (ob4) ob5 ob6 ob7 ob8 ob9 (Prod.fst (Prod.snd (rr7.1.2))) (Prod.fst (Prod.snd (Prod.snd (rr7.1.2)))) (Prod.fst (Prod.snd (Prod.snd (Prod.snd (rr7.1.2)))) ++ [Fr.mk (Fr.a0 (List.getD ob13 (Int.toNat (rr2.2.1)) (Fr.zero))) (Fr.a1 (List.getD ob13 (Int.toNat (rr2.2.1)) (Fr.zero))) (Fr.a2 (List.getD ob13 (Int.toNat (rr2.2.1)) (Fr.zero))) (Fr.a3 (List.getD ob13 (Int.toNat (rr2.2.1)) (Fr.zero)))]) (Prod.fst (Prod.snd (Prod.snd (Prod.snd (Prod.snd (rr7.1.2)))))) (Prod.fst (Prod.snd (Prod.snd (Prod.snd (Prod.snd (Prod.snd (rr7.1.2))))))) (Prod.fst (Prod.snd (rr7.2.1))) (Prod.fst (Prod.snd (Prod.snd (rr7.2.1)))) (Prod.fst (Prod.snd (Prod.snd (Prod.snd (rr7.2.1))))))) (A_8 l0 most1 ((wr (g9 + (1 : Int)))) ob0_0 ob0_1 ob1_0 ob1_1 (rr4.1.1) ob3_0 (ob4) ob5 ob6 ob7 ob8 ob9 ob10 ob11 ob12 ob13 ob14 ob15 ob16 ob17)) (Option.bind (q85 N (ob4)) fun rr5 => Option.bind (q187 N ob1_0 ob1_1 ob10 ob11 ob12 ob13 ob14 ob3_0 ob15 ob16 ob17 (Stp.mk (2 : Int) (rr2.2.1) (-5 : Int) (rr2.2.1) (Fr.zero) (ob4) (Fr.zero) (rr5.1) (Fr.zero)) (ob4)) fun rr6 => A_8 l0 most1 ((wr (g9 + (1 : Int)))) ob0_0 ob0_1 (rr6.1.1) (Prod.fst (rr6.1.2)) (rr4.1.1) (Prod.fst (rr6.2.1)) (ob4) ob5 ob6 ob7 ob8 ob9 (Prod.fst (Prod.snd (rr6.1.2))) (Prod.fst (Prod.snd (Prod.snd (rr6.1.2)))) (Prod.fst (Prod.snd (Prod.snd (Prod.snd (rr6.1.2))))) (Prod.fst (Prod.snd (Prod.snd (Prod.snd (Prod.snd (rr6.1.2)))))) (Prod.fst (Prod.snd (Prod.snd (Prod.snd (Prod.snd (Prod.snd (rr6.1.2))))))) (Prod.fst (Prod.snd (rr6.2.1))) (Prod.fst (Prod.snd (Prod.snd (rr6.2.1)))) (Prod.fst (Prod.snd (Prod.snd (Prod.snd (rr6.2.1)))))))))))))) (Option.bind (q118 N ob3_0 ob15 ob16 ob17) fun rr1 => some (((Prod.fst (rr1.2.1), Prod.fst (Prod.snd (rr1.2.1)), Prod.fst (Prod.snd (Prod.snd (rr1.2.1))), Prod.fst (Prod.snd (Prod.snd (Prod.snd (rr1.2.1)))), ob12, ob13, ob14, ()), ())))) (Option.bind (q118 N ob3_0 ob15 ob16 ob17) fun rr0 => some (((Prod.fst (rr0.2.1), Prod.fst (Prod.snd (rr0.2.1)), Prod.fst (Prod.snd (Prod.snd (rr0.2.1))), Prod.fst (Prod.snd (Prod.snd (Prod.snd (rr0.2.1)))), ob12, ob13, ob14, ()), ())))
theorem zv6 : zvA = zjQ := by
  (repeat (apply funext; intro _))
  simp only [zvA, zjQ, hide_eq, zy8, zmx, zub, zt9, zua, zAU, zAV, zAX, zyz, zah, zak, zal, zaj, zaB, zaD, zbj, zaQ]
def zlH (N n : Nat) (l0 : List UInt8) (most1 g9 ob0_0 ob0_1 ob1_0 ob1_1 ob2_0 ob3_0 : Int) (ob4 : Fr) (ob5 : List Row) (ob6 : List Pr) (ob7 ob8 : List Fr) (ob9 : List Stp) (ob10 : List Row) (ob11 : List Pr) (ob12 ob13 : List Fr) (ob14 : List Stp) (ob15 ob16 : List Row) (ob17 : List Pr) : Option ((Int × Int × List Row × List Pr × List Fr × List Fr × List Stp × Unit) × Unit) :=
  zao (fun A x => zjQ N (fun l0 most1 g9 ob0_0 ob0_1 ob1_0 ob1_1 ob2_0 ob3_0 ob4 ob5 ob6 ob7 ob8 ob9 ob10 ob11 ob12 ob13 ob14 ob15 ob16 ob17 => A ((l0, (most1, ((), ((), ((), ((), ((), (g9, ())))))))), ((ob0_0, (ob0_1, ((), ((), ((), ((), ((), ()))))))), ((ob1_0, (ob1_1, ((), ((), ((), ((), ((), ()))))))), ((ob2_0, ()), ((ob3_0, ((), ((), ((), ())))), (ob4, (ob5, (ob6, (ob7, (ob8, (ob9, (ob10, (ob11, (ob12, (ob13, (ob14, (ob15, (ob16, (ob17, ())))))))))))))))))))) x.1.1 x.1.2.1 x.1.2.2.2.2.2.2.2.1 x.2.1.1 x.2.1.2.1 x.2.2.1.1 x.2.2.1.2.1 x.2.2.2.1.1 x.2.2.2.2.1.1 x.2.2.2.2.2.1 x.2.2.2.2.2.2.1 x.2.2.2.2.2.2.2.1 x.2.2.2.2.2.2.2.2.1 x.2.2.2.2.2.2.2.2.2.1 x.2.2.2.2.2.2.2.2.2.2.1 x.2.2.2.2.2.2.2.2.2.2.2.1 x.2.2.2.2.2.2.2.2.2.2.2.2.1 x.2.2.2.2.2.2.2.2.2.2.2.2.2.1 x.2.2.2.2.2.2.2.2.2.2.2.2.2.2.1 x.2.2.2.2.2.2.2.2.2.2.2.2.2.2.2.1 x.2.2.2.2.2.2.2.2.2.2.2.2.2.2.2.2.1 x.2.2.2.2.2.2.2.2.2.2.2.2.2.2.2.2.2.1 x.2.2.2.2.2.2.2.2.2.2.2.2.2.2.2.2.2.2.1) n ((l0, (most1, ((), ((), ((), ((), ((), (g9, ())))))))), ((ob0_0, (ob0_1, ((), ((), ((), ((), ((), ()))))))), ((ob1_0, (ob1_1, ((), ((), ((), ((), ((), ()))))))), ((ob2_0, ()), ((ob3_0, ((), ((), ((), ())))), (ob4, (ob5, (ob6, (ob7, (ob8, (ob9, (ob10, (ob11, (ob12, (ob13, (ob14, (ob15, (ob16, (ob17, ())))))))))))))))))))
theorem zv7 : zvB = zlH := by
  (repeat (apply funext; intro _))
  simp only [zvB, zlH, zv6, zah, zak, zal, zaj, zaB, zaD, zbj, zaQ]
theorem zh5 (N n : Nat) (l0 : List UInt8) (most1 g9 ob0_0 ob0_1 ob1_0 ob1_1 ob2_0 ob3_0 : Int) (ob4 : Fr) (ob5 : List Row) (ob6 : List Pr) (ob7 ob8 : List Fr) (ob9 : List Stp) (ob10 : List Row) (ob11 : List Pr) (ob12 ob13 : List Fr) (ob14 : List Stp) (ob15 ob16 : List Row) (ob17 : List Pr) : zlH N (n + 1) l0 most1 g9 ob0_0 ob0_1 ob1_0 ob1_1 ob2_0 ob3_0 ob4 ob5 ob6 ob7 ob8 ob9 ob10 ob11 ob12 ob13 ob14 ob15 ob16 ob17 = zjQ N (zlH N n) l0 most1 g9 ob0_0 ob0_1 ob1_0 ob1_1 ob2_0 ob3_0 ob4 ob5 ob6 ob7 ob8 ob9 ob10 ob11 ob12 ob13 ob14 ob15 ob16 ob17 := rfl
def q95 (N : Nat) (l0 : List UInt8) (most1 : Int) : Option ((Int × Int × List Row × List Pr × List Fr × List Fr × List Stp × Unit) × Unit) :=
  Option.bind (q173 N (1 : UInt64)) fun rr0 => Option.bind (q186 N (0 : Int) l0 (200 : Int)) fun rr1 => Option.bind (q173 N ((u64I (rr1.2.1)))) fun rr2 => Option.bind (q185 N (0 : Int) (0 : Int) [] [] [] [] [] (0 : Int) [] [] [] (rr2.1)) fun rr3 => Option.bind (q186 N (rr1.1.1) l0 (2 : Int)) fun rr4 => Option.bind (q173 N ((u64I (rr4.2.1)))) fun rr5 => Option.bind (q185 N (rr3.1.1) (Prod.fst (rr3.1.2)) (Prod.fst (Prod.snd (rr3.1.2))) (Prod.fst (Prod.snd (Prod.snd (rr3.1.2)))) (Prod.fst (Prod.snd (Prod.snd (Prod.snd (rr3.1.2))))) (Prod.fst (Prod.snd (Prod.snd (Prod.snd (Prod.snd (rr3.1.2)))))) (Prod.fst (Prod.snd (Prod.snd (Prod.snd (Prod.snd (Prod.snd (rr3.1.2))))))) (Prod.fst (rr3.2.1)) (Prod.fst (Prod.snd (rr3.2.1))) (Prod.fst (Prod.snd (Prod.snd (rr3.2.1)))) (Prod.fst (Prod.snd (Prod.snd (Prod.snd (rr3.2.1))))) (rr5.1)) fun rr6 => zlH N N l0 most1 (0 : Int) (0 : Int) (0 : Int) (rr6.1.1) (Prod.fst (rr6.1.2)) (rr4.1.1) (Prod.fst (rr6.2.1)) (rr0.1) [] [] [] [] [] (Prod.fst (Prod.snd (rr6.1.2))) (Prod.fst (Prod.snd (Prod.snd (rr6.1.2)))) (Prod.fst (Prod.snd (Prod.snd (Prod.snd (rr6.1.2))))) (Prod.fst (Prod.snd (Prod.snd (Prod.snd (Prod.snd (rr6.1.2)))))) (Prod.fst (Prod.snd (Prod.snd (Prod.snd (Prod.snd (Prod.snd (rr6.1.2))))))) (Prod.fst (Prod.snd (rr6.2.1))) (Prod.fst (Prod.snd (Prod.snd (rr6.2.1)))) (Prod.fst (Prod.snd (Prod.snd (Prod.snd (rr6.2.1)))))
theorem zA4 : p95 = q95 := by
  (repeat (apply funext; intro _))
  simp only [p95, q95, hide_eq, zv7, zmx, zub, zt9, zah, zak, zal, zaj, zaB, zaD, zbj, zaQ]
def zgU (N : Nat) (A_2 : Int -> Int -> Int -> (List Row) -> (List Pr) -> Option (Int × Unit)) (k3 ob0_0 ob0_1 : Int) (ob0_2 : List Row) (ob0_3 : List Pr) : Option (Int × Unit) :=
  cond ((ltI k3 (6 : Int))) (must (leI (0 : Int) k3) (must (ltI k3 (18446744073709551616 : Int)) (cond ((ltI ((shlI (1 : Int) (UInt64.toNat (UInt64.ofNat k3.toNat)))) (↑ob0_2.length : Int))) (A_2 ((wr (k3 + (1 : Int)))) ob0_0 ob0_1 ob0_2 ob0_3) (some ((k3, ())))))) (some ((k3, ())))
theorem zte : zqe = zgU := by
  (repeat (apply funext; intro _))
  simp only [zqe, zgU, hide_eq, zah, zak, zal, zaj, zaB, zaD, zbj, zaQ]
def zh6 (N n : Nat) (k3 ob0_0 ob0_1 : Int) (ob0_2 : List Row) (ob0_3 : List Pr) : Option (Int × Unit) :=
  zao (fun A x => zgU N (fun k3 ob0_0 ob0_1 ob0_2 ob0_3 => A (((), (k3, ())), ((ob0_0, (ob0_1, (ob0_2, (ob0_3, ())))), ()))) x.1.2.1 x.2.1.1 x.2.1.2.1 x.2.1.2.2.1 x.2.1.2.2.2.1) n (((), (k3, ())), ((ob0_0, (ob0_1, (ob0_2, (ob0_3, ())))), ()))
theorem ztf : zqf = zh6 := by
  (repeat (apply funext; intro _))
  simp only [zqf, zh6, zte, zah, zak, zal, zaj, zaB, zaD, zbj, zaQ]
theorem zd2 (N n : Nat) (k3 ob0_0 ob0_1 : Int) (ob0_2 : List Row) (ob0_3 : List Pr) : zh6 N (n + 1) k3 ob0_0 ob0_1 ob0_2 ob0_3 = zgU N (zh6 N n) k3 ob0_0 ob0_1 ob0_2 ob0_3 := rfl
def q121 (N : Nat) (c0 v1 : Int) (v2 : List Row) (v3 : List Pr) : Option (Int × Unit) :=
  zh6 N N (1 : Int) c0 v1 v2 v3
theorem zy9 : p121 = q121 := by
  (repeat (apply funext; intro _))
  simp only [p121, q121, ztf, zah, zak, zal, zaj, zaB, zaD, zbj, zaQ]
end
section
def zdn (w : Int) : Row := Row.mk Fr.zero ⟨1, 0, 0, 0⟩ Fr.zero Fr.zero Fr.zero Fr.zero Fr.zero Fr.zero w (-1) (-1)
theorem ztg (N : Nat) (w : Int) : q108 N (Stp.mk 7 w 0 0 Fr.zero Fr.zero Fr.zero Fr.zero Fr.zero) = some ([zdn w], 0, ()) := by kernel_rfl
def rw3 (r : Row) : Nat -> Int
  | 0 => r.w0 | 1 => r.w1 | _ => r.w2
def bg (x : Fr) : Bool := !decide (fv x < RR)
def bigR (r : Row) : Bool := bg r.q0 || bg r.q1 || bg r.q2 || bg r.q3 || bg r.q4 || bg r.q5 || bg r.q6 || bg r.q7
def unkR (V : Int) (r : Row) : Bool := leI V r.w0 || leI V r.w1 || leI V r.w2
def unkP (V : Int) (p : Pr) : Bool := ltI p.x 0 || leI V p.x || (ltI p.y 0 || leI V p.y)
def lowR (r : Row) : Bool := ltI r.w0 (-1) || ltI r.w1 (-1) || ltI r.w2 (-1)
def zft (r : Row) : Bool := ltI r.w0 0 || !zbj r (zdn r.w0)
def zfz (P : Int) : Nat -> List Row -> Bool
  | _, [] => false
  | i, r :: l => (lowR r || (ltI (i : Int) P && zft r)) || zfz P (i + 1) l
def mayF (c0 v1 : Int) (v2 : List Row) (v3 : List Pr) : Int :=
  cond (ltI 8 c0 || ltI 200 v1 || ltI 64 (v2.length : Int) || ltI 200 (v3.length : Int)) 8
    (cond (ltI c0 0 || ltI v1 0 || ltI (v2.length : Int) c0) 1
      (cond (v2.any bigR) 4 (cond (v2.any (unkR v1) || v3.any (unkP v1)) 10 (cond (zfz c0 0 v2) 3 0))))
section ref
variable {N : Nat} (hN : 2000 <= N) (c0 v1 : Int) (v2 : List Row) (v3 : List Pr)
include hN
end ref
end
section
theorem zlI {α : Type} (a b : Bool) (x y : α) : cond a x (cond b x y) = cond (a || b) x y := by cases a <;> rfl
theorem zv8 (x y z : Int) : ltI (mnI x y) z = (ltI x z || ltI y z) := by
  have e : ∀ a b : Int, ltI a b = decide (a < b) := fun _ _ => rfl
  unfold mnI
  by_cases h : y < x
  . rw [zaa h, cond_true]
    by_cases h2 : y < z
    . rw [zaa h2, Bool.or_true]
    . rw [zab h2, zab (show ¬ x < z by omega)]; rfl
  . rw [zab h, cond_false]
    by_cases h2 : x < z
    . rw [zaa h2, Bool.true_or]
    . rw [zab h2, zab (show ¬ y < z by omega)]; rfl
theorem zA5 (x y z : Int) : leI z (mxI x y) = (leI z x || leI z y) := by
  by_cases h : x < y
  . rw [show mxI x y = y by unfold mxI; first | rw [zaa h, cond_true] | (simp [ltI, leI]; omega)]
    by_cases h2 : z <= y
    . rw [zay h2, Bool.or_true]
    . rw [zan h2, zan (show ¬ z <= x by omega)]; rfl
  . rw [show mxI x y = x by unfold mxI; first | rw [zab h, cond_false] | (simp [ltI, leI]; omega)]
    by_cases h2 : z <= x
    . rw [zay h2, Bool.true_or]
    . rw [zan h2, zan (show ¬ z <= y by omega)]; rfl
theorem zA6 (x y : Int) : leI x y = !ltI y x := by
  by_cases h : y < x
  . rw [zaa h, zan (by omega)]; rfl
  . rw [zab h, zay (by omega)]; rfl
theorem zrb {l : List Row} {r : Row} {m : List Row} {i : Nat} (hd : m.drop i = r :: l) (hi : i < m.length) : m.getD i zrow = r /\ m.drop (i + 1) = l := by
  rw [List.drop_eq_getElem_cons hi] at hd
  refine ⟨?_, (List.cons.inj hd).2⟩
  rw [List.getD_eq_getElem?_getD, List.getElem?_eq_getElem hi]
  exact (List.cons.inj hd).1
theorem zA7 {l : List Pr} {r : Pr} {m : List Pr} {i : Nat} (hd : m.drop i = r :: l) (hi : i < m.length) : m.getD i ⟨0, 0⟩ = r /\ m.drop (i + 1) = l := by
  rw [List.drop_eq_getElem_cons hi] at hd
  refine ⟨?_, (List.cons.inj hd).2⟩
  rw [List.getD_eq_getElem?_getD, List.getElem?_eq_getElem hi]
  exact (List.cons.inj hd).1
section prog
variable {N : Nat} (hN : 2000 <= N) (c0 v1 : Int) (v2 : List Row) (v3 : List Pr)
include hN
theorem zbw (A : (List Row) -> Int -> Int -> Option (Bool × Unit)) (n : Nat) (t8 : List Row) (t9 t10 : Int) (q : List Fr) (hq : q.length = 8) (k : Nat) (hk : k < 8) :
    zez N A (n + 1) t8 t9 t10 q (k : Int) = cond (bg (q.getD k Fr.zero)) (some (false, ())) (zez N A n t8 t9 t10 q ((k + 1 : Nat) : Int)) := by
  rw [zgJ]
  unfold zhS
  rw [zaa (by omega : (k : Int) < 8), cond_true, zae, zaa (by omega : (k : Int) < ((8 : Nat) : Int)), hq, zaa (by omega : (k : Int) < ((8 : Nat) : Int)), zap (by omega), Int.toNat_natCast, zyL (show 10 < N by omega)]
  simp only [bsm, Bool.and_self, mst2]
  rfl
theorem zrc (A : (List Row) -> Int -> Int -> Option (Bool × Unit)) (t8 : List Row) (t9 t10 : Int) (r : Row) :
    zez N A N t8 t9 t10 [r.q0, r.q1, r.q2, r.q3, r.q4, r.q5, r.q6, r.q7] 0 = cond (bigR r) (some (false, ())) (A t8 t9 (wr (t10 + 1))) := by
  obtain ⟨n, hn⟩ : ∃ n, N = n + 1 + 1 + 1 + 1 + 1 + 1 + 1 + 1 + 1 := ⟨N - 9, by omega⟩
  have e : ∀ M, M = n + 1 + 1 + 1 + 1 + 1 + 1 + 1 + 1 + 1 -> zez N A M t8 t9 t10 [r.q0, r.q1, r.q2, r.q3, r.q4, r.q5, r.q6, r.q7] ((0 : Nat) : Int) = cond (bigR r) (some (false, ())) (A t8 t9 (wr (t10 + 1))) := by
    rintro M rfl
    have hl : [r.q0, r.q1, r.q2, r.q3, r.q4, r.q5, r.q6, r.q7].length = 8 := rfl
    rw [zbw hN A _ _ _ _ _ hl 0 (by omega), zbw hN A _ _ _ _ _ hl 1 (by omega), zbw hN A _ _ _ _ _ hl 2 (by omega), zbw hN A _ _ _ _ _ hl 3 (by omega), zbw hN A _ _ _ _ _ hl 4 (by omega), zbw hN A _ _ _ _ _ hl 5 (by omega), zbw hN A _ _ _ _ _ hl 6 (by omega), zbw hN A _ _ _ _ _ hl 7 (by omega), zgJ]
    unfold zhS
    rw [zab (by omega), cond_false]
    simp only [zlI]
    unfold bigR
    simp only [Bool.or_assoc]
    rfl
  exact e N hn
theorem zjR : ∀ (l : List Row) (i n : Nat), v2.drop i = l -> i + l.length = v2.length -> l.length < n -> v2.length < 1000000 ->
    zhU N n v2 (v2.length : Int) (i : Int) = some (!l.any bigR, ())
  | [], i, n + 1, hd, hl, hn, hb => by
    simp only [List.length_nil] at hl
    rw [zgK]
    unfold zhT
    rw [zab (by omega), cond_false]
    rfl
  | r :: l, i, n + 1, hd, hl, hn, hb => by
    simp only [List.length_cons] at hl hn
    obtain ⟨hr, hd'⟩ := zrb hd (by omega)
    rw [zgK]
    unfold zhT
    rw [zaa (by omega : (i : Int) < (v2.length : Int)), cond_true, zae, zgt, Int.toNat_natCast, hr, zrc hN, zap (by omega), zjR l (i + 1) n hd' (by omega) (by omega) hb, List.any_cons]
    cases bigR r <;> rfl
theorem zv9 (hb : v2.length < 1000) : q200 N c0 v1 v2 v3 = some (!v2.any bigR, ()) :=
  zjR hN v2 v2 0 N rfl (by omega) (by omega) (by omega)
theorem ze2 (A : (List Row) -> Int -> Int -> Int -> Int -> (List Row) -> (List Pr) -> Option (Bool × Unit)) (n : Nat) (t8 : List Row) (t9 t10 : Int) (q : List Int) (hq : q.length = 3) (k : Nat) (hk : k < 3) :
    zeA N A (n + 1) t8 t9 t10 q (k : Int) c0 v1 v2 v3 = cond (leI v1 (q.getD k 0)) (some (false, ())) (zeA N A n t8 t9 t10 q ((k + 1 : Nat) : Int) c0 v1 v2 v3) := by
  have _ := hN
  rw [zgL]
  unfold zhV
  rw [zaa (by omega : (k : Int) < 3), cond_true, zae, zaa (by omega : (k : Int) < ((3 : Nat) : Int)), hq, zaa (by omega : (k : Int) < ((3 : Nat) : Int)), zap (by omega), Int.toNat_natCast]
  simp only [Bool.and_self, mst2]
theorem zrd (A : (List Row) -> Int -> Int -> Int -> Int -> (List Row) -> (List Pr) -> Option (Bool × Unit)) (t8 : List Row) (t9 t10 : Int) (r : Row) :
    zeA N A N t8 t9 t10 [r.w0, r.w1, r.w2] 0 c0 v1 v2 v3 = cond (unkR v1 r) (some (false, ())) (A t8 t9 (wr (t10 + 1)) c0 v1 v2 v3) := by
  obtain ⟨n, hn⟩ : ∃ n, N = n + 1 + 1 + 1 + 1 := ⟨N - 4, by omega⟩
  have e : ∀ M, M = n + 1 + 1 + 1 + 1 -> zeA N A M t8 t9 t10 [r.w0, r.w1, r.w2] ((0 : Nat) : Int) c0 v1 v2 v3 = cond (unkR v1 r) (some (false, ())) (A t8 t9 (wr (t10 + 1)) c0 v1 v2 v3) := by
    rintro M rfl
    have hl : [r.w0, r.w1, r.w2].length = 3 := rfl
    rw [ze2 hN c0 v1 v2 v3 A _ _ _ _ _ hl 0 (by omega), ze2 hN c0 v1 v2 v3 A _ _ _ _ _ hl 1 (by omega), ze2 hN c0 v1 v2 v3 A _ _ _ _ _ hl 2 (by omega), zgL]
    unfold zhV
    rw [zab (by omega), cond_false]
    simp only [zlI]
    unfold unkR
    simp only [Bool.or_assoc]
    rfl
  exact e N hn
theorem zh7 : ∀ (l : List Pr) (i n : Nat), v3.drop i = l -> i + l.length = v3.length -> l.length < n -> v3.length < 1000000 ->
    zd0 N n v3 (v3.length : Int) (i : Int) c0 v1 v2 v3 = some (!l.any (unkP v1), ())
  | [], i, n + 1, hd, hl, hn, hb => by
    have _ := hN
    simp only [List.length_nil] at hl
    rw [zfp]
    unfold zeY
    rw [zab (by omega), cond_false]
    rfl
  | r :: l, i, n + 1, hd, hl, hn, hb => by
    simp only [List.length_cons] at hl hn
    obtain ⟨hr, hd'⟩ := zA7 hd (by omega)
    rw [zfp]
    unfold zeY
    rw [zaa (by omega : (i : Int) < (v3.length : Int)), cond_true, zae, zgt, Int.toNat_natCast, hr, zap (by omega), zh7 l (i + 1) n hd' (by omega) (by omega) hb, List.any_cons, zv8, zA5]
    unfold unkP
    cases ltI r.x 0 <;> cases ltI r.y 0 <;> cases leI v1 r.x <;> cases leI v1 r.y <;> rfl
theorem zjS : ∀ (l : List Row) (i n : Nat), v2.drop i = l -> i + l.length = v2.length -> l.length < n -> v2.length < 1000000 ->
    zhX N n v2 (v2.length : Int) (i : Int) c0 v1 v2 v3 = cond (l.any (unkR v1)) (some (false, ())) (zd0 N N v3 (v3.length : Int) 0 c0 v1 v2 v3)
  | [], i, n + 1, hd, hl, hn, hb => by
    simp only [List.length_nil] at hl
    rw [zgM]
    unfold zhW
    rw [zab (by omega), cond_false]
    rfl
  | r :: l, i, n + 1, hd, hl, hn, hb => by
    simp only [List.length_cons] at hl hn
    obtain ⟨hr, hd'⟩ := zrb hd (by omega)
    rw [zgM]
    unfold zhW
    rw [zaa (by omega : (i : Int) < (v2.length : Int)), cond_true, zae, zgt, Int.toNat_natCast, hr, zrd hN, zap (by omega), zjS l (i + 1) n hd' (by omega) (by omega) hb, List.any_cons, zlI]
theorem zwa (hb : v2.length < 1000) (hb3 : v3.length < 1000) : q201 N c0 v1 v2 v3 = some (!(v2.any (unkR v1) || v3.any (unkP v1)), ()) := by
  refine (zjS hN c0 v1 v2 v3 v2 0 N rfl (by omega) (by omega) (by omega)).trans ?_
  have e := zh7 hN c0 v1 v2 v3 v3 0 N rfl (by omega) (by omega) (by omega)
  cases v2.any (unkR v1)
  . exact e
  . rfl
theorem zwb (r : Row) : q220 N r = some (!zft r, ()) := by
  have _ := hN
  unfold q220 zft
  rw [ztg]
  simp only [bsm]
  rw [show List.length [zdn r.w0] = 1 from rfl, zaa (show (0 : Int) < ((1 : Nat) : Int) by omega), show [zdn r.w0].getD 0 zrow = zdn r.w0 from rfl, mst2, zA6]
  cases ltI r.w0 0 <;> simp
theorem zjT : ∀ (l : List Row) (i n : Nat), v2.drop i = l -> i + l.length = v2.length -> l.length < n -> v2.length < 1000000 ->
    zhZ N n v2 (v2.length : Int) (i : Int) c0 v1 v2 v3 = some (!zfz c0 i l, ())
  | [], i, n + 1, hd, hl, hn, hb => by
    simp only [List.length_nil] at hl
    rw [zgN]
    unfold zhY
    rw [zab (by omega), cond_false]
    rfl
  | r :: l, i, n + 1, hd, hl, hn, hb => by
    simp only [List.length_cons] at hl hn
    obtain ⟨hr, hd'⟩ := zrb hd (by omega)
    rw [zgN]
    unfold zhY
    rw [zaa (by omega : (i : Int) < (v2.length : Int)), cond_true, zae, zgt, Int.toNat_natCast, hr, zaB, zwb hN, zap (by omega), zjT l (i + 1) n hd' (by omega) (by omega) hb, zv8, zv8]
    simp only [bsm, Bool.not_not]
    rw [show zfz c0 i (r :: l) = ((lowR r || (ltI (i : Int) c0 && zft r)) || zfz c0 (i + 1) l) from rfl]
    unfold lowR
    cases ltI (i : Int) c0 <;> cases zft r <;> cases ltI r.w0 (-1) <;> cases ltI r.w1 (-1) <;> cases ltI r.w2 (-1) <;> rfl
theorem zwc (hb : v2.length < 1000) : q202 N c0 v1 v2 v3 = some (!zfz c0 0 v2, ()) :=
  zjT hN c0 v1 v2 v3 v2 0 N rfl (by omega) (by omega) (by omega)
theorem zwd (hb : v2.length < 1000) (hb3 : v3.length < 1000) : q119 N c0 v1 v2 v3 = some (mayF c0 v1 v2 v3, ()) := by
  unfold q119 mayF
  rw [zv9 hN c0 v1 v2 v3 hb, zwa hN c0 v1 v2 v3 hb hb3, zwc hN c0 v1 v2 v3 hb]
  simp only [bsm, Bool.not_not]
  generalize ltI 8 c0 = a1
  generalize ltI 200 v1 = a2
  generalize ltI 64 (v2.length : Int) = a3
  generalize ltI 200 (v3.length : Int) = a4
  generalize ltI c0 0 = a5
  generalize ltI v1 0 = a6
  generalize ltI (v2.length : Int) c0 = a7
  generalize v2.any bigR = b1
  generalize (v2.any (unkR v1) || v3.any (unkP v1)) = b2
  generalize zfz c0 0 v2 = b3
  cases a1 <;> cases a2 <;> cases a3 <;> cases a4 <;> simp only [cond_true, cond_false, Bool.true_or, Bool.or_true, Bool.false_or, Bool.or_false]
  cases a5 <;> cases a6 <;> cases a7 <;> simp only [cond_true, cond_false, Bool.true_or, Bool.or_true, Bool.false_or, Bool.or_false]
  cases b1 <;> cases b2 <;> cases b3 <;> rfl
end prog
structure GoodCirc (c0 v1 : Int) (v2 : List Row) (v3 : List Pr) : Prop where
  p0 : 0 <= c0
  p8 : c0 <= 8
  v0 : 0 <= v1
  v200 : v1 <= 200
  rows : v2.length <= 64
  same : v3.length <= 200
  pub : c0 <= (v2.length : Int)
  big : v2.any bigR = false
  unk : v2.any (unkR v1) = false
  unkp : v3.any (unkP v1) = false
  form : zfz c0 0 v2 = false
theorem GoodCirc.may {c0 v1 : Int} {v2 : List Row} {v3 : List Pr} (h : GoodCirc c0 v1 v2 v3) : mayF c0 v1 v2 v3 = 0 := by
  have := h.p0
  have := h.p8
  have := h.v0
  have := h.v200
  have := h.rows
  have := h.same
  have := h.pub
  unfold mayF
  rw [zab (by omega : ¬ 8 < c0), zab (by omega : ¬ 200 < v1), zab (by omega : ¬ 64 < (v2.length : Int)), zab (by omega : ¬ 200 < (v3.length : Int)), zab (by omega : ¬ c0 < 0), zab (by omega : ¬ v1 < 0), zab (by omega : ¬ (v2.length : Int) < c0), h.big, h.unk, h.unkp, h.form]
  rfl
theorem GoodCirc.pairs {c0 v1 : Int} {v2 : List Row} {v3 : List Pr} (h : GoodCirc c0 v1 v2 v3) {V : Nat} (hV : v1 = (V : Int)) : zbO v3 V := by
  intro p hp
  have h2 := List.any_eq_false.mp h.unkp p hp
  unfold unkP at h2
  simp only [Bool.or_eq_true, not_or, Bool.not_eq_true] at h2
  obtain ⟨⟨a, b⟩, c, d⟩ := h2
  have := of_decide_eq_false a
  have := of_decide_eq_false b
  have := of_decide_eq_false c
  have := of_decide_eq_false d
  subst hV
  omega
theorem zjU {P : Int} : ∀ {l : List Row} {i : Nat}, zfz P i l = false -> ∀ r ∈ l, lowR r = false
  | [], _, _, r, hr => absurd hr (by simp)
  | x :: l, i, h, r, hr => by
    unfold zfz at h
    simp only [Bool.or_eq_false_iff] at h
    rcases List.mem_cons.mp hr with rfl | hr
    . exact h.1.1
    . exact zjU h.2 r hr
theorem GoodCirc.vars {c0 v1 : Int} {v2 : List Row} {v3 : List Pr} (h : GoodCirc c0 v1 v2 v3) {r : Row} (hr : r ∈ v2) (j : Nat) : -1 <= rw3 r j /\ rw3 r j < v1 := by
  have h1 := List.any_eq_false.mp h.unk r hr
  have h2 := zjU h.form r hr
  unfold unkR at h1
  unfold lowR at h2
  simp only [Bool.or_eq_true, not_or, Bool.not_eq_true] at h1
  simp only [Bool.or_eq_false_iff] at h2
  obtain ⟨⟨a, b⟩, c⟩ := h1
  obtain ⟨⟨a', b'⟩, c'⟩ := h2
  have := of_decide_eq_false a
  have := of_decide_eq_false b
  have := of_decide_eq_false c
  have := of_decide_eq_false a'
  have := of_decide_eq_false b'
  have := of_decide_eq_false c'
  match j with
  | 0 => exact ⟨by simp only [rw3]; omega, by simp only [rw3]; omega⟩
  | 1 => exact ⟨by simp only [rw3]; omega, by simp only [rw3]; omega⟩
  | _ + 2 => exact ⟨by simp only [rw3]; omega, by simp only [rw3]; omega⟩
end
section
def zcZ (k : Nat -> Int) (M x y : Nat) : Prop :=
  (k x < 0 /\ y = x) \/ (0 <= k x /\ ∃ d, 1 <= d /\ d <= M /\ y = (x + d) % M /\ k y = k x /\ ∀ e, 1 <= e -> e < d -> k ((x + e) % M) ≠ k x)
def up (m j i : Nat) (v : Int) (o : List Int) : List Int := if j = m then setL o i v else o
def oG (n : Nat) (o0 o1 o2 : List Int) (z : Nat) : Int := if z / n = 0 then o0.getD (z % n) 0 else if z / n = 1 then o1.getD (z % n) 0 else o2.getD (z % n) 0
theorem zre (m j i : Nat) (v : Int) (o : List Int) : (up m j i v o).length = o.length := by
  unfold up
  split
  . rw [zaz]
  . rfl
theorem cell {n j i : Nat} (hi : i < n) : (j * n + i) / n = j /\ (j * n + i) % n = i := by
  have h0 : 0 < n := by omega
  refine ⟨?_, ?_⟩
  . rw [Nat.mul_comm, Nat.mul_add_div h0, Nat.div_eq_of_lt hi, Nat.add_zero]
  . rw [Nat.mul_comm, Nat.mul_add_mod, Nat.mod_eq_of_lt hi]
theorem zrf {n z : Nat} (j i : Nat) (hi : i < n) : z = j * n + i ↔ z / n = j /\ z % n = i := by
  constructor
  . rintro rfl; exact cell hi
  . rintro ⟨h1, h2⟩
    have := Nat.div_add_mod z n
    rw [h1, h2, Nat.mul_comm] at this
    exact this.symm
theorem zwe {n j i : Nat} {v : Int} {o0 o1 o2 : List Int} (hi : i < n) (hj : j < 3) (h0 : j = 0 -> o0.length = n) (h1 : j = 1 -> o1.length = n) (h2 : j = 2 -> o2.length = n) (z : Nat) (hz : z < 3 * n) :
    oG n (up 0 j i v o0) (up 1 j i v o1) (up 2 j i v o2) z = if z = j * n + i then v else oG n o0 o1 o2 z := by
  have hz2 : z / n < 3 := Nat.div_lt_of_lt_mul (by omega)
  by_cases hc : z = j * n + i
  . rw [if_pos hc]
    obtain ⟨e1, e2⟩ := (zrf j i hi).mp hc
    unfold oG up
    rw [e1, e2]
    obtain rfl | rfl | rfl : j = 0 \/ j = 1 \/ j = 2 := by omega
    . show (setL o0 i v).getD i 0 = v
      rw [zaR, if_pos ⟨rfl, by rw [h0 rfl]; exact hi⟩]
    . show (setL o1 i v).getD i 0 = v
      rw [zaR, if_pos ⟨rfl, by rw [h1 rfl]; exact hi⟩]
    . show (setL o2 i v).getD i 0 = v
      rw [zaR, if_pos ⟨rfl, by rw [h2 rfl]; exact hi⟩]
  . rw [if_neg hc]
    have hn : ¬ (z / n = j /\ z % n = i) := fun h => hc ((zrf j i hi).mpr h)
    unfold oG up
    by_cases a0 : z / n = 0
    . rw [if_pos a0, if_pos a0]
      split
      . rename_i hj0; rw [zaR, if_neg (fun h => hn ⟨by omega, h.1⟩)]
      . rfl
    . rw [if_neg a0, if_neg a0]
      by_cases a1 : z / n = 1
      . rw [if_pos a1, if_pos a1]
        split
        . rename_i hj1; rw [zaR, if_neg (fun h => hn ⟨by omega, h.1⟩)]
        . rfl
      . rw [if_neg a1, if_neg a1]
        split
        . rename_i hj2
          have q2 : ∀ q : Nat, q < 3 -> q ≠ 0 -> q ≠ 1 -> q = 2 := by omega
          rw [zaR, if_neg (fun h => hn ⟨(q2 _ hz2 a0 a1).trans hj2.symm, h.1⟩)]
        . rfl
structure PInv (k : Nat -> Int) (V n a : Nat) (fi la : List Int) (O : Nat -> Int) : Prop where
  lf : fi.length = V
  ll : la.length = V
  F : ∀ c : Nat, c < V -> (fi.getD c 0 = -1 /\ ∀ z, z < a -> k z ≠ c) \/ ∃ f g : Nat, fi.getD c 0 = f /\ la.getD c 0 = g /\ f <= g /\ g < a /\ k f = c /\ k g = c /\ (∀ z, z < f -> k z ≠ c) /\ ∀ z, g < z -> z < a -> k z ≠ c
  O : ∀ z, z < a -> (k z < 0 /\ O z = z) \/ ∃ c : Nat, c < V /\ k z = c /\ ((∃ y : Nat, z < y /\ y < a /\ k y = c /\ (∀ w, z < w -> w < y -> k w ≠ c) /\ O z = y) \/ ((∀ w, z < w -> w < a -> k w ≠ c) /\ O z = fi.getD c 0))
theorem zth {k : Nat -> Int} {V n a : Nat} {fi la : List Int} {O O' : Nat -> Int} (h : PInv k V n a fi la O) (hk : k a < 0) (e1 : ∀ z, z < a -> O' z = O z) (e2 : O' a = a) : PInv k V n (a + 1) fi la O' := by
  refine ⟨h.lf, h.ll, fun c hc => ?_, fun z hz => ?_⟩
  . rcases h.F c hc with ⟨h1, h2⟩ | ⟨f, g, h1, h2, h3, h4, h5, h6, h7, h8⟩
    . refine .inl ⟨h1, fun z hz => ?_⟩
      by_cases e : z = a
      . subst e; omega
      . exact h2 z (by omega)
    . refine .inr ⟨f, g, h1, h2, h3, by omega, h5, h6, h7, fun z hz hz2 => ?_⟩
      by_cases e : z = a
      . subst e; omega
      . exact h8 z hz (by omega)
  . by_cases e : z = a
    . subst e; exact .inl ⟨hk, e2⟩
    . rw [e1 z (by omega)]
      rcases h.O z (by omega) with h1 | ⟨c, h1, h2, ⟨y, y1, y2, y3, y4, y5⟩ | ⟨h3, h4⟩⟩
      . exact .inl h1
      . exact .inr ⟨c, h1, h2, .inl ⟨y, y1, by omega, y3, y4, y5⟩⟩
      . refine .inr ⟨c, h1, h2, .inr ⟨fun w hw hw2 => ?_, h4⟩⟩
        by_cases e : w = a
        . subst e; omega
        . exact h3 w hw (by omega)
theorem zwf {k : Nat -> Int} {V n a c : Nat} {fi la : List Int} {O O' : Nat -> Int} (h : PInv k V n a fi la O) (hc : c < V) (hk : k a = c) (hf : fi.getD c 0 < 0) (e1 : ∀ z, z < a -> O' z = O z) (e2 : O' a = a) : PInv k V n (a + 1) (setL fi c (a : Int)) (setL la c (a : Int)) O' := by
  obtain ⟨f1, f2⟩ : fi.getD c 0 = -1 /\ ∀ z, z < a -> k z ≠ c := by
    rcases h.F c hc with h1 | ⟨f, g, h1, _⟩
    . exact h1
    . omega
  refine ⟨by rw [zaz]; exact h.lf, by rw [zaz]; exact h.ll, fun c' hc' => ?_, fun z hz => ?_⟩
  . rw [zaR, zaR, h.lf, h.ll]
    by_cases ec : c' = c
    . rw [if_pos ⟨ec, hc⟩, if_pos ⟨ec, hc⟩]
      subst ec
      exact .inr ⟨a, a, rfl, rfl, Nat.le_refl _, by omega, hk, hk, f2, fun z hz hz2 => by omega⟩
    . rw [if_neg (fun h => ec h.1), if_neg (fun h => ec h.1)]
      rcases h.F c' hc' with ⟨h1, h2⟩ | ⟨f, g, h1, h2, h3, h4, h5, h6, h7, h8⟩
      . refine .inl ⟨h1, fun z hz => ?_⟩
        by_cases e : z = a
        . subst e; omega
        . exact h2 z (by omega)
      . refine .inr ⟨f, g, h1, h2, h3, by omega, h5, h6, h7, fun z hz hz2 => ?_⟩
        by_cases e : z = a
        . subst e; omega
        . exact h8 z hz (by omega)
  . by_cases e : z = a
    . subst e
      refine .inr ⟨c, hc, hk, .inr ⟨fun w hw hw2 => by omega, ?_⟩⟩
      rw [zaR, h.lf, if_pos ⟨rfl, hc⟩]
      exact e2
    . rw [e1 z (by omega)]
      rcases h.O z (by omega) with h1 | ⟨c', h1, h2, ⟨y, y1, y2, y3, y4, y5⟩ | ⟨h3, h4⟩⟩
      . exact .inl h1
      . exact .inr ⟨c', h1, h2, .inl ⟨y, y1, by omega, y3, y4, y5⟩⟩
      . have ec : c' ≠ c := by rintro rfl; exact f2 z (by omega) h2
        refine .inr ⟨c', h1, h2, .inr ⟨fun w hw hw2 => ?_, ?_⟩⟩
        . by_cases e : w = a
          . subst e; omega
          . exact h3 w hw (by omega)
        . rw [zaR, if_neg (fun h => ec h.1)]
          exact h4
theorem zti {k : Nat -> Int} {V n a c g : Nat} {fi la : List Int} {O O' : Nat -> Int} (h : PInv k V n a fi la O) (hc : c < V) (hk : k a = c) (hf : ¬ fi.getD c 0 < 0) (hg : la.getD c 0 = g) (e1 : ∀ z, z < a -> z ≠ g -> O' z = O z) (e2 : O' g = a) (e3 : O' a = fi.getD c 0) : PInv k V n (a + 1) fi (setL la c (a : Int)) O' := by
  obtain ⟨f, f1, f3, f4, f5, f6, f7, f8⟩ : ∃ f : Nat, fi.getD c 0 = f /\ f <= g /\ g < a /\ k f = c /\ k g = c /\ (∀ z, z < f -> k z ≠ c) /\ ∀ z, g < z -> z < a -> k z ≠ c := by
    rcases h.F c hc with h1 | ⟨f, g', h1, h2, h3⟩
    . omega
    . obtain rfl : g' = g := by omega
      exact ⟨f, h1, h3⟩
  refine ⟨h.lf, by rw [zaz]; exact h.ll, fun c' hc' => ?_, fun z hz => ?_⟩
  . rw [zaR, h.ll]
    by_cases ec : c' = c
    . rw [if_pos ⟨ec, hc⟩]
      subst ec
      exact .inr ⟨f, a, f1, rfl, by omega, by omega, f5, hk, f7, fun z hz hz2 => by omega⟩
    . rw [if_neg (fun h => ec h.1)]
      rcases h.F c' hc' with ⟨h1, h2⟩ | ⟨f, g, h1, h2, h3, h4, h5, h6, h7, h8⟩
      . refine .inl ⟨h1, fun z hz => ?_⟩
        by_cases e : z = a
        . subst e; omega
        . exact h2 z (by omega)
      . refine .inr ⟨f, g, h1, h2, h3, by omega, h5, h6, h7, fun z hz hz2 => ?_⟩
        by_cases e : z = a
        . subst e; omega
        . exact h8 z hz (by omega)
  . by_cases e : z = a
    . subst e
      exact .inr ⟨c, hc, hk, .inr ⟨fun w hw hw2 => by omega, e3⟩⟩
    . by_cases eg : z = g
      . subst eg
        exact .inr ⟨c, hc, f6, .inl ⟨a, f4, by omega, hk, f8, e2⟩⟩
      . rw [e1 z (by omega) eg]
        rcases h.O z (by omega) with h1 | ⟨c', h1, h2, ⟨y, y1, y2, y3, y4, y5⟩ | ⟨h3, h4⟩⟩
        . exact .inl h1
        . exact .inr ⟨c', h1, h2, .inl ⟨y, y1, by omega, y3, y4, y5⟩⟩
        . have ec : c' ≠ c := by
            rintro rfl
            by_cases hzg : z < g
            . exact h3 g hzg f4 f6
            . exact f8 z (by omega) (by omega) h2
          refine .inr ⟨c', h1, h2, .inr ⟨fun w hw hw2 => ?_, h4⟩⟩
          by_cases e : w = a
          . subst e; omega
          . exact h3 w hw (by omega)
theorem zwg {k : Nat -> Int} {V n M : Nat} {fi la : List Int} {O : Nat -> Int} (h : PInv k V n M fi la O) {z : Nat} (hz : z < M) : ∃ y : Nat, O z = y /\ zcZ k M z y := by
  rcases h.O z hz with ⟨h1, h2⟩ | ⟨c, h1, h2, ⟨y, y1, y2, y3, y4, y5⟩ | ⟨h3, h4⟩⟩
  . exact ⟨z, h2, .inl ⟨h1, rfl⟩⟩
  . refine ⟨y, y5, .inr ⟨by omega, y - z, by omega, by omega, ?_, by omega, fun e he1 he2 => ?_⟩⟩
    . rw [show z + (y - z) = y by omega, Nat.mod_eq_of_lt y2]
    . rw [Nat.mod_eq_of_lt (by omega), h2]
      exact y4 _ (by omega) (by omega)
  . rcases h.F c h1 with ⟨f1, f2⟩ | ⟨f, g, f1, f2, f3, f4, f5, f6, f7, f8⟩
    . exact absurd h2 (f2 z hz)
    . have hfz : f <= z := by
        by_cases hlt : z < f
        . exact absurd h2 (f7 z hlt)
        . omega
      refine ⟨f, h4.trans f1, .inr ⟨by omega, M - (z - f), by omega, by omega, ?_, by omega, fun e he1 he2 => ?_⟩⟩
      . rw [show z + (M - (z - f)) = M + f by omega, Nat.add_mod_left, Nat.mod_eq_of_lt (by omega)]
      . rw [h2]
        by_cases hM : z + e < M
        . rw [Nat.mod_eq_of_lt hM]
          exact h3 _ (by omega) hM
        . rw [show z + e = M + (z + e - M) by omega, Nat.add_mod_left, Nat.mod_eq_of_lt (by omega)]
          exact f7 _ (by omega)
def varC (rows : List Row) (n z : Nat) : Int := if rows.length <= z % n then -1 else rw3 (rows.getD (z % n) zrow) (z / n)
def kC (cl : List Int) (rows : List Row) (n z : Nat) : Int := if varC rows n z < 0 then -1 else cl.getD (varC rows n z).toNat 0
end
end Go.Proofs.Ytgimohchocjgcaa.V
