import Derived.Test.YtgimohchocjgcaaVEV1
import Derived.Test.YtgimohchocjgcaaVWB6
import Derived.KernelRfl
import Derived.Test.YtgimohchocjgcaaVPA3
set_option linter.unusedVariables false
set_option linter.unusedSimpArgs false
namespace Go.Proofs.Ytgimohchocjgcaa.V
section
def zbL (N : Nat) (A_10 : Int -> Int -> Stp -> (List Bool) -> Option (Int × Unit)) (vars1 i7 : Int) (ob0 : Stp) (ob1 : List Bool) : Option (Int × Unit) :=
 cond ((ltI i7 (3 : Int))) (must (leI (0 : Int) i7 && ltI i7 (↑(3 : Nat) : Int)) (cond (List.getD ob1 i7.toNat false) (cond (eqI i7 (↑(0 : Nat) : Int)) (must (eqI i7 (↑(0 : Nat) : Int)) (cond ((leI vars1 ob0.v0)) (some (((10 : Int), ()))) (cond ((ltI ob0.v0 (0 : Int))) (cond (!eqI ob0.kind (2 : Int)) (some (((10 : Int), ()))) (A_10 vars1 ((wr ((↑(0 : Nat) : Int) + (1 : Int)))) (ob0) ob1)) (A_10 vars1 ((wr ((↑(0 : Nat) : Int) + (1 : Int)))) (ob0) ob1)))) (cond (eqI i7 (↑((0 : Nat) + (1 : Nat)) : Int)) (must (eqI i7 (↑((0 : Nat) + (1 : Nat)) : Int)) (cond ((leI vars1 ob0.v1)) (some (((10 : Int), ()))) (cond ((ltI ob0.v1 (0 : Int))) (cond (!eqI ob0.kind (2 : Int)) (some (((10 : Int), ()))) (A_10 vars1 ((wr ((↑((0 : Nat) + (1 : Nat)) : Int) + (1 : Int)))) (ob0) ob1)) (A_10 vars1 ((wr ((↑((0 : Nat) + (1 : Nat)) : Int) + (1 : Int)))) (ob0) ob1)))) (must (eqI i7 (↑((0 : Nat) + (1 : Nat) + (1 : Nat)) : Int)) (must (eqI i7 (↑((0 : Nat) + (1 : Nat) + (1 : Nat)) : Int)) (cond ((leI vars1 ob0.v2)) (some (((10 : Int), ()))) (cond ((ltI ob0.v2 (0 : Int))) (cond (!eqI ob0.kind (2 : Int)) (some (((10 : Int), ()))) (A_10 vars1 ((wr ((↑((0 : Nat) + (1 : Nat) + (1 : Nat)) : Int) + (1 : Int)))) (ob0) ob1)) (A_10 vars1 ((wr ((↑((0 : Nat) + (1 : Nat) + (1 : Nat)) : Int) + (1 : Int)))) (ob0) ob1))))))) (A_10 vars1 ((wr (i7 + (1 : Int)))) (ob0) ob1))) (some (((0 : Int), ())))
theorem zs6 : zmp = zbL := by
 (repeat (apply funext; intro _))
 simp only [zmp, zbL, hide_eq, zad, zag, zah, zaf, zak, zal, zaH, zaq]
def zaX (N n : Nat) (vars1 i7 : Int) (ob0 : Stp) (ob1 : List Bool) : Option (Int × Unit) :=
 zan (fun A x => zbL N (fun vars1 i7 ob0 ob1 => A ((vars1, ((), ((), (i7, ())))), (ob0, (ob1, ())))) x.1.1 x.1.2.2.2.1 x.2.1 x.2.2.1) n ((vars1, ((), ((), (i7, ())))), (ob0, (ob1, ())))
theorem zs7 : zfe = zaX := by
 (repeat (apply funext; intro _))
 simp only [zfe, zaX, zs6, zad, zag, zah, zaf, zak, zal, zaH, zaq]
theorem zcm (N n : Nat) (vars1 i7 : Int) (ob0 : Stp) (ob1 : List Bool) : zaX N (n + 1) vars1 i7 ob0 ob1 = zbL N (zaX N n) vars1 i7 ob0 ob1 := rfl
def zbg (N : Nat) (A_4 : Int -> Int -> Stp -> Option (Int × Unit)) (vars1 i5 : Int) (ob0 : Stp) : Option (Int × Unit) :=
 cond ((ltI i5 (5 : Int))) (cond (eqI i5 (↑(0 : Nat) : Int)) (must (eqI i5 (↑(0 : Nat) : Int)) (Option.bind (q69 N (ob0.q0)) fun rr4 => cond (!rr4.1) (some (((4 : Int), ()))) (A_4 vars1 ((wr ((↑(0 : Nat) : Int) + (1 : Int)))) (ob0)))) (cond (eqI i5 (↑((0 : Nat) + (1 : Nat)) : Int)) (must (eqI i5 (↑((0 : Nat) + (1 : Nat)) : Int)) (Option.bind (q69 N (ob0.q1)) fun rr3 => cond (!rr3.1) (some (((4 : Int), ()))) (A_4 vars1 ((wr ((↑((0 : Nat) + (1 : Nat)) : Int) + (1 : Int)))) (ob0)))) (cond (eqI i5 (↑((0 : Nat) + (1 : Nat) + (1 : Nat)) : Int)) (must (eqI i5 (↑((0 : Nat) + (1 : Nat) + (1 : Nat)) : Int)) (Option.bind (q69 N (ob0.q2)) fun rr2 => cond (!rr2.1) (some (((4 : Int), ()))) (A_4 vars1 ((wr ((↑((0 : Nat) + (1 : Nat) + (1 : Nat)) : Int) + (1 : Int)))) (ob0)))) (cond (eqI i5 (↑((0 : Nat) + (1 : Nat) + (1 : Nat) + (1 : Nat)) : Int)) (must (eqI i5 (↑((0 : Nat) + (1 : Nat) + (1 : Nat) + (1 : Nat)) : Int)) (Option.bind (q69 N (ob0.q3)) fun rr1 => cond (!rr1.1) (some (((4 : Int), ()))) (A_4 vars1 ((wr ((↑((0 : Nat) + (1 : Nat) + (1 : Nat) + (1 : Nat)) : Int) + (1 : Int)))) (ob0)))) (must (eqI i5 (↑((0 : Nat) + (1 : Nat) + (1 : Nat) + (1 : Nat) + (1 : Nat)) : Int)) (must (eqI i5 (↑((0 : Nat) + (1 : Nat) + (1 : Nat) + (1 : Nat) + (1 : Nat)) : Int)) (Option.bind (q69 N (ob0.q4)) fun rr0 => cond (!rr0.1) (some (((4 : Int), ()))) (A_4 vars1 ((wr ((↑((0 : Nat) + (1 : Nat) + (1 : Nat) + (1 : Nat) + (1 : Nat)) : Int) + (1 : Int)))) (ob0))))))))) (cond ((eqI ob0.kind (2 : Int))) (cond ((eqI ob0.kind (2 : Int))) (zaX N N vars1 (0 : Int) (ob0) ([(ltI (1 : Int) ob0.kind), true, true])) (cond ((eqI ob0.kind (4 : Int))) (zaX N N vars1 (0 : Int) (ob0) ([(ltI (1 : Int) ob0.kind), true, true])) (zaX N N vars1 (0 : Int) (ob0) ([(ltI (1 : Int) ob0.kind), true, (eqI ob0.kind (5 : Int))])))) (cond ((eqI ob0.kind (5 : Int))) (cond ((eqI ob0.kind (2 : Int))) (zaX N N vars1 (0 : Int) (ob0) ([(ltI (1 : Int) ob0.kind), true, true])) (cond ((eqI ob0.kind (4 : Int))) (zaX N N vars1 (0 : Int) (ob0) ([(ltI (1 : Int) ob0.kind), true, true])) (zaX N N vars1 (0 : Int) (ob0) ([(ltI (1 : Int) ob0.kind), true, (eqI ob0.kind (5 : Int))])))) (cond ((eqI ob0.kind (2 : Int))) (zaX N N vars1 (0 : Int) (ob0) ([(ltI (1 : Int) ob0.kind), (eqI ob0.kind (6 : Int)), true])) (cond ((eqI ob0.kind (4 : Int))) (zaX N N vars1 (0 : Int) (ob0) ([(ltI (1 : Int) ob0.kind), (eqI ob0.kind (6 : Int)), true])) (zaX N N vars1 (0 : Int) (ob0) ([(ltI (1 : Int) ob0.kind), (eqI ob0.kind (6 : Int)), (eqI ob0.kind (5 : Int))]))))))
theorem zvE : zrB = zbg := by
 (repeat (apply funext; intro _))
 simp only [zrB, zbg, hide_eq, zs7, zyC, zad, zag, zah, zaf, zak, zal, zaH, zaq]
def zhu (N n : Nat) (vars1 i5 : Int) (ob0 : Stp) : Option (Int × Unit) :=
 zan (fun A x => zbg N (fun vars1 i5 ob0 => A ((vars1, ((), (i5, ()))), (ob0, ()))) x.1.1 x.1.2.2.1 x.2.1) n ((vars1, ((), (i5, ()))), (ob0, ()))
theorem zvF : zrC = zhu := by
 (repeat (apply funext; intro _))
 simp only [zrC, zhu, zvE, zad, zag, zah, zaf, zak, zal, zaH, zaq]
theorem zbM (N n : Nat) (vars1 i5 : Int) (ob0 : Stp) : zhu N (n + 1) vars1 i5 ob0 = zbg N (zhu N n) vars1 i5 ob0 := rfl
def q196 (N : Nat) (s0 : Stp) (vars1 : Int) : Option (Int × Unit) :=
 cond ((ltI s0.kind (1 : Int))) (some (((11 : Int), ()))) (cond ((ltI (7 : Int) s0.kind)) (some (((11 : Int), ()))) (zhu N N vars1 (0 : Int) (s0)))
theorem zCl : p196 = q196 := by
 (repeat (apply funext; intro _))
 simp only [p196, q196, hide_eq, zvF, zad, zag, zah, zaf, zak, zal, zaH, zaq]
def q115 (N : Nat) (b0 : Int) (s1 v2 : List Row) (v3 : List Pr) (v4 : Stp) : Option ((Int × List Row × List Row × List Pr × Unit) × Int × Int × Unit) :=
 Option.bind (q196 N (v4) b0) fun rr0 => cond (!eqI rr0.1 (0 : Int)) (some (((b0, s1, v2, v3, ()), (0 : Int), Prod.fst rr0, ()))) (Option.bind (q197 N (v4)) fun rr1 => cond ((ltI (64 : Int) ((wr ((wr ((↑s1.length : Int) + (↑v2.length : Int))) + (↑rr1.1.length : Int)))))) (some (((b0, s1, v2, v3, ()), (0 : Int), (8 : Int), ()))) (cond ((eqI v4.kind (1 : Int))) (cond ((leI (200 : Int) b0)) (some (((b0, s1, v2, v3, ()), (0 : Int), (8 : Int), ()))) (some ((((wr (b0 + (1 : Int))), s1, v2, v3, ()), (wr ((wr (b0 + (1 : Int))) - (1 : Int))), (0 : Int), ())))) (cond ((eqI v4.kind (6 : Int))) (cond ((leI (200 : Int) (↑v3.length : Int))) (some (((b0, s1, v2, v3, ()), (0 : Int), (8 : Int), ()))) (must (leN (((0 : Nat) + List.length v3) * (16 : Nat)) (140737488355328 : Nat)) (must (leN ((List.length v3 + List.length [Pr.mk v4.v0 v4.v1]) * (16 : Nat)) (140737488355328 : Nat)) (some (((b0, s1, v2, v3 ++ [Pr.mk v4.v0 v4.v1], ()), (0 : Int), (0 : Int), ())))))) (cond ((eqI v4.kind (7 : Int))) (cond ((leI (8 : Int) (↑s1.length : Int))) (some (((b0, s1, v2, v3, ()), (0 : Int), (8 : Int), ()))) (must (leN (((0 : Nat) + List.length s1) * (280 : Nat)) (140737488355328 : Nat)) (must (leN ((List.length s1 + List.length rr1.1) * (280 : Nat)) (140737488355328 : Nat)) (some (((b0, s1 ++ Prod.fst rr1, v2, v3, ()), (0 : Int), (0 : Int), ())))))) (must (leN (((0 : Nat) + List.length v2) * (280 : Nat)) (140737488355328 : Nat)) (must (leN ((List.length v2 + List.length rr1.1) * (280 : Nat)) (140737488355328 : Nat)) (some (((b0, s1, v2 ++ Prod.fst rr1, v3, ()), (0 : Int), (0 : Int), ())))))))))
theorem zCm : p115 = q115 := by
 (repeat (apply funext; intro _))
 simp only [p115, q115, hide_eq, zCl, zwM, zad, zag, zah, zaf, zak, zal, zaH, zaq]
def q118 (N : Nat) (b0 : Int) (v1 v2 : List Row) (v3 : List Pr) : Option (((Int × List Row × List Row × Unit) × Nat) × (Int × Int × List Row × List Pr × Unit) × Unit) :=
 must (leN (((0 : Nat) + List.length v1) * (280 : Nat)) (140737488355328 : Nat)) (must (leN ((List.length v1 + List.length v2) * (280 : Nat)) (140737488355328 : Nat)) (some ((((b0, v1, v2, ()), List.length v3), ((↑v1.length : Int), b0, v1 ++ v2, v3, ()), ()))))
theorem zCn : p118 = q118 := by
 (repeat (apply funext; intro _))
 simp only [p118, q118, zad, zag, zah, zaf, zak, zal, zaH, zaq]
def q186 (N : Nat) (l0 : Int) (n1 : List UInt8) (m2 : Int) : Option ((Int × Unit) × Int × Unit) :=
 cond ((leI (↑n1.length : Int) l0)) (some (((l0, ()), (0 : Int), ()))) (must (leI (0 : Int) ((wr ((wr (l0 + (1 : Int))) - (1 : Int)))) && ltI ((wr ((wr (l0 + (1 : Int))) - (1 : Int)))) (↑n1.length : Int)) (must (!eqI m2 (0 : Int)) (some ((((wr (l0 + (1 : Int))), ()), (Int.tmod ((↑(UInt8.toNat (List.getD n1 (Int.toNat ((wr ((wr (l0 + (1 : Int))) - (1 : Int))))) (0 : UInt8))) : Int)) m2), ())))))
theorem zwN : p186 = q186 := by
 (repeat (apply funext; intro _))
 simp only [p186, q186, hide_eq, zad, zag, zah, zaf, zak, zal, zaH, zaq]
def q187 (N : Nat) (m0 b1 : Int) (s2 : List Row) (val3 : List Pr) (v4 v5 : List Fr) (v6 : List Stp) (v7 : Int) (v8 v9 : List Row) (v10 : List Pr) (v11 : Stp) (v12 : Fr) : Option ((Int × Int × List Row × List Pr × List Fr × List Fr × List Stp × Unit) × (Int × List Row × List Row × List Pr × Unit) × Int × Unit) :=
 Option.bind (q115 N v7 v8 v9 v10 (v11)) fun rr0 => cond (!eqI (Prod.fst (rr0.2.2)) (0 : Int)) (some (((m0, b1, s2, val3, v4, v5, v6, ()), (Prod.fst rr0.1, Prod.fst (rr0.1.2), Prod.fst (Prod.snd (rr0.1.2)), Prod.fst (Prod.snd (Prod.snd (rr0.1.2))), ()), (0 : Int), ()))) (must (leN ((List.length v6 + List.length [v11]) * (192 : Nat)) (140737488355328 : Nat)) (cond ((eqI v11.kind (1 : Int))) (must (leN ((List.length v5 + List.length [v12]) * (32 : Nat)) (140737488355328 : Nat)) (some (((m0, b1, s2, val3, v4, v5 ++ [v12], v6 ++ [v11], ()), (Prod.fst rr0.1, Prod.fst (rr0.1.2), Prod.fst (Prod.snd (rr0.1.2)), Prod.fst (Prod.snd (Prod.snd (rr0.1.2))), ()), Prod.fst rr0.2, ())))) (some (((m0, b1, s2, val3, v4, v5, v6 ++ [v11], ()), (Prod.fst rr0.1, Prod.fst (rr0.1.2), Prod.fst (Prod.snd (rr0.1.2)), Prod.fst (Prod.snd (Prod.snd (rr0.1.2))), ()), Prod.fst rr0.2, ())))))
theorem zwO : p187 = q187 := by
 (repeat (apply funext; intro _))
 simp only [p187, q187, hide_eq, zCm, zad, zag, zah, zaf, zak, zal, zaH, zaq]
def q185 (N : Nat) (m0 b1 : Int) (val2 : List Row) (v3 : List Pr) (v4 v5 : List Fr) (v6 : List Stp) (v7 : Int) (v8 v9 : List Row) (v10 : List Pr) (v11 : Fr) : Option ((Int × Int × List Row × List Pr × List Fr × List Fr × List Stp × Unit) × (Int × List Row × List Row × List Pr × Unit) × Int × Unit) :=
 Option.bind (q187 N m0 b1 val2 v3 v4 v5 v6 v7 v8 v9 v10 (Stp.mk (1 : Int) (0 : Int) (0 : Int) (0 : Int) (Fr.zero) (Fr.zero) (Fr.zero) (Fr.zero) (Fr.zero)) (v11)) fun rr0 => some (((Prod.fst rr0.1, Prod.fst (rr0.1.2), Prod.fst (Prod.snd (rr0.1.2)), Prod.fst (Prod.snd (Prod.snd (rr0.1.2))), Prod.fst (Prod.snd (Prod.snd (Prod.snd (rr0.1.2)))), Prod.fst (Prod.snd (Prod.snd (Prod.snd (Prod.snd (rr0.1.2))))), Prod.fst (Prod.snd (Prod.snd (Prod.snd (Prod.snd (Prod.snd (rr0.1.2)))))), ()), (Prod.fst (rr0.2.1), Prod.fst (Prod.snd (rr0.2.1)), Prod.fst (Prod.snd (Prod.snd (rr0.2.1))), Prod.fst (Prod.snd (Prod.snd (Prod.snd (rr0.2.1)))), ()), Prod.fst (rr0.2.2), ()))
theorem zwP : p185 = q185 := by
 (repeat (apply funext; intro _))
 simp only [p185, q185, zwO, zad, zag, zah, zaf, zak, zal, zaH, zaq]
def zkN (N : Nat) (A_8 : (List UInt8) -> Int -> Int -> Int -> Int -> Int -> Int -> Int -> Int -> Fr -> (List Row) -> (List Pr) -> (List Fr) -> (List Fr) -> (List Stp) -> (List Row) -> (List Pr) -> (List Fr) -> (List Fr) -> (List Stp) -> (List Row) -> (List Row) -> (List Pr) -> Option ((Int × Int × List Row × List Pr × List Fr × List Fr × List Stp × Unit) × Unit)) (l0 : List UInt8) (most1 g9 ob0_0 ob0_1 ob1_0 ob1_1 ob2_0 ob3_0 : Int) (ob4 : Fr) (ob5 : List Row) (ob6 : List Pr) (ob7 ob8 : List Fr) (ob9 : List Stp) (ob10 : List Row) (ob11 : List Pr) (ob12 ob13 : List Fr) (ob14 : List Stp) (ob15 ob16 : List Row) (ob17 : List Pr) : Option ((Int × Int × List Row × List Pr × List Fr × List Fr × List Stp × Unit) × Unit) :=
 cond ((ltI g9 most1)) (cond ((ltI ob2_0 (↑l0.length : Int))) (Option.bind (q186 N ob2_0 l0 ((↑ob13.length : Int))) fun rr2 => let w2 := rr2.2.1; let w0 := List.getD ob13 (Int.toNat w2) (Fr.zero); let w1 := Fr.mk (Fr.a0 w0) (Fr.a1 w0) (Fr.a2 w0) (Fr.a3 w0); Option.bind (q186 N (rr2.1.1) l0 ((↑ob13.length : Int))) fun rr3 => let w3 := List.getD ob13 (Int.toNat (rr3.2.1)) (Fr.zero); let w4 := Fr.mk (Fr.a0 w3) (Fr.a1 w3) (Fr.a2 w3) (Fr.a3 w3); must (leI (0 : Int) w2 && ltI w2 (↑ob13.length : Int)) (must (leI (0 : Int) (rr3.2.1) && ltI (rr3.2.1) (↑ob13.length : Int)) (Option.bind (q186 N (rr3.1.1) l0 (7 : Int)) fun rr4 => let w5 := rr4.1.1; cond ((eqI (rr4.2.1) (0 : Int))) (Option.bind (q186 N w5 l0 (9 : Int)) fun rr20 => Option.bind (q173 N ((u64I (rr20.2.1)))) fun rr21 => Option.bind (q94 N w1 w4) fun rr22 => Option.bind (q94 N (rr21.1) w1) fun rr23 => Option.bind (q81 N (rr22.1) (rr23.1)) fun rr24 => Option.bind (q173 N (5 : UInt64)) fun rr25 => Option.bind (q81 N (rr24.1) (rr25.1)) fun rr26 => Option.bind (q185 N ob1_0 ob1_1 ob10 ob11 ob12 ob13 ob14 ob3_0 ob15 ob16 ob17 (rr26.1)) fun rr27 => let w6 := Prod.snd (Prod.snd (rr27.1.2)); Option.bind (q85 N (ob4)) fun rr28 => Option.bind (q173 N (5 : UInt64)) fun rr29 => Option.bind (q187 N (rr27.1.1) (Prod.fst (rr27.1.2)) (Prod.fst (Prod.snd (rr27.1.2))) (Prod.fst w6) (Prod.fst (Prod.snd w6)) (Prod.fst (Prod.snd (Prod.snd w6))) (Prod.fst (Prod.snd (Prod.snd (Prod.snd w6)))) (Prod.fst (rr27.2.1)) (Prod.fst (Prod.snd (rr27.2.1))) (Prod.fst (Prod.snd (Prod.snd (rr27.2.1)))) (Prod.fst (Prod.snd (Prod.snd (Prod.snd (rr27.2.1))))) (Stp.mk (2 : Int) w2 (rr3.2.1) (Prod.fst (rr27.2.2)) (ob4) (rr21.1) (Fr.zero) (rr28.1) (rr29.1)) (ob4)) fun rr30 => let w7 := Prod.snd (Prod.snd (rr30.1.2)); A_8 l0 most1 ((wr (g9 + (1 : Int)))) ob0_0 ob0_1 (rr30.1.1) (Prod.fst (rr30.1.2)) (rr20.1.1) (Prod.fst (rr30.2.1)) (ob4) ob5 ob6 ob7 ob8 ob9 (Prod.fst (Prod.snd (rr30.1.2))) (Prod.fst w7) (Prod.fst (Prod.snd w7)) (Prod.fst (Prod.snd (Prod.snd w7))) (Prod.fst (Prod.snd (Prod.snd (Prod.snd w7)))) (Prod.fst (Prod.snd (rr30.2.1))) (Prod.fst (Prod.snd (Prod.snd (rr30.2.1)))) (Prod.fst (Prod.snd (Prod.snd (Prod.snd (rr30.2.1)))))) (cond ((eqI (rr4.2.1) (1 : Int))) (Option.bind (q186 N w5 l0 (2 : Int)) fun rr16 => Option.bind (q173 N ((u64I (rr16.2.1)))) fun rr17 => Option.bind (q185 N ob1_0 ob1_1 ob10 ob11 ob12 ob13 ob14 ob3_0 ob15 ob16 ob17 (rr17.1)) fun rr18 => let w8 := Prod.snd (Prod.snd (rr18.1.2)); Option.bind (q187 N (rr18.1.1) (Prod.fst (rr18.1.2)) (Prod.fst (Prod.snd (rr18.1.2))) (Prod.fst w8) (Prod.fst (Prod.snd w8)) (Prod.fst (Prod.snd (Prod.snd w8))) (Prod.fst (Prod.snd (Prod.snd (Prod.snd w8)))) (Prod.fst (rr18.2.1)) (Prod.fst (Prod.snd (rr18.2.1))) (Prod.fst (Prod.snd (Prod.snd (rr18.2.1)))) (Prod.fst (Prod.snd (Prod.snd (Prod.snd (rr18.2.1))))) (Stp.mk (3 : Int) (Prod.fst (rr18.2.2)) (0 : Int) (0 : Int) (Fr.zero) (Fr.zero) (Fr.zero) (Fr.zero) (Fr.zero)) (ob4)) fun rr19 => let w9 := Prod.snd (Prod.snd (rr19.1.2)); A_8 l0 most1 ((wr (g9 + (1 : Int)))) ob0_0 ob0_1 (rr19.1.1) (Prod.fst (rr19.1.2)) (rr16.1.1) (Prod.fst (rr19.2.1)) (ob4) ob5 ob6 ob7 ob8 ob9 (Prod.fst (Prod.snd (rr19.1.2))) (Prod.fst w9) (Prod.fst (Prod.snd w9)) (Prod.fst (Prod.snd (Prod.snd w9))) (Prod.fst (Prod.snd (Prod.snd (Prod.snd w9)))) (Prod.fst (Prod.snd (rr19.2.1))) (Prod.fst (Prod.snd (Prod.snd (rr19.2.1)))) (Prod.fst (Prod.snd (Prod.snd (Prod.snd (rr19.2.1)))))) (cond ((eqI (rr4.2.1) (2 : Int))) (Option.bind (q73 N w1 ([(5 : UInt64)])) fun rr13 => Option.bind (q185 N ob1_0 ob1_1 ob10 ob11 ob12 ob13 ob14 ob3_0 ob15 ob16 ob17 (rr13.1)) fun rr14 => let w10 := Prod.snd (Prod.snd (rr14.1.2)); Option.bind (q187 N (rr14.1.1) (Prod.fst (rr14.1.2)) (Prod.fst (Prod.snd (rr14.1.2))) (Prod.fst w10) (Prod.fst (Prod.snd w10)) (Prod.fst (Prod.snd (Prod.snd w10))) (Prod.fst (Prod.snd (Prod.snd (Prod.snd w10)))) (Prod.fst (rr14.2.1)) (Prod.fst (Prod.snd (rr14.2.1))) (Prod.fst (Prod.snd (Prod.snd (rr14.2.1)))) (Prod.fst (Prod.snd (Prod.snd (Prod.snd (rr14.2.1))))) (Stp.mk (4 : Int) w2 (0 : Int) (Prod.fst (rr14.2.2)) (Fr.zero) (Fr.zero) (Fr.zero) (Fr.zero) (Fr.zero)) (ob4)) fun rr15 => let w11 := Prod.snd (Prod.snd (rr15.1.2)); A_8 l0 most1 ((wr (g9 + (1 : Int)))) ob0_0 ob0_1 (rr15.1.1) (Prod.fst (rr15.1.2)) w5 (Prod.fst (rr15.2.1)) (ob4) ob5 ob6 ob7 ob8 ob9 (Prod.fst (Prod.snd (rr15.1.2))) (Prod.fst w11) (Prod.fst (Prod.snd w11)) (Prod.fst (Prod.snd (Prod.snd w11))) (Prod.fst (Prod.snd (Prod.snd (Prod.snd w11)))) (Prod.fst (Prod.snd (rr15.2.1))) (Prod.fst (Prod.snd (Prod.snd (rr15.2.1)))) (Prod.fst (Prod.snd (Prod.snd (Prod.snd (rr15.2.1)))))) (cond ((eqI (rr4.2.1) (3 : Int))) (Option.bind (q81 N w1 w4) fun rr10 => Option.bind (q185 N ob1_0 ob1_1 ob10 ob11 ob12 ob13 ob14 ob3_0 ob15 ob16 ob17 (rr10.1)) fun rr11 => let w12 := Prod.snd (Prod.snd (rr11.1.2)); Option.bind (q187 N (rr11.1.1) (Prod.fst (rr11.1.2)) (Prod.fst (Prod.snd (rr11.1.2))) (Prod.fst w12) (Prod.fst (Prod.snd w12)) (Prod.fst (Prod.snd (Prod.snd w12))) (Prod.fst (Prod.snd (Prod.snd (Prod.snd w12)))) (Prod.fst (rr11.2.1)) (Prod.fst (Prod.snd (rr11.2.1))) (Prod.fst (Prod.snd (Prod.snd (rr11.2.1)))) (Prod.fst (Prod.snd (Prod.snd (Prod.snd (rr11.2.1))))) (Stp.mk (5 : Int) w2 (rr3.2.1) (Prod.fst (rr11.2.2)) (Fr.zero) (Fr.zero) (Fr.zero) (Fr.zero) (Fr.zero)) (ob4)) fun rr12 => let w13 := Prod.snd (Prod.snd (rr12.1.2)); A_8 l0 most1 ((wr (g9 + (1 : Int)))) ob0_0 ob0_1 (rr12.1.1) (Prod.fst (rr12.1.2)) w5 (Prod.fst (rr12.2.1)) (ob4) ob5 ob6 ob7 ob8 ob9 (Prod.fst (Prod.snd (rr12.1.2))) (Prod.fst w13) (Prod.fst (Prod.snd w13)) (Prod.fst (Prod.snd (Prod.snd w13))) (Prod.fst (Prod.snd (Prod.snd (Prod.snd w13)))) (Prod.fst (Prod.snd (rr12.2.1))) (Prod.fst (Prod.snd (Prod.snd (rr12.2.1)))) (Prod.fst (Prod.snd (Prod.snd (Prod.snd (rr12.2.1)))))) (cond ((eqI (rr4.2.1) (4 : Int))) (Option.bind (q185 N ob1_0 ob1_1 ob10 ob11 ob12 ob13 ob14 ob3_0 ob15 ob16 ob17 w1) fun rr8 => let w14 := Prod.snd (Prod.snd (rr8.1.2)); Option.bind (q187 N (rr8.1.1) (Prod.fst (rr8.1.2)) (Prod.fst (Prod.snd (rr8.1.2))) (Prod.fst w14) (Prod.fst (Prod.snd w14)) (Prod.fst (Prod.snd (Prod.snd w14))) (Prod.fst (Prod.snd (Prod.snd (Prod.snd w14)))) (Prod.fst (rr8.2.1)) (Prod.fst (Prod.snd (rr8.2.1))) (Prod.fst (Prod.snd (Prod.snd (rr8.2.1)))) (Prod.fst (Prod.snd (Prod.snd (Prod.snd (rr8.2.1))))) (Stp.mk (6 : Int) (Prod.fst (rr8.2.2)) w2 (0 : Int) (Fr.zero) (Fr.zero) (Fr.zero) (Fr.zero) (Fr.zero)) (ob4)) fun rr9 => let w15 := Prod.snd (Prod.snd (rr9.1.2)); A_8 l0 most1 ((wr (g9 + (1 : Int)))) ob0_0 ob0_1 (rr9.1.1) (Prod.fst (rr9.1.2)) w5 (Prod.fst (rr9.2.1)) (ob4) ob5 ob6 ob7 ob8 ob9 (Prod.fst (Prod.snd (rr9.1.2))) (Prod.fst w15) (Prod.fst (Prod.snd w15)) (Prod.fst (Prod.snd (Prod.snd w15))) (Prod.fst (Prod.snd (Prod.snd (Prod.snd w15)))) (Prod.fst (Prod.snd (rr9.2.1))) (Prod.fst (Prod.snd (Prod.snd (rr9.2.1)))) (Prod.fst (Prod.snd (Prod.snd (Prod.snd (rr9.2.1)))))) (cond ((eqI (rr4.2.1) (5 : Int))) (cond ((ltI (↑ob12.length : Int) (3 : Int))) (Option.bind (q187 N ob1_0 ob1_1 ob10 ob11 ob12 ob13 ob14 ob3_0 ob15 ob16 ob17 (Stp.mk (7 : Int) w2 (0 : Int) (0 : Int) (Fr.zero) (Fr.zero) (Fr.zero) (Fr.zero) (Fr.zero)) (ob4)) fun rr7 => let w16 := Prod.snd (Prod.snd (Prod.snd (rr7.1.2))); must (leN ((List.length (Prod.fst w16) + List.length [Fr.mk (Fr.a0 w0) (Fr.a1 w0) (Fr.a2 w0) (Fr.a3 w0)]) * (32 : Nat)) (140737488355328 : Nat)) (A_8 l0 most1 ((wr (g9 + (1 : Int)))) ob0_0 ob0_1 (rr7.1.1) (Prod.fst (rr7.1.2)) w5 (Prod.fst (rr7.2.1)) (ob4) ob5 ob6 ob7 ob8 ob9 (Prod.fst (Prod.snd (rr7.1.2))) (Prod.fst (Prod.snd (Prod.snd (rr7.1.2)))) (Prod.fst w16 ++ [Fr.mk (Fr.a0 w0) (Fr.a1 w0) (Fr.a2 w0) (Fr.a3 w0)]) (Prod.fst (Prod.snd w16)) (Prod.fst (Prod.snd (Prod.snd w16))) (Prod.fst (Prod.snd (rr7.2.1))) (Prod.fst (Prod.snd (Prod.snd (rr7.2.1)))) (Prod.fst (Prod.snd (Prod.snd (Prod.snd (rr7.2.1))))))) (A_8 l0 most1 ((wr (g9 + (1 : Int)))) ob0_0 ob0_1 ob1_0 ob1_1 w5 ob3_0 (ob4) ob5 ob6 ob7 ob8 ob9 ob10 ob11 ob12 ob13 ob14 ob15 ob16 ob17)) (Option.bind (q85 N (ob4)) fun rr5 => Option.bind (q187 N ob1_0 ob1_1 ob10 ob11 ob12 ob13 ob14 ob3_0 ob15 ob16 ob17 (Stp.mk (2 : Int) w2 (-5 : Int) w2 (Fr.zero) (ob4) (Fr.zero) (rr5.1) (Fr.zero)) (ob4)) fun rr6 => let w17 := Prod.snd (Prod.snd (rr6.1.2)); A_8 l0 most1 ((wr (g9 + (1 : Int)))) ob0_0 ob0_1 (rr6.1.1) (Prod.fst (rr6.1.2)) w5 (Prod.fst (rr6.2.1)) (ob4) ob5 ob6 ob7 ob8 ob9 (Prod.fst (Prod.snd (rr6.1.2))) (Prod.fst w17) (Prod.fst (Prod.snd w17)) (Prod.fst (Prod.snd (Prod.snd w17))) (Prod.fst (Prod.snd (Prod.snd (Prod.snd w17)))) (Prod.fst (Prod.snd (rr6.2.1))) (Prod.fst (Prod.snd (Prod.snd (rr6.2.1)))) (Prod.fst (Prod.snd (Prod.snd (Prod.snd (rr6.2.1)))))))))))))) (Option.bind (q118 N ob3_0 ob15 ob16 ob17) fun rr1 => some (((Prod.fst (rr1.2.1), Prod.fst (Prod.snd (rr1.2.1)), Prod.fst (Prod.snd (Prod.snd (rr1.2.1))), Prod.fst (Prod.snd (Prod.snd (Prod.snd (rr1.2.1)))), ob12, ob13, ob14, ()), ())))) (Option.bind (q118 N ob3_0 ob15 ob16 ob17) fun rr0 => some (((Prod.fst (rr0.2.1), Prod.fst (Prod.snd (rr0.2.1)), Prod.fst (Prod.snd (Prod.snd (rr0.2.1))), Prod.fst (Prod.snd (Prod.snd (Prod.snd (rr0.2.1)))), ob12, ob13, ob14, ()), ())))
theorem zy7 : zyq = zkN := by
 (repeat (apply funext; intro _))
 simp only [zyq, zkN, hide_eq, zCn, zkF, zwP, zwN, zwO, zEo, zyJ, zBR, zyD, zad, zag, zah, zaf, zak, zal, zaH, zaq]
def zmN (N n : Nat) (l0 : List UInt8) (most1 g9 ob0_0 ob0_1 ob1_0 ob1_1 ob2_0 ob3_0 : Int) (ob4 : Fr) (ob5 : List Row) (ob6 : List Pr) (ob7 ob8 : List Fr) (ob9 : List Stp) (ob10 : List Row) (ob11 : List Pr) (ob12 ob13 : List Fr) (ob14 : List Stp) (ob15 ob16 : List Row) (ob17 : List Pr) : Option ((Int × Int × List Row × List Pr × List Fr × List Fr × List Stp × Unit) × Unit) :=
 zan (fun A x => zkN N (fun l0 most1 g9 ob0_0 ob0_1 ob1_0 ob1_1 ob2_0 ob3_0 ob4 ob5 ob6 ob7 ob8 ob9 ob10 ob11 ob12 ob13 ob14 ob15 ob16 ob17 => A ((l0, (most1, ((), ((), ((), ((), ((), (g9, ())))))))), ((ob0_0, (ob0_1, ((), ((), ((), ((), ((), ()))))))), ((ob1_0, (ob1_1, ((), ((), ((), ((), ((), ()))))))), ((ob2_0, ()), ((ob3_0, ((), ((), ((), ())))), (ob4, (ob5, (ob6, (ob7, (ob8, (ob9, (ob10, (ob11, (ob12, (ob13, (ob14, (ob15, (ob16, (ob17, ())))))))))))))))))))) x.1.1 x.1.2.1 x.1.2.2.2.2.2.2.2.1 x.2.1.1 x.2.1.2.1 x.2.2.1.1 x.2.2.1.2.1 x.2.2.2.1.1 x.2.2.2.2.1.1 x.2.2.2.2.2.1 x.2.2.2.2.2.2.1 x.2.2.2.2.2.2.2.1 x.2.2.2.2.2.2.2.2.1 x.2.2.2.2.2.2.2.2.2.1 x.2.2.2.2.2.2.2.2.2.2.1 x.2.2.2.2.2.2.2.2.2.2.2.1 x.2.2.2.2.2.2.2.2.2.2.2.2.1 x.2.2.2.2.2.2.2.2.2.2.2.2.2.1 x.2.2.2.2.2.2.2.2.2.2.2.2.2.2.1 x.2.2.2.2.2.2.2.2.2.2.2.2.2.2.2.1 x.2.2.2.2.2.2.2.2.2.2.2.2.2.2.2.2.1 x.2.2.2.2.2.2.2.2.2.2.2.2.2.2.2.2.2.1 x.2.2.2.2.2.2.2.2.2.2.2.2.2.2.2.2.2.2.1) n ((l0, (most1, ((), ((), ((), ((), ((), (g9, ())))))))), ((ob0_0, (ob0_1, ((), ((), ((), ((), ((), ()))))))), ((ob1_0, (ob1_1, ((), ((), ((), ((), ((), ()))))))), ((ob2_0, ()), ((ob3_0, ((), ((), ((), ())))), (ob4, (ob5, (ob6, (ob7, (ob8, (ob9, (ob10, (ob11, (ob12, (ob13, (ob14, (ob15, (ob16, (ob17, ())))))))))))))))))))
theorem zy8 : zyr = zmN := by
 (repeat (apply funext; intro _))
 simp only [zyr, zmN, zy7, zad, zag, zah, zaf, zak, zal, zaH, zaq]
theorem ziT (N n : Nat) (l0 : List UInt8) (most1 g9 ob0_0 ob0_1 ob1_0 ob1_1 ob2_0 ob3_0 : Int) (ob4 : Fr) (ob5 : List Row) (ob6 : List Pr) (ob7 ob8 : List Fr) (ob9 : List Stp) (ob10 : List Row) (ob11 : List Pr) (ob12 ob13 : List Fr) (ob14 : List Stp) (ob15 ob16 : List Row) (ob17 : List Pr) : zmN N (n + 1) l0 most1 g9 ob0_0 ob0_1 ob1_0 ob1_1 ob2_0 ob3_0 ob4 ob5 ob6 ob7 ob8 ob9 ob10 ob11 ob12 ob13 ob14 ob15 ob16 ob17 = zkN N (zmN N n) l0 most1 g9 ob0_0 ob0_1 ob1_0 ob1_1 ob2_0 ob3_0 ob4 ob5 ob6 ob7 ob8 ob9 ob10 ob11 ob12 ob13 ob14 ob15 ob16 ob17 := rfl
def q95 (N : Nat) (l0 : List UInt8) (most1 : Int) : Option ((Int × Int × List Row × List Pr × List Fr × List Fr × List Stp × Unit) × Unit) :=
 Option.bind (q173 N (1 : UInt64)) fun rr0 => Option.bind (q186 N (0 : Int) l0 (200 : Int)) fun rr1 => Option.bind (q173 N ((u64I (rr1.2.1)))) fun rr2 => Option.bind (q185 N (0 : Int) (0 : Int) [] [] [] [] [] (0 : Int) [] [] [] (rr2.1)) fun rr3 => Option.bind (q186 N (rr1.1.1) l0 (2 : Int)) fun rr4 => Option.bind (q173 N ((u64I (rr4.2.1)))) fun rr5 => Option.bind (q185 N (rr3.1.1) (Prod.fst (rr3.1.2)) (Prod.fst (Prod.snd (rr3.1.2))) (Prod.fst (Prod.snd (Prod.snd (rr3.1.2)))) (Prod.fst (Prod.snd (Prod.snd (Prod.snd (rr3.1.2))))) (Prod.fst (Prod.snd (Prod.snd (Prod.snd (Prod.snd (rr3.1.2)))))) (Prod.fst (Prod.snd (Prod.snd (Prod.snd (Prod.snd (Prod.snd (rr3.1.2))))))) (Prod.fst (rr3.2.1)) (Prod.fst (Prod.snd (rr3.2.1))) (Prod.fst (Prod.snd (Prod.snd (rr3.2.1)))) (Prod.fst (Prod.snd (Prod.snd (Prod.snd (rr3.2.1))))) (rr5.1)) fun rr6 => zmN N N l0 most1 (0 : Int) (0 : Int) (0 : Int) (rr6.1.1) (Prod.fst (rr6.1.2)) (rr4.1.1) (Prod.fst (rr6.2.1)) (rr0.1) [] [] [] [] [] (Prod.fst (Prod.snd (rr6.1.2))) (Prod.fst (Prod.snd (Prod.snd (rr6.1.2)))) (Prod.fst (Prod.snd (Prod.snd (Prod.snd (rr6.1.2))))) (Prod.fst (Prod.snd (Prod.snd (Prod.snd (Prod.snd (rr6.1.2)))))) (Prod.fst (Prod.snd (Prod.snd (Prod.snd (Prod.snd (Prod.snd (rr6.1.2))))))) (Prod.fst (Prod.snd (rr6.2.1))) (Prod.fst (Prod.snd (Prod.snd (rr6.2.1)))) (Prod.fst (Prod.snd (Prod.snd (Prod.snd (rr6.2.1)))))
theorem zCo : p95 = q95 := by
 (repeat (apply funext; intro _))
 simp only [p95, q95, hide_eq, zy8, zkF, zwP, zwN, zad, zag, zah, zaf, zak, zal, zaH, zaq]
def ziU (N : Nat) (A_2 : Int -> Int -> Int -> (List Row) -> (List Pr) -> Option (Int × Unit)) (k3 ob0_0 ob0_1 : Int) (ob0_2 : List Row) (ob0_3 : List Pr) : Option (Int × Unit) :=
 cond ((ltI k3 (6 : Int))) (must (leI (0 : Int) k3) (must (ltI k3 (18446744073709551616 : Int)) (cond ((ltI ((shlI (1 : Int) (UInt64.toNat (UInt64.ofNat k3.toNat)))) (↑ob0_2.length : Int))) (A_2 ((wr (k3 + (1 : Int)))) ob0_0 ob0_1 ob0_2 ob0_3) (some ((k3, ())))))) (some ((k3, ())))
theorem zvG : zrK = ziU := by
 (repeat (apply funext; intro _))
 simp only [zrK, ziU, hide_eq, zad, zag, zah, zaf, zak, zal, zaH, zaq]
def ziV (N n : Nat) (k3 ob0_0 ob0_1 : Int) (ob0_2 : List Row) (ob0_3 : List Pr) : Option (Int × Unit) :=
 zan (fun A x => ziU N (fun k3 ob0_0 ob0_1 ob0_2 ob0_3 => A (((), (k3, ())), ((ob0_0, (ob0_1, (ob0_2, (ob0_3, ())))), ()))) x.1.2.1 x.2.1.1 x.2.1.2.1 x.2.1.2.2.1 x.2.1.2.2.2.1) n (((), (k3, ())), ((ob0_0, (ob0_1, (ob0_2, (ob0_3, ())))), ()))
theorem zvH : zrL = ziV := by
 (repeat (apply funext; intro _))
 simp only [zrL, ziV, zvG, zad, zag, zah, zaf, zak, zal, zaH, zaq]
theorem zhv (N n : Nat) (k3 ob0_0 ob0_1 : Int) (ob0_2 : List Row) (ob0_3 : List Pr) : ziV N (n + 1) k3 ob0_0 ob0_1 ob0_2 ob0_3 = ziU N (ziV N n) k3 ob0_0 ob0_1 ob0_2 ob0_3 := rfl
def q121 (N : Nat) (c0 v1 : Int) (v2 : List Row) (v3 : List Pr) : Option (Int × Unit) :=
 ziV N N (1 : Int) c0 v1 v2 v3
theorem zCp : p121 = q121 := by
 (repeat (apply funext; intro _))
 simp only [p121, q121, zvH, zad, zag, zah, zaf, zak, zal, zaH, zaq]
end
section
def zcg (w : Int) : Row := Row.mk Fr.zero ⟨1, 0, 0, 0⟩ Fr.zero Fr.zero Fr.zero Fr.zero Fr.zero Fr.zero w (-1) (-1)
theorem zvI (N : Nat) (w : Int) : q108 N (Stp.mk 7 w 0 0 Fr.zero Fr.zero Fr.zero Fr.zero Fr.zero) = some ([zcg w], 0, ()) := by kernel_rfl
theorem zvJ (N : Nat) (w : Int) : q197 N (Stp.mk 7 w 0 0 Fr.zero Fr.zero Fr.zero Fr.zero Fr.zero) = some ([zcg w], 0, ()) := by kernel_rfl
def rq (r : Row) : Nat -> Fr
 | 0 => r.q0 | 1 => r.q1 | 2 => r.q2 | 3 => r.q3 | 4 => r.q4 | 5 => r.q5 | 6 => r.q6 | _ => r.q7
def rw3 (r : Row) : Nat -> Int
 | 0 => r.w0 | 1 => r.w1 | _ => r.w2
def bg (x : Fr) : Bool := !decide (fv x < RR)
def bigR (r : Row) : Bool := bg r.q0 || bg r.q1 || bg r.q2 || bg r.q3 || bg r.q4 || bg r.q5 || bg r.q6 || bg r.q7
def unkR (V : Int) (r : Row) : Bool := leI V r.w0 || leI V r.w1 || leI V r.w2
def unkP (V : Int) (p : Pr) : Bool := ltI p.x 0 || leI V p.x || (ltI p.y 0 || leI V p.y)
def lowR (r : Row) : Bool := ltI r.w0 (-1) || ltI r.w1 (-1) || ltI r.w2 (-1)
def zdA (r : Row) : Bool := ltI r.w0 0 || !zaH r (zcg r.w0)
def zdb (P : Int) : Nat -> List Row -> Bool
 | _, [] => false
 | i, r :: l => (lowR r || (ltI (i : Int) P && zdA r)) || zdb P (i + 1) l
def mayF (c0 v1 : Int) (v2 : List Row) (v3 : List Pr) : Int :=
 cond (ltI 8 c0 || ltI 200 v1 || ltI 64 (v2.length : Int) || ltI 200 (v3.length : Int)) 8
  (cond (ltI c0 0 || ltI v1 0 || ltI (v2.length : Int) c0) 1
   (cond (v2.any bigR) 4 (cond (v2.any (unkR v1) || v3.any (unkP v1)) 10 (cond (zdb c0 0 v2) 3 0))))
section ref
variable {N : Nat} (hN : 2000 <= N) (c0 v1 : Int) (v2 : List Row) (v3 : List Pr)
include hN
theorem zdB (A : Bool -> Bool -> Bool -> Int -> Int -> Int -> (List Row) -> (List Pr) -> Option (Int × Unit)) (n : Nat) (b u f : Bool) (i : Int) (r : Row) (k : Nat) (hk : k < 8) :
  zda N A (n + 1) b u f i (k : Int) c0 v1 v2 v3 r = zda N A n (b || bg (rq r k)) u f i ((k + 1 : Nat) : Int) c0 v1 v2 v3 r := by
 rw [zfV]
 unfold zfp
 rw [zab (by omega : (k : Int) < 8), cond_true]
 cases b with
 | true => rw [cond_true, zar (by omega), Bool.true_or]
 | false =>
  rw [cond_false, Bool.false_or]
  simp only [zsB (show 10 < N by omega), bsm]
  match k, hk with
  | 0, _ => rfl
  | 1, _ => rfl
  | 2, _ => rfl
  | 3, _ => rfl
  | 4, _ => rfl
  | 5, _ => rfl
  | 6, _ => rfl
  | 7, _ => rfl
theorem zCq (A : Bool -> Bool -> Bool -> Int -> Int -> Int -> (List Row) -> (List Pr) -> Option (Int × Unit)) (b u f : Bool) (i : Int) (r : Row) :
  zda N A N b u f i 0 c0 v1 v2 v3 r = zcf N A N (b || bigR r) u f i 0 c0 v1 v2 v3 r := by
 obtain ⟨n, hn⟩ : ∃ n, N = n + 1 + 1 + 1 + 1 + 1 + 1 + 1 + 1 + 1 := ⟨N - 9, by omega⟩
 have e : ∀ M, M = n + 1 + 1 + 1 + 1 + 1 + 1 + 1 + 1 + 1 -> zda N A M b u f i ((0 : Nat) : Int) c0 v1 v2 v3 r = zcf N A N (b || bigR r) u f i 0 c0 v1 v2 v3 r := by
  rintro M rfl
  rw [zdB hN c0 v1 v2 v3 A _ _ _ _ _ _ 0 (by omega), zdB hN c0 v1 v2 v3 A _ _ _ _ _ _ 1 (by omega), zdB hN c0 v1 v2 v3 A _ _ _ _ _ _ 2 (by omega), zdB hN c0 v1 v2 v3 A _ _ _ _ _ _ 3 (by omega), zdB hN c0 v1 v2 v3 A _ _ _ _ _ _ 4 (by omega), zdB hN c0 v1 v2 v3 A _ _ _ _ _ _ 5 (by omega), zdB hN c0 v1 v2 v3 A _ _ _ _ _ _ 6 (by omega), zdB hN c0 v1 v2 v3 A _ _ _ _ _ _ 7 (by omega)]
  rw [zfV]
  unfold zfp
  rw [zaa (by omega), cond_false]
  unfold bigR
  simp only [Bool.or_assoc, rq]
 exact e N hn
theorem zmO (A : Bool -> Bool -> Bool -> Int -> Int -> Int -> (List Row) -> (List Pr) -> Option (Int × Unit)) (n : Nat) (b u f : Bool) (i : Int) (r : Row) (k : Nat) (hk : k < 3) :
  zcf N A (n + 1) b u f i (k : Int) c0 v1 v2 v3 r = zcf N A n b (u || leI v1 (rw3 r k)) (f || ltI (rw3 r k) (-1)) i ((k + 1 : Nat) : Int) c0 v1 v2 v3 r := by
 have _ := hN
 rw [zfU]
 unfold zfo
 rw [zab (by omega : (k : Int) < 3), cond_true]
 cases u <;> cases f <;> simp only [cond_true, cond_false, Bool.true_or, Bool.false_or]
 all_goals first | rw [zar (by omega)] | skip
 all_goals
  match k, hk with
  | 0, _ => rfl
  | 1, _ => rfl
  | 2, _ => rfl
theorem zCr (A : Bool -> Bool -> Bool -> Int -> Int -> Int -> (List Row) -> (List Pr) -> Option (Int × Unit)) (b u f : Bool) (i : Nat) (hi : i < 1000000) (r : Row) :
  zcf N A N b u f (i : Int) 0 c0 v1 v2 v3 r = A b (u || unkR v1 r) (f || (lowR r || (ltI (i : Int) c0 && zdA r))) ((i + 1 : Nat) : Int) c0 v1 v2 v3 := by
 obtain ⟨n, hn⟩ : ∃ n, N = n + 1 + 1 + 1 + 1 := ⟨N - 4, by omega⟩
 have e : ∀ M, M = n + 1 + 1 + 1 + 1 -> zcf N A M b u f (i : Int) ((0 : Nat) : Int) c0 v1 v2 v3 r = A b (u || unkR v1 r) (f || (lowR r || (ltI (i : Int) c0 && zdA r))) ((i + 1 : Nat) : Int) c0 v1 v2 v3 := by
  rintro M rfl
  rw [zmO hN c0 v1 v2 v3 A _ _ _ _ _ _ 0 (by omega), zmO hN c0 v1 v2 v3 A _ _ _ _ _ _ 1 (by omega), zmO hN c0 v1 v2 v3 A _ _ _ _ _ _ 2 (by omega)]
  rw [zfU]
  unfold zfo
  rw [zaa (by omega), cond_false, zvJ]
  simp only [bsm]
  rw [zar (by omega), show List.length [zcg r.w0] = 1 from rfl, zab (show (0 : Int) < ((1 : Nat) : Int) by omega), show [zcg r.w0].getD 0 zrow = zcg r.w0 from rfl, mst2]
  unfold unkR lowR zdA
  simp only [rw3, Bool.or_assoc]
  cases f <;> cases ltI r.w0 (-1) <;> cases ltI r.w1 (-1) <;> cases ltI r.w2 (-1) <;> cases ltI (i : Int) c0 <;> cases ltI r.w0 0 <;> rfl
 exact e N hn
theorem zCs : ∀ (l : List Row) (i n : Nat) (b u f : Bool), v2.drop i = l -> i + l.length = v2.length -> l.length < n -> v2.length < 1000000 ->
  ziS N n b u f (i : Int) c0 v1 v2 v3 = zek N N (b || l.any bigR) (u || l.any (unkR v1)) (f || zdb c0 i l) 0 c0 v1 v2 v3
 | [], i, n + 1, b, u, f, hd, hl, hn, hb => by
  simp only [List.length_nil] at hl
  rw [zht]
  unfold ziR
  rw [zaa (by omega), cond_false]
  simp [zdb]
 | r :: l, i, n + 1, b, u, f, hd, hl, hn, hb => by
  have hi : i < v2.length := by simp only [List.length_cons] at hl; omega
  have hr : v2.getD i zrow = r := by
   rw [List.drop_eq_getElem_cons hi] at hd
   rw [List.getD_eq_getElem?_getD, List.getElem?_eq_getElem hi]
   exact (List.cons.inj hd).1
  have hd' : v2.drop (i + 1) = l := by
   rw [List.drop_eq_getElem_cons hi] at hd
   exact (List.cons.inj hd).2
  rw [zht]
  unfold ziR
  rw [zab (by omega : (i : Int) < (v2.length : Int)), cond_true, zas, zdt, Int.toNat_natCast, hr, zCq hN, zCr hN c0 v1 v2 v3 _ _ _ _ i (by omega) r]
  rw [zCs l (i + 1) n _ _ _ hd' (by simp only [List.length_cons] at hl; omega) (by simp only [List.length_cons] at hn; omega) hb]
  simp only [List.any_cons, zdb, Bool.or_assoc]
theorem zCt (A : Bool -> Bool -> Bool -> Int -> Int -> Int -> (List Row) -> (List Pr) -> Option (Int × Unit)) (b u f : Bool) (i : Nat) (hi : i < v3.length) (hb : v3.length < 1000000) :
  zce N A N b u f (i : Int) 0 c0 v1 v2 v3 = A b (u || unkP v1 (v3.getD i ⟨0, 0⟩)) f ((i + 1 : Nat) : Int) c0 v1 v2 v3 := by
 obtain ⟨n, hn⟩ : ∃ n, N = n + 1 + 1 + 1 := ⟨N - 3, by omega⟩
 have e : ∀ M, M = n + 1 + 1 + 1 -> zce N A M b u f (i : Int) 0 c0 v1 v2 v3 = A b (u || unkP v1 (v3.getD i ⟨0, 0⟩)) f ((i + 1 : Nat) : Int) c0 v1 v2 v3 := by
  rintro M rfl
  have s0 : zce N A (n + 1 + 1 + 1) b u f (i : Int) 0 c0 v1 v2 v3 = zce N A (n + 1 + 1) b (u || (ltI (v3.getD i ⟨0, 0⟩).x 0 || leI v1 (v3.getD i ⟨0, 0⟩).x)) f (i : Int) 1 c0 v1 v2 v3 := by
   rw [zdz]
   unfold zej
   rw [zab (by omega : (0 : Int) < 2), cond_true, zas, zab (by omega : (i : Int) < (v3.length : Int)), Int.toNat_natCast]
   cases u
   ·simp only [cond_false, Bool.false_or, zdt]
    cases ltI (v3.getD i ⟨0, 0⟩).x 0 <;> rfl
   ·rfl
  have s1 : ∀ u', zce N A (n + 1 + 1) b u' f (i : Int) 1 c0 v1 v2 v3 = zce N A (n + 1) b (u' || (ltI (v3.getD i ⟨0, 0⟩).y 0 || leI v1 (v3.getD i ⟨0, 0⟩).y)) f (i : Int) 2 c0 v1 v2 v3 := by
   intro u'
   rw [zdz]
   unfold zej
   rw [zab (by omega : (1 : Int) < 2), cond_true, zas, zab (by omega : (i : Int) < (v3.length : Int)), Int.toNat_natCast]
   cases u'
   ·simp only [cond_false, Bool.false_or, zdt]
    cases ltI (v3.getD i ⟨0, 0⟩).y 0 <;> rfl
   ·rfl
  rw [s0, s1, zdz]
  unfold zej
  rw [zaa (by omega), cond_false, zar (by omega)]
  unfold unkP
  rw [Bool.or_assoc]
 exact e N hn
theorem zwQ : ∀ (l : List Pr) (i n : Nat) (b u f : Bool), v3.drop i = l -> i + l.length = v3.length -> l.length < n -> v3.length < 1000000 ->
  zek N n b u f (i : Int) c0 v1 v2 v3 = some (cond b 4 (cond (u || l.any (unkP v1)) 10 (cond f 3 0)), ())
 | [], i, n + 1, b, u, f, hd, hl, hn, hb => by
  simp only [List.length_nil] at hl
  rw [zfT]
  unfold zfn
  rw [zaa (by omega), cond_false]
  cases b <;> cases u <;> cases f <;> rfl
 | r :: l, i, n + 1, b, u, f, hd, hl, hn, hb => by
  have hi : i < v3.length := by simp only [List.length_cons] at hl; omega
  have hr : v3.getD i ⟨0, 0⟩ = r := by
   rw [List.drop_eq_getElem_cons hi] at hd
   rw [List.getD_eq_getElem?_getD, List.getElem?_eq_getElem hi]
   exact (List.cons.inj hd).1
  have hd' : v3.drop (i + 1) = l := by
   rw [List.drop_eq_getElem_cons hi] at hd
   exact (List.cons.inj hd).2
  rw [zfT]
  unfold zfn
  rw [zab (by omega : (i : Int) < (v3.length : Int)), cond_true, zCt hN c0 v1 v2 v3 _ _ _ _ i hi hb, hr]
  rw [zwQ l (i + 1) n _ _ _ hd' (by simp only [List.length_cons] at hl; omega) (by simp only [List.length_cons] at hn; omega) hb]
  simp only [List.any_cons, Bool.or_assoc]
theorem zy9 : q130 N c0 v1 v2 v3 = some (mayF c0 v1 v2 v3, ()) := by
 unfold q130 mayF
 cases h1 : ltI 8 c0
 case true => rfl
 cases h2 : ltI 200 v1
 case true => rfl
 cases h3 : ltI 64 (v2.length : Int)
 case true => rfl
 cases h4 : ltI 200 (v3.length : Int)
 case true => rfl
 cases h5 : ltI c0 0
 case true => rfl
 cases h6 : ltI v1 0
 case true => rfl
 cases h7 : ltI (v2.length : Int) c0
 case true => rfl
 have l3 : v2.length <= 64 := by
  have := of_decide_eq_false h3
  omega
 have l4 : v3.length <= 200 := by
  have := of_decide_eq_false h4
  omega
 simp only [cond_false, Bool.or_self]
 have e := zCs hN c0 v1 v2 v3 v2 0 N false false false rfl (by omega) (by omega) (by omega)
 have e2 := fun b u f => zwQ hN c0 v1 v2 v3 v3 0 N b u f rfl (by omega) (by omega) (by omega)
 refine e.trans ((e2 _ _ _).trans ?_)
 simp only [Bool.false_or]
end ref
end
section
theorem zmP {α : Type} (a b : Bool) (x y : α) : cond a x (cond b x y) = cond (a || b) x y := by cases a <;> rfl
theorem zza (x y z : Int) : ltI (mnI x y) z = (ltI x z || ltI y z) := by
 have e : ∀ a b : Int, ltI a b = decide (a < b) := fun _ _ => rfl
 unfold mnI
 by_cases h : y < x
 ·rw [zab h, cond_true]
  by_cases h2 : y < z
  ·rw [zab h2, Bool.or_true]
  ·rw [zaa h2, zaa (show ¬ x < z by omega)]; rfl
 ·rw [zaa h, cond_false]
  by_cases h2 : x < z
  ·rw [zab h2, Bool.true_or]
  ·rw [zaa h2, zaa (show ¬ y < z by omega)]; rfl
theorem zEr (x y z : Int) : leI z (mxI x y) = (leI z x || leI z y) := by
 by_cases h : x < y
 ·rw [show mxI x y = y by unfold mxI; first | rw [zab h, cond_true] | (simp [ltI, leI]; omega)]
  by_cases h2 : z <= y
  ·rw [zaA h2, Bool.or_true]
  ·rw [zaF h2, zaF (show ¬ z <= x by omega)]; rfl
 ·rw [show mxI x y = x by unfold mxI; first | rw [zaa h, cond_false] | (simp [ltI, leI]; omega)]
  by_cases h2 : z <= x
  ·rw [zaA h2, Bool.true_or]
  ·rw [zaF h2, zaF (show ¬ z <= y by omega)]; rfl
theorem zEs (x y : Int) : leI x y = !ltI y x := by
 by_cases h : y < x
 ·rw [zab h, zaF (by omega)]; rfl
 ·rw [zaa h, zaA (by omega)]; rfl
theorem zs8 {l : List Row} {r : Row} {m : List Row} {i : Nat} (hd : m.drop i = r :: l) (hi : i < m.length) : m.getD i zrow = r /\ m.drop (i + 1) = l := by
 rw [List.drop_eq_getElem_cons hi] at hd
 refine ⟨?_, (List.cons.inj hd).2⟩
 rw [List.getD_eq_getElem?_getD, List.getElem?_eq_getElem hi]
 exact (List.cons.inj hd).1
theorem zEt {l : List Pr} {r : Pr} {m : List Pr} {i : Nat} (hd : m.drop i = r :: l) (hi : i < m.length) : m.getD i ⟨0, 0⟩ = r /\ m.drop (i + 1) = l := by
 rw [List.drop_eq_getElem_cons hi] at hd
 refine ⟨?_, (List.cons.inj hd).2⟩
 rw [List.getD_eq_getElem?_getD, List.getElem?_eq_getElem hi]
 exact (List.cons.inj hd).1
section prog
variable {N : Nat} (hN : 2000 <= N) (c0 v1 : Int) (v2 : List Row) (v3 : List Pr)
include hN
theorem zbq (A : (List Row) -> Int -> Int -> Option (Bool × Unit)) (n : Nat) (t8 : List Row) (t9 t10 : Int) (q : List Fr) (hq : q.length = 8) (k : Nat) (hk : k < 8) :
  zeQ N A (n + 1) t8 t9 t10 q (k : Int) = cond (bg (q.getD k Fr.zero)) (some (false, ())) (zeQ N A n t8 t9 t10 q ((k + 1 : Nat) : Int)) := by
 rw [zhl]
 unfold ziE
 rw [zab (by omega : (k : Int) < 8), cond_true, zas, zab (by omega : (k : Int) < ((8 : Nat) : Int)), hq, zab (by omega : (k : Int) < ((8 : Nat) : Int)), zar (by omega), Int.toNat_natCast, zB1 (show 10 < N by omega)]
 simp only [bsm, Bool.and_self, mst2]
 rfl
theorem zs9 (A : (List Row) -> Int -> Int -> Option (Bool × Unit)) (t8 : List Row) (t9 t10 : Int) (r : Row) :
  zeQ N A N t8 t9 t10 [r.q0, r.q1, r.q2, r.q3, r.q4, r.q5, r.q6, r.q7] 0 = cond (bigR r) (some (false, ())) (A t8 t9 (wr (t10 + 1))) := by
 obtain ⟨n, hn⟩ : ∃ n, N = n + 1 + 1 + 1 + 1 + 1 + 1 + 1 + 1 + 1 := ⟨N - 9, by omega⟩
 have e : ∀ M, M = n + 1 + 1 + 1 + 1 + 1 + 1 + 1 + 1 + 1 -> zeQ N A M t8 t9 t10 [r.q0, r.q1, r.q2, r.q3, r.q4, r.q5, r.q6, r.q7] ((0 : Nat) : Int) = cond (bigR r) (some (false, ())) (A t8 t9 (wr (t10 + 1))) := by
  rintro M rfl
  have hl : [r.q0, r.q1, r.q2, r.q3, r.q4, r.q5, r.q6, r.q7].length = 8 := rfl
  rw [zbq hN A _ _ _ _ _ hl 0 (by omega), zbq hN A _ _ _ _ _ hl 1 (by omega), zbq hN A _ _ _ _ _ hl 2 (by omega), zbq hN A _ _ _ _ _ hl 3 (by omega), zbq hN A _ _ _ _ _ hl 4 (by omega), zbq hN A _ _ _ _ _ hl 5 (by omega), zbq hN A _ _ _ _ _ hl 6 (by omega), zbq hN A _ _ _ _ _ hl 7 (by omega), zhl]
  unfold ziE
  rw [zaa (by omega), cond_false]
  simp only [zmP]
  unfold bigR
  simp only [Bool.or_assoc]
  rfl
 exact e N hn
theorem zkO : ∀ (l : List Row) (i n : Nat), v2.drop i = l -> i + l.length = v2.length -> l.length < n -> v2.length < 1000000 ->
  ziG N n v2 (v2.length : Int) (i : Int) = some (!l.any bigR, ())
 | [], i, n + 1, hd, hl, hn, hb => by
  simp only [List.length_nil] at hl
  rw [zhm]
  unfold ziF
  rw [zaa (by omega), cond_false]
  rfl
 | r :: l, i, n + 1, hd, hl, hn, hb => by
  simp only [List.length_cons] at hl hn
  obtain ⟨hr, hd'⟩ := zs8 hd (by omega)
  rw [zhm]
  unfold ziF
  rw [zab (by omega : (i : Int) < (v2.length : Int)), cond_true, zas, zdt, Int.toNat_natCast, hr, zs9 hN, zar (by omega), zkO l (i + 1) n hd' (by omega) (by omega) hb, List.any_cons]
  cases bigR r <;> rfl
theorem zzb (hb : v2.length < 1000) : q200 N c0 v1 v2 v3 = some (!v2.any bigR, ()) :=
 zkO hN v2 v2 0 N rfl (by omega) (by omega) (by omega)
theorem zfq (A : (List Row) -> Int -> Int -> Int -> Int -> (List Row) -> (List Pr) -> Option (Bool × Unit)) (n : Nat) (t8 : List Row) (t9 t10 : Int) (q : List Int) (hq : q.length = 3) (k : Nat) (hk : k < 3) :
  zeR N A (n + 1) t8 t9 t10 q (k : Int) c0 v1 v2 v3 = cond (leI v1 (q.getD k 0)) (some (false, ())) (zeR N A n t8 t9 t10 q ((k + 1 : Nat) : Int) c0 v1 v2 v3) := by
 have _ := hN
 rw [zhn]
 unfold ziH
 rw [zab (by omega : (k : Int) < 3), cond_true, zas, zab (by omega : (k : Int) < ((3 : Nat) : Int)), hq, zab (by omega : (k : Int) < ((3 : Nat) : Int)), zar (by omega), Int.toNat_natCast]
 simp only [Bool.and_self, mst2]
theorem zta (A : (List Row) -> Int -> Int -> Int -> Int -> (List Row) -> (List Pr) -> Option (Bool × Unit)) (t8 : List Row) (t9 t10 : Int) (r : Row) :
  zeR N A N t8 t9 t10 [r.w0, r.w1, r.w2] 0 c0 v1 v2 v3 = cond (unkR v1 r) (some (false, ())) (A t8 t9 (wr (t10 + 1)) c0 v1 v2 v3) := by
 obtain ⟨n, hn⟩ : ∃ n, N = n + 1 + 1 + 1 + 1 := ⟨N - 4, by omega⟩
 have e : ∀ M, M = n + 1 + 1 + 1 + 1 -> zeR N A M t8 t9 t10 [r.w0, r.w1, r.w2] ((0 : Nat) : Int) c0 v1 v2 v3 = cond (unkR v1 r) (some (false, ())) (A t8 t9 (wr (t10 + 1)) c0 v1 v2 v3) := by
  rintro M rfl
  have hl : [r.w0, r.w1, r.w2].length = 3 := rfl
  rw [zfq hN c0 v1 v2 v3 A _ _ _ _ _ hl 0 (by omega), zfq hN c0 v1 v2 v3 A _ _ _ _ _ hl 1 (by omega), zfq hN c0 v1 v2 v3 A _ _ _ _ _ hl 2 (by omega), zhn]
  unfold ziH
  rw [zaa (by omega), cond_false]
  simp only [zmP]
  unfold unkR
  simp only [Bool.or_assoc]
  rfl
 exact e N hn
theorem ziW : ∀ (l : List Pr) (i n : Nat), v3.drop i = l -> i + l.length = v3.length -> l.length < n -> v3.length < 1000000 ->
  zeh N n v3 (v3.length : Int) (i : Int) c0 v1 v2 v3 = some (!l.any (unkP v1), ())
 | [], i, n + 1, hd, hl, hn, hb => by
  have _ := hN
  simp only [List.length_nil] at hl
  rw [zfO]
  unfold zfj
  rw [zaa (by omega), cond_false]
  rfl
 | r :: l, i, n + 1, hd, hl, hn, hb => by
  simp only [List.length_cons] at hl hn
  obtain ⟨hr, hd'⟩ := zEt hd (by omega)
  rw [zfO]
  unfold zfj
  rw [zab (by omega : (i : Int) < (v3.length : Int)), cond_true, zas, zdt, Int.toNat_natCast, hr, zar (by omega), ziW l (i + 1) n hd' (by omega) (by omega) hb, List.any_cons, zza, zEr]
  unfold unkP
  cases ltI r.x 0 <;> cases ltI r.y 0 <;> cases leI v1 r.x <;> cases leI v1 r.y <;> rfl
theorem zkP : ∀ (l : List Row) (i n : Nat), v2.drop i = l -> i + l.length = v2.length -> l.length < n -> v2.length < 1000000 ->
  ziJ N n v2 (v2.length : Int) (i : Int) c0 v1 v2 v3 = cond (l.any (unkR v1)) (some (false, ())) (zeh N N v3 (v3.length : Int) 0 c0 v1 v2 v3)
 | [], i, n + 1, hd, hl, hn, hb => by
  simp only [List.length_nil] at hl
  rw [zho]
  unfold ziI
  rw [zaa (by omega), cond_false]
  rfl
 | r :: l, i, n + 1, hd, hl, hn, hb => by
  simp only [List.length_cons] at hl hn
  obtain ⟨hr, hd'⟩ := zs8 hd (by omega)
  rw [zho]
  unfold ziI
  rw [zab (by omega : (i : Int) < (v2.length : Int)), cond_true, zas, zdt, Int.toNat_natCast, hr, zta hN, zar (by omega), zkP l (i + 1) n hd' (by omega) (by omega) hb, List.any_cons, zmP]
theorem zzc (hb : v2.length < 1000) (hb3 : v3.length < 1000) : q201 N c0 v1 v2 v3 = some (!(v2.any (unkR v1) || v3.any (unkP v1)), ()) := by
 refine (zkP hN c0 v1 v2 v3 v2 0 N rfl (by omega) (by omega) (by omega)).trans ?_
 have e := ziW hN c0 v1 v2 v3 v3 0 N rfl (by omega) (by omega) (by omega)
 cases v2.any (unkR v1)
 ·exact e
 ·rfl
theorem zzd (r : Row) : q220 N r = some (!zdA r, ()) := by
 have _ := hN
 unfold q220 zdA
 rw [zvI]
 simp only [bsm]
 rw [show List.length [zcg r.w0] = 1 from rfl, zab (show (0 : Int) < ((1 : Nat) : Int) by omega), show [zcg r.w0].getD 0 zrow = zcg r.w0 from rfl, mst2, zEs]
 cases ltI r.w0 0 <;> simp
theorem zkQ : ∀ (l : List Row) (i n : Nat), v2.drop i = l -> i + l.length = v2.length -> l.length < n -> v2.length < 1000000 ->
  ziL N n v2 (v2.length : Int) (i : Int) c0 v1 v2 v3 = some (!zdb c0 i l, ())
 | [], i, n + 1, hd, hl, hn, hb => by
  simp only [List.length_nil] at hl
  rw [zhp]
  unfold ziK
  rw [zaa (by omega), cond_false]
  rfl
 | r :: l, i, n + 1, hd, hl, hn, hb => by
  simp only [List.length_cons] at hl hn
  obtain ⟨hr, hd'⟩ := zs8 hd (by omega)
  rw [zhp]
  unfold ziK
  rw [zab (by omega : (i : Int) < (v2.length : Int)), cond_true, zas, zdt, Int.toNat_natCast, hr, zak, zzd hN, zar (by omega), zkQ l (i + 1) n hd' (by omega) (by omega) hb, zza, zza]
  simp only [bsm, Bool.not_not]
  rw [show zdb c0 i (r :: l) = ((lowR r || (ltI (i : Int) c0 && zdA r)) || zdb c0 (i + 1) l) from rfl]
  unfold lowR
  cases ltI (i : Int) c0 <;> cases zdA r <;> cases ltI r.w0 (-1) <;> cases ltI r.w1 (-1) <;> cases ltI r.w2 (-1) <;> rfl
theorem zze (hb : v2.length < 1000) : q202 N c0 v1 v2 v3 = some (!zdb c0 0 v2, ()) :=
 zkQ hN c0 v1 v2 v3 v2 0 N rfl (by omega) (by omega) (by omega)
theorem zmQ (hb : v2.length < 1000) (hb3 : v3.length < 1000) : q119 N c0 v1 v2 v3 = some (mayF c0 v1 v2 v3, ()) := by
 unfold q119 mayF
 rw [zzb hN c0 v1 v2 v3 hb, zzc hN c0 v1 v2 v3 hb hb3, zze hN c0 v1 v2 v3 hb]
 simp only [bsm, Bool.not_not]
 generalize ltI 8 c0 = a1
 generalize ltI 200 v1 = a2
 generalize ltI 64 (v2.length : Int) = a3
 generalize ltI 200 (v3.length : Int) = a4
 generalize ltI c0 0 = a5
 generalize ltI v1 0 = a6
 generalize ltI (v2.length : Int) c0 = a7
 generalize v2.any bigR = b1
 generalize (v2.any (unkR v1) || v3.any (unkP v1)) = b2
 generalize zdb c0 0 v2 = b3
 cases a1 <;> cases a2 <;> cases a3 <;> cases a4 <;> simp only [cond_true, cond_false, Bool.true_or, Bool.or_true, Bool.false_or, Bool.or_false]
 cases a5 <;> cases a6 <;> cases a7 <;> simp only [cond_true, cond_false, Bool.true_or, Bool.or_true, Bool.false_or, Bool.or_false]
 cases b1 <;> cases b2 <;> cases b3 <;> rfl
end prog
structure GoodCirc (c0 v1 : Int) (v2 : List Row) (v3 : List Pr) : Prop where
 p0 : 0 <= c0
 p8 : c0 <= 8
 v0 : 0 <= v1
 v200 : v1 <= 200
 rows : v2.length <= 64
 same : v3.length <= 200
 pub : c0 <= (v2.length : Int)
 big : v2.any bigR = false
 unk : v2.any (unkR v1) = false
 unkp : v3.any (unkP v1) = false
 form : zdb c0 0 v2 = false
theorem GoodCirc.may {c0 v1 : Int} {v2 : List Row} {v3 : List Pr} (h : GoodCirc c0 v1 v2 v3) : mayF c0 v1 v2 v3 = 0 := by
 have := h.p0
 have := h.p8
 have := h.v0
 have := h.v200
 have := h.rows
 have := h.same
 have := h.pub
 unfold mayF
 rw [zaa (by omega : ¬ 8 < c0), zaa (by omega : ¬ 200 < v1), zaa (by omega : ¬ 64 < (v2.length : Int)), zaa (by omega : ¬ 200 < (v3.length : Int)), zaa (by omega : ¬ c0 < 0), zaa (by omega : ¬ v1 < 0), zaa (by omega : ¬ (v2.length : Int) < c0), h.big, h.unk, h.unkp, h.form]
 rfl
theorem GoodCirc.pairs {c0 v1 : Int} {v2 : List Row} {v3 : List Pr} (h : GoodCirc c0 v1 v2 v3) {V : Nat} (hV : v1 = (V : Int)) : zbK v3 V := by
 intro p hp
 have h2 := List.any_eq_false.mp h.unkp p hp
 unfold unkP at h2
 simp only [Bool.or_eq_true, not_or, Bool.not_eq_true] at h2
 obtain ⟨⟨a, b⟩, c, d⟩ := h2
 have := of_decide_eq_false a
 have := of_decide_eq_false b
 have := of_decide_eq_false c
 have := of_decide_eq_false d
 subst hV
 omega
theorem zkR {P : Int} : ∀ {l : List Row} {i : Nat}, zdb P i l = false -> ∀ r ∈ l, lowR r = false
 | [], _, _, r, hr => absurd hr (by simp)
 | x :: l, i, h, r, hr => by
  unfold zdb at h
  simp only [Bool.or_eq_false_iff] at h
  rcases List.mem_cons.mp hr with rfl | hr
  ·exact h.1.1
  ·exact zkR h.2 r hr
theorem GoodCirc.vars {c0 v1 : Int} {v2 : List Row} {v3 : List Pr} (h : GoodCirc c0 v1 v2 v3) {r : Row} (hr : r ∈ v2) (j : Nat) : -1 <= rw3 r j /\ rw3 r j < v1 := by
 have h1 := List.any_eq_false.mp h.unk r hr
 have h2 := zkR h.form r hr
 unfold unkR at h1
 unfold lowR at h2
 simp only [Bool.or_eq_true, not_or, Bool.not_eq_true] at h1
 simp only [Bool.or_eq_false_iff] at h2
 obtain ⟨⟨a, b⟩, c⟩ := h1
 obtain ⟨⟨a', b'⟩, c'⟩ := h2
 have := of_decide_eq_false a
 have := of_decide_eq_false b
 have := of_decide_eq_false c
 have := of_decide_eq_false a'
 have := of_decide_eq_false b'
 have := of_decide_eq_false c'
 match j with
 | 0 => exact ⟨by simp only [rw3]; omega, by simp only [rw3]; omega⟩
 | 1 => exact ⟨by simp only [rw3]; omega, by simp only [rw3]; omega⟩
 | _ + 2 => exact ⟨by simp only [rw3]; omega, by simp only [rw3]; omega⟩
end
section
def up (m j i : Nat) (v : Int) (o : List Int) : List Int := if j = m then setL o i v else o
theorem ztb (m j i : Nat) (v : Int) (o : List Int) : (up m j i v o).length = o.length := by
 unfold up
 split
 ·rw [zaQ]
 ·rfl
theorem cell {n j i : Nat} (hi : i < n) : (j * n + i) / n = j /\ (j * n + i) % n = i := by
 have h0 : 0 < n := by omega
 refine ⟨?_, ?_⟩
 ·rw [Nat.mul_comm, Nat.mul_add_div h0, Nat.div_eq_of_lt hi, Nat.add_zero]
 ·rw [Nat.mul_comm, Nat.mul_add_mod, Nat.mod_eq_of_lt hi]
structure PInv (k : Nat -> Int) (V n a : Nat) (fi la : List Int) (O : Nat -> Int) : Prop where
 lf : fi.length = V
 ll : la.length = V
 F : ∀ c : Nat, c < V -> (fi.getD c 0 = -1 /\ ∀ z, z < a -> k z ≠ c) \/ ∃ f g : Nat, fi.getD c 0 = f /\ la.getD c 0 = g /\ f <= g /\ g < a /\ k f = c /\ k g = c /\ (∀ z, z < f -> k z ≠ c) /\ ∀ z, g < z -> z < a -> k z ≠ c
 O : ∀ z, z < a -> (k z < 0 /\ O z = z) \/ ∃ c : Nat, c < V /\ k z = c /\ ((∃ y : Nat, z < y /\ y < a /\ k y = c /\ (∀ w, z < w -> w < y -> k w ≠ c) /\ O z = y) \/ ((∀ w, z < w -> w < a -> k w ≠ c) /\ O z = fi.getD c 0))
def varC (rows : List Row) (n z : Nat) : Int := if rows.length <= z % n then -1 else rw3 (rows.getD (z % n) zrow) (z / n)
end
section
def Len3 (n j : Nat) (o0 o1 o2 : List Int) : Prop := o0.length = n /\ (1 <= j -> o1.length = n) /\ (2 <= j -> o2.length = n)
theorem Len3.up {n j : Nat} {o0 o1 o2 : List Int} (h : Len3 n j o0 o1 o2) (q i : Nat) (v : Int) : Len3 n j (up 0 q i v o0) (up 1 q i v o1) (up 2 q i v o2) :=
 ⟨by rw [ztb]; exact h.1, fun hj => by rw [ztb]; exact h.2.1 hj, fun hj => by rw [ztb]; exact h.2.2 hj⟩
structure Ground (cl : List Int) (rows : List Row) (n V : Nat) : Prop where
 n1 : 1 <= n
 n64 : n <= 64
 rl : rows.length <= n
 lc : cl.length = V
 cc : ∀ v : Nat, v < V -> ∃ c : Nat, c < V /\ cl.getD v 0 = (c : Int)
 vars : ∀ r ∈ rows, ∀ j, -1 <= rw3 r j /\ rw3 r j < (V : Int)
theorem zkS {rows : List Row} {i : Nat} (h : i < rows.length) : rows.getD i zrow ∈ rows := by
 rw [List.getD_eq_getElem?_getD, List.getElem?_eq_getElem h]
 exact List.getElem_mem h
end
section
theorem zCu {q : Nat} (h : q < 9223372036854775807) : wr (q : Int) = (q : Int) := zec (by omega) (by omega)
theorem zmR {N L z : Nat} (c0 v1 : Int) (rows : List Row) (S : List Pr) (h6 : L <= 6) (hz : z < 3 * 2 ^ L) : q189 N c0 v1 rows S (L : Int) (z : Int) = some (varC rows (2 ^ L) z, ()) := by
 have hp := zc8 L
 have hle := zaZ h6
 have hm : z % 2 ^ L < 2 ^ L := Nat.mod_lt _ hp
 have hq : z / 2 ^ L < 3 := Nat.div_lt_of_lt_mul (by omega)
 have hd : z / 2 ^ L <= z := Nat.div_le_self _ _
 unfold q189 varC
 rw [zas, zab (by omega : (L : Int) < 18446744073709551616), sh1' h6, zaV (by omega : ¬ ((2 ^ L : Nat) : Int) = 0), zgc, znK, zCu (Nat.lt_of_le_of_lt hd (by omega)), Int.toNat_natCast, zas]
 simp only [Bool.not_false, mst2]
 by_cases h : rows.length <= z % 2 ^ L
 ·rw [zaA (by omega), cond_true, if_pos h]
 ·rw [zaF (by omega), cond_false, if_neg h, zab (by omega), show (true && true) = true from rfl, mst2]
  obtain ⟨q, hqq⟩ : ∃ q, z / 2 ^ L = q := ⟨_, rfl⟩
  rw [hqq] at hq
  rw [hqq]
  obtain rfl | rfl | rfl : q = 0 \/ q = 1 \/ q = 2 := by omega
  ·rfl
  ·rfl
  ·rfl
def ap (m q : Nat) (y : Int) (o : List Int) : List Int := if q = m then o ++ [y] else o
def LenP (n x : Nat) (o0 o1 o2 : List Int) : Prop := o0.length = min x n /\ o1.length = min (x - n) n /\ o2.length = x - 2 * n
theorem LenP.ap {n x : Nat} {y : Int} {o0 o1 o2 : List Int} (h : LenP n x o0 o1 o2) (hx : x < 3 * n) : LenP n (x + 1) (ap 0 (x / n) y o0) (ap 1 (x / n) y o1) (ap 2 (x / n) y o2) := by
 obtain ⟨h0, h1, h2⟩ := h
 have hd := Nat.div_add_mod x n
 have hm : x % n < n := Nat.mod_lt _ (by omega)
 have hq : x / n < 3 := Nat.div_lt_of_lt_mul (by omega)
 obtain ⟨q, hqq⟩ : ∃ q, x / n = q := ⟨_, rfl⟩
 rw [hqq] at hq hd
 rw [hqq]
 obtain rfl | rfl | rfl : q = 0 \/ q = 1 \/ q = 2 := by omega
 ·refine ⟨?_, ?_, ?_⟩
  ·show (o0 ++ [y]).length = _
   rw [List.length_append, List.length_singleton, h0]; omega
  ·show o1.length = _
   rw [h1]; omega
  ·show o2.length = _
   rw [h2]; omega
 ·refine ⟨?_, ?_, ?_⟩
  ·show o0.length = _
   rw [h0]; omega
  ·show (o1 ++ [y]).length = _
   rw [List.length_append, List.length_singleton, h1]; omega
  ·show o2.length = _
   rw [h2]; omega
 ·refine ⟨?_, ?_, ?_⟩
  ·show o0.length = _
   rw [h0]; omega
  ·show o1.length = _
   rw [h1]; omega
  ·show (o2 ++ [y]).length = _
   rw [List.length_append, List.length_singleton, h2]; omega
end
section
instance : Big 100000 := ⟨by omega⟩
end
end Go.Proofs.Ytgimohchocjgcaa.V
