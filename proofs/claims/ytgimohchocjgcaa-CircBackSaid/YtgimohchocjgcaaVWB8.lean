import Derived.Test.YtgimohchocjgcaaVWC1
import Derived.Test.YtgimohchocjgcaaVBQ1
import Derived.KernelRfl
import Derived.Test.YtgimohchocjgcaaVCP1
import Derived.Test.YtgimohchocjgcaaVWB4
set_option linter.unusedVariables false
set_option linter.unusedSimpArgs false
namespace Go.Proofs.Ytgimohchocjgcaa.V
section
def zcd (N : Nat) (A_10 : Int -> Int -> Stp -> (List Bool) -> Option (Int × Unit)) (vars1 i7 : Int) (ob0 : Stp) (ob1 : List Bool) : Option (Int × Unit) :=
  cond ((ltI i7 (3 : Int))) (must (leI (0 : Int) i7 && ltI i7 (↑(3 : Nat) : Int)) (cond (List.getD ob1 i7.toNat false) (cond (eqI i7 (↑(0 : Nat) : Int)) (must (eqI i7 (↑(0 : Nat) : Int)) (cond ((leI vars1 ob0.v0)) (some (((10 : Int), ()))) (cond ((ltI ob0.v0 (0 : Int))) (cond (!eqI ob0.kind (2 : Int)) (some (((10 : Int), ()))) (A_10 vars1 ((wr ((↑(0 : Nat) : Int) + (1 : Int)))) (ob0) ob1)) (A_10 vars1 ((wr ((↑(0 : Nat) : Int) + (1 : Int)))) (ob0) ob1)))) (cond (eqI i7 (↑((0 : Nat) + (1 : Nat)) : Int)) (must (eqI i7 (↑((0 : Nat) + (1 : Nat)) : Int)) (cond ((leI vars1 ob0.v1)) (some (((10 : Int), ()))) (cond ((ltI ob0.v1 (0 : Int))) (cond (!eqI ob0.kind (2 : Int)) (some (((10 : Int), ()))) (A_10 vars1 ((wr ((↑((0 : Nat) + (1 : Nat)) : Int) + (1 : Int)))) (ob0) ob1)) (A_10 vars1 ((wr ((↑((0 : Nat) + (1 : Nat)) : Int) + (1 : Int)))) (ob0) ob1)))) (must (eqI i7 (↑((0 : Nat) + (1 : Nat) + (1 : Nat)) : Int)) (must (eqI i7 (↑((0 : Nat) + (1 : Nat) + (1 : Nat)) : Int)) (cond ((leI vars1 ob0.v2)) (some (((10 : Int), ()))) (cond ((ltI ob0.v2 (0 : Int))) (cond (!eqI ob0.kind (2 : Int)) (some (((10 : Int), ()))) (A_10 vars1 ((wr ((↑((0 : Nat) + (1 : Nat) + (1 : Nat)) : Int) + (1 : Int)))) (ob0) ob1)) (A_10 vars1 ((wr ((↑((0 : Nat) + (1 : Nat) + (1 : Nat)) : Int) + (1 : Int)))) (ob0) ob1))))))) (A_10 vars1 ((wr (i7 + (1 : Int)))) (ob0) ob1))) (some (((0 : Int), ())))
theorem zst : zmD = zcd := by
  (repeat (apply funext; intro _))
  simp only [zmD, zcd, hide_eq, zaf, zah, zai, zag, zal, zam, zaP, zaw]
def za1 (N n : Nat) (vars1 i7 : Int) (ob0 : Stp) (ob1 : List Bool) : Option (Int × Unit) :=
  zar (fun A x => zcd N (fun vars1 i7 ob0 ob1 => A ((vars1, ((), ((), (i7, ())))), (ob0, (ob1, ())))) x.1.1 x.1.2.2.2.1 x.2.1 x.2.2.1) n ((vars1, ((), ((), (i7, ())))), (ob0, (ob1, ())))
theorem zsu : zfv = za1 := by
  (repeat (apply funext; intro _))
  simp only [zfv, za1, zst, zaf, zah, zai, zag, zal, zam, zaP, zaw]
theorem zcQ (N n : Nat) (vars1 i7 : Int) (ob0 : Stp) (ob1 : List Bool) : za1 N (n + 1) vars1 i7 ob0 ob1 = zcd N (za1 N n) vars1 i7 ob0 ob1 := rfl
def zbs (N : Nat) (A_4 : Int -> Int -> Stp -> Option (Int × Unit)) (vars1 i5 : Int) (ob0 : Stp) : Option (Int × Unit) :=
  cond ((ltI i5 (5 : Int))) (cond (eqI i5 (↑(0 : Nat) : Int)) (must (eqI i5 (↑(0 : Nat) : Int)) (Option.bind (q69 N (ob0.q0)) fun rr4 => cond (!rr4.1) (some (((4 : Int), ()))) (A_4 vars1 ((wr ((↑(0 : Nat) : Int) + (1 : Int)))) (ob0)))) (cond (eqI i5 (↑((0 : Nat) + (1 : Nat)) : Int)) (must (eqI i5 (↑((0 : Nat) + (1 : Nat)) : Int)) (Option.bind (q69 N (ob0.q1)) fun rr3 => cond (!rr3.1) (some (((4 : Int), ()))) (A_4 vars1 ((wr ((↑((0 : Nat) + (1 : Nat)) : Int) + (1 : Int)))) (ob0)))) (cond (eqI i5 (↑((0 : Nat) + (1 : Nat) + (1 : Nat)) : Int)) (must (eqI i5 (↑((0 : Nat) + (1 : Nat) + (1 : Nat)) : Int)) (Option.bind (q69 N (ob0.q2)) fun rr2 => cond (!rr2.1) (some (((4 : Int), ()))) (A_4 vars1 ((wr ((↑((0 : Nat) + (1 : Nat) + (1 : Nat)) : Int) + (1 : Int)))) (ob0)))) (cond (eqI i5 (↑((0 : Nat) + (1 : Nat) + (1 : Nat) + (1 : Nat)) : Int)) (must (eqI i5 (↑((0 : Nat) + (1 : Nat) + (1 : Nat) + (1 : Nat)) : Int)) (Option.bind (q69 N (ob0.q3)) fun rr1 => cond (!rr1.1) (some (((4 : Int), ()))) (A_4 vars1 ((wr ((↑((0 : Nat) + (1 : Nat) + (1 : Nat) + (1 : Nat)) : Int) + (1 : Int)))) (ob0)))) (must (eqI i5 (↑((0 : Nat) + (1 : Nat) + (1 : Nat) + (1 : Nat) + (1 : Nat)) : Int)) (must (eqI i5 (↑((0 : Nat) + (1 : Nat) + (1 : Nat) + (1 : Nat) + (1 : Nat)) : Int)) (Option.bind (q69 N (ob0.q4)) fun rr0 => cond (!rr0.1) (some (((4 : Int), ()))) (A_4 vars1 ((wr ((↑((0 : Nat) + (1 : Nat) + (1 : Nat) + (1 : Nat) + (1 : Nat)) : Int) + (1 : Int)))) (ob0))))))))) (cond ((eqI ob0.kind (2 : Int))) (cond ((eqI ob0.kind (2 : Int))) (za1 N N vars1 (0 : Int) (ob0) ([(ltI (1 : Int) ob0.kind), true, true])) (cond ((eqI ob0.kind (4 : Int))) (za1 N N vars1 (0 : Int) (ob0) ([(ltI (1 : Int) ob0.kind), true, true])) (za1 N N vars1 (0 : Int) (ob0) ([(ltI (1 : Int) ob0.kind), true, (eqI ob0.kind (5 : Int))])))) (cond ((eqI ob0.kind (5 : Int))) (cond ((eqI ob0.kind (2 : Int))) (za1 N N vars1 (0 : Int) (ob0) ([(ltI (1 : Int) ob0.kind), true, true])) (cond ((eqI ob0.kind (4 : Int))) (za1 N N vars1 (0 : Int) (ob0) ([(ltI (1 : Int) ob0.kind), true, true])) (za1 N N vars1 (0 : Int) (ob0) ([(ltI (1 : Int) ob0.kind), true, (eqI ob0.kind (5 : Int))])))) (cond ((eqI ob0.kind (2 : Int))) (za1 N N vars1 (0 : Int) (ob0) ([(ltI (1 : Int) ob0.kind), (eqI ob0.kind (6 : Int)), true])) (cond ((eqI ob0.kind (4 : Int))) (za1 N N vars1 (0 : Int) (ob0) ([(ltI (1 : Int) ob0.kind), (eqI ob0.kind (6 : Int)), true])) (za1 N N vars1 (0 : Int) (ob0) ([(ltI (1 : Int) ob0.kind), (eqI ob0.kind (6 : Int)), (eqI ob0.kind (5 : Int))]))))))
theorem zuV : zro = zbs := by
  (repeat (apply funext; intro _))
  simp only [zro, zbs, hide_eq, zsu, zCU, zaf, zah, zai, zag, zal, zam, zaP, zaw]
def zhx (N n : Nat) (vars1 i5 : Int) (ob0 : Stp) : Option (Int × Unit) :=
  zar (fun A x => zbs N (fun vars1 i5 ob0 => A ((vars1, ((), (i5, ()))), (ob0, ()))) x.1.1 x.1.2.2.1 x.2.1) n ((vars1, ((), (i5, ()))), (ob0, ()))
theorem zuW : zrp = zhx := by
  (repeat (apply funext; intro _))
  simp only [zrp, zhx, zuV, zaf, zah, zai, zag, zal, zam, zaP, zaw]
theorem zce (N n : Nat) (vars1 i5 : Int) (ob0 : Stp) : zhx N (n + 1) vars1 i5 ob0 = zbs N (zhx N n) vars1 i5 ob0 := rfl
def q196 (N : Nat) (s0 : Stp) (vars1 : Int) : Option (Int × Unit) :=
  cond ((ltI s0.kind (1 : Int))) (some (((11 : Int), ()))) (cond ((ltI (7 : Int) s0.kind)) (some (((11 : Int), ()))) (zhx N N vars1 (0 : Int) (s0)))
theorem zA9 : p196 = q196 := by
  (repeat (apply funext; intro _))
  simp only [p196, q196, hide_eq, zuW, zaf, zah, zai, zag, zal, zam, zaP, zaw]
def q115 (N : Nat) (b0 : Int) (s1 v2 : List Row) (v3 : List Pr) (v4 : Stp) : Option ((Int × List Row × List Row × List Pr × Unit) × Int × Int × Unit) :=
  Option.bind (q196 N (v4) b0) fun rr0 => cond (!eqI rr0.1 (0 : Int)) (some (((b0, s1, v2, v3, ()), (0 : Int), Prod.fst rr0, ()))) (Option.bind (q197 N (v4)) fun rr1 => cond ((ltI (64 : Int) ((wr ((wr ((↑s1.length : Int) + (↑v2.length : Int))) + (↑rr1.1.length : Int)))))) (some (((b0, s1, v2, v3, ()), (0 : Int), (8 : Int), ()))) (cond ((eqI v4.kind (1 : Int))) (cond ((leI (200 : Int) b0)) (some (((b0, s1, v2, v3, ()), (0 : Int), (8 : Int), ()))) (some ((((wr (b0 + (1 : Int))), s1, v2, v3, ()), (wr ((wr (b0 + (1 : Int))) - (1 : Int))), (0 : Int), ())))) (cond ((eqI v4.kind (6 : Int))) (cond ((leI (200 : Int) (↑v3.length : Int))) (some (((b0, s1, v2, v3, ()), (0 : Int), (8 : Int), ()))) (must (leN (((0 : Nat) + List.length v3) * (16 : Nat)) (140737488355328 : Nat)) (must (leN ((List.length v3 + List.length [Pr.mk v4.v0 v4.v1]) * (16 : Nat)) (140737488355328 : Nat)) (some (((b0, s1, v2, v3 ++ [Pr.mk v4.v0 v4.v1], ()), (0 : Int), (0 : Int), ())))))) (cond ((eqI v4.kind (7 : Int))) (cond ((leI (8 : Int) (↑s1.length : Int))) (some (((b0, s1, v2, v3, ()), (0 : Int), (8 : Int), ()))) (must (leN (((0 : Nat) + List.length s1) * (280 : Nat)) (140737488355328 : Nat)) (must (leN ((List.length s1 + List.length rr1.1) * (280 : Nat)) (140737488355328 : Nat)) (some (((b0, s1 ++ Prod.fst rr1, v2, v3, ()), (0 : Int), (0 : Int), ())))))) (must (leN (((0 : Nat) + List.length v2) * (280 : Nat)) (140737488355328 : Nat)) (must (leN ((List.length v2 + List.length rr1.1) * (280 : Nat)) (140737488355328 : Nat)) (some (((b0, s1, v2 ++ Prod.fst rr1, v3, ()), (0 : Int), (0 : Int), ())))))))))
theorem zBa : p115 = q115 := by
  (repeat (apply funext; intro _))
  simp only [p115, q115, hide_eq, zA9, zA6, zaf, zah, zai, zag, zal, zam, zaP, zaw]
def q118 (N : Nat) (b0 : Int) (v1 v2 : List Row) (v3 : List Pr) : Option (((Int × List Row × List Row × Unit) × Nat) × (Int × Int × List Row × List Pr × Unit) × Unit) :=
  must (leN (((0 : Nat) + List.length v1) * (280 : Nat)) (140737488355328 : Nat)) (must (leN ((List.length v1 + List.length v2) * (280 : Nat)) (140737488355328 : Nat)) (some ((((b0, v1, v2, ()), List.length v3), ((↑v1.length : Int), b0, v1 ++ v2, v3, ()), ()))))
theorem zBb : p118 = q118 := by
  (repeat (apply funext; intro _))
  simp only [p118, q118, zaf, zah, zai, zag, zal, zam, zaP, zaw]
def q186 (N : Nat) (l0 : Int) (n1 : List UInt8) (m2 : Int) : Option ((Int × Unit) × Int × Unit) :=
  cond ((leI (↑n1.length : Int) l0)) (some (((l0, ()), (0 : Int), ()))) (must (leI (0 : Int) ((wr ((wr (l0 + (1 : Int))) - (1 : Int)))) && ltI ((wr ((wr (l0 + (1 : Int))) - (1 : Int)))) (↑n1.length : Int)) (must (!eqI m2 (0 : Int)) (some ((((wr (l0 + (1 : Int))), ()), (Int.tmod ((↑(UInt8.toNat (List.getD n1 (Int.toNat ((wr ((wr (l0 + (1 : Int))) - (1 : Int))))) (0 : UInt8))) : Int)) m2), ())))))
theorem zvO : p186 = q186 := by
  (repeat (apply funext; intro _))
  simp only [p186, q186, hide_eq, zaf, zah, zai, zag, zal, zam, zaP, zaw]
def q187 (N : Nat) (m0 b1 : Int) (s2 : List Row) (val3 : List Pr) (v4 v5 : List Fr) (v6 : List Stp) (v7 : Int) (v8 v9 : List Row) (v10 : List Pr) (v11 : Stp) (v12 : Fr) : Option ((Int × Int × List Row × List Pr × List Fr × List Fr × List Stp × Unit) × (Int × List Row × List Row × List Pr × Unit) × Int × Unit) :=
  Option.bind (q115 N v7 v8 v9 v10 (v11)) fun rr0 => cond (!eqI (Prod.fst (rr0.2.2)) (0 : Int)) (some (((m0, b1, s2, val3, v4, v5, v6, ()), (Prod.fst rr0.1, Prod.fst (rr0.1.2), Prod.fst (Prod.snd (rr0.1.2)), Prod.fst (Prod.snd (Prod.snd (rr0.1.2))), ()), (0 : Int), ()))) (must (leN ((List.length v6 + List.length [v11]) * (192 : Nat)) (140737488355328 : Nat)) (cond ((eqI v11.kind (1 : Int))) (must (leN ((List.length v5 + List.length [v12]) * (32 : Nat)) (140737488355328 : Nat)) (some (((m0, b1, s2, val3, v4, v5 ++ [v12], v6 ++ [v11], ()), (Prod.fst rr0.1, Prod.fst (rr0.1.2), Prod.fst (Prod.snd (rr0.1.2)), Prod.fst (Prod.snd (Prod.snd (rr0.1.2))), ()), Prod.fst rr0.2, ())))) (some (((m0, b1, s2, val3, v4, v5, v6 ++ [v11], ()), (Prod.fst rr0.1, Prod.fst (rr0.1.2), Prod.fst (Prod.snd (rr0.1.2)), Prod.fst (Prod.snd (Prod.snd (rr0.1.2))), ()), Prod.fst rr0.2, ())))))
theorem zvP : p187 = q187 := by
  (repeat (apply funext; intro _))
  simp only [p187, q187, hide_eq, zBa, zaf, zah, zai, zag, zal, zam, zaP, zaw]
def q185 (N : Nat) (m0 b1 : Int) (val2 : List Row) (v3 : List Pr) (v4 v5 : List Fr) (v6 : List Stp) (v7 : Int) (v8 v9 : List Row) (v10 : List Pr) (v11 : Fr) : Option ((Int × Int × List Row × List Pr × List Fr × List Fr × List Stp × Unit) × (Int × List Row × List Row × List Pr × Unit) × Int × Unit) :=
  Option.bind (q187 N m0 b1 val2 v3 v4 v5 v6 v7 v8 v9 v10 (Stp.mk (1 : Int) (0 : Int) (0 : Int) (0 : Int) (Fr.zero) (Fr.zero) (Fr.zero) (Fr.zero) (Fr.zero)) (v11)) fun rr0 => some (((Prod.fst rr0.1, Prod.fst (rr0.1.2), Prod.fst (Prod.snd (rr0.1.2)), Prod.fst (Prod.snd (Prod.snd (rr0.1.2))), Prod.fst (Prod.snd (Prod.snd (Prod.snd (rr0.1.2)))), Prod.fst (Prod.snd (Prod.snd (Prod.snd (Prod.snd (rr0.1.2))))), Prod.fst (Prod.snd (Prod.snd (Prod.snd (Prod.snd (Prod.snd (rr0.1.2)))))), ()), (Prod.fst (rr0.2.1), Prod.fst (Prod.snd (rr0.2.1)), Prod.fst (Prod.snd (Prod.snd (rr0.2.1))), Prod.fst (Prod.snd (Prod.snd (Prod.snd (rr0.2.1)))), ()), Prod.fst (rr0.2.2), ()))
theorem zvQ : p185 = q185 := by
  (repeat (apply funext; intro _))
  simp only [p185, q185, zvP, zaf, zah, zai, zag, zal, zam, zaP, zaw]
def zk3 (N : Nat) (A_8 : (List UInt8) -> Int -> Int -> Int -> Int -> Int -> Int -> Int -> Int -> Fr -> (List Row) -> (List Pr) -> (List Fr) -> (List Fr) -> (List Stp) -> (List Row) -> (List Pr) -> (List Fr) -> (List Fr) -> (List Stp) -> (List Row) -> (List Row) -> (List Pr) -> Option ((Int × Int × List Row × List Pr × List Fr × List Fr × List Stp × Unit) × Unit)) (l0 : List UInt8) (most1 g9 ob0_0 ob0_1 ob1_0 ob1_1 ob2_0 ob3_0 : Int) (ob4 : Fr) (ob5 : List Row) (ob6 : List Pr) (ob7 ob8 : List Fr) (ob9 : List Stp) (ob10 : List Row) (ob11 : List Pr) (ob12 ob13 : List Fr) (ob14 : List Stp) (ob15 ob16 : List Row) (ob17 : List Pr) : Option ((Int × Int × List Row × List Pr × List Fr × List Fr × List Stp × Unit) × Unit) :=
  cond ((ltI g9 most1)) (cond ((ltI ob2_0 (↑l0.length : Int))) (Option.bind (q186 N ob2_0 l0 ((↑ob13.length : Int))) fun rr2 => let w2 := rr2.2.1; let w0 := List.getD ob13 (Int.toNat w2) (Fr.zero); let w1 := Fr.mk (Fr.a0 w0) (Fr.a1 w0) (Fr.a2 w0) (Fr.a3 w0); Option.bind (q186 N (rr2.1.1) l0 ((↑ob13.length : Int))) fun rr3 => let w3 := List.getD ob13 (Int.toNat (rr3.2.1)) (Fr.zero); let w4 := Fr.mk (Fr.a0 w3) (Fr.a1 w3) (Fr.a2 w3) (Fr.a3 w3); must (leI (0 : Int) w2 && ltI w2 (↑ob13.length : Int)) (must (leI (0 : Int) (rr3.2.1) && ltI (rr3.2.1) (↑ob13.length : Int)) (Option.bind (q186 N (rr3.1.1) l0 (7 : Int)) fun rr4 => let w5 := rr4.1.1; cond ((eqI (rr4.2.1) (0 : Int))) (Option.bind (q186 N w5 l0 (9 : Int)) fun rr20 => Option.bind (q173 N ((u64I (rr20.2.1)))) fun rr21 => Option.bind (q94 N w1 w4) fun rr22 => Option.bind (q94 N (rr21.1) w1) fun rr23 => Option.bind (q81 N (rr22.1) (rr23.1)) fun rr24 => Option.bind (q173 N (5 : UInt64)) fun rr25 => Option.bind (q81 N (rr24.1) (rr25.1)) fun rr26 => Option.bind (q185 N ob1_0 ob1_1 ob10 ob11 ob12 ob13 ob14 ob3_0 ob15 ob16 ob17 (rr26.1)) fun rr27 => let w6 := Prod.snd (Prod.snd (rr27.1.2)); Option.bind (q85 N (ob4)) fun rr28 => Option.bind (q173 N (5 : UInt64)) fun rr29 => Option.bind (q187 N (rr27.1.1) (Prod.fst (rr27.1.2)) (Prod.fst (Prod.snd (rr27.1.2))) (Prod.fst w6) (Prod.fst (Prod.snd w6)) (Prod.fst (Prod.snd (Prod.snd w6))) (Prod.fst (Prod.snd (Prod.snd (Prod.snd w6)))) (Prod.fst (rr27.2.1)) (Prod.fst (Prod.snd (rr27.2.1))) (Prod.fst (Prod.snd (Prod.snd (rr27.2.1)))) (Prod.fst (Prod.snd (Prod.snd (Prod.snd (rr27.2.1))))) (Stp.mk (2 : Int) w2 (rr3.2.1) (Prod.fst (rr27.2.2)) (ob4) (rr21.1) (Fr.zero) (rr28.1) (rr29.1)) (ob4)) fun rr30 => let w7 := Prod.snd (Prod.snd (rr30.1.2)); A_8 l0 most1 ((wr (g9 + (1 : Int)))) ob0_0 ob0_1 (rr30.1.1) (Prod.fst (rr30.1.2)) (rr20.1.1) (Prod.fst (rr30.2.1)) (ob4) ob5 ob6 ob7 ob8 ob9 (Prod.fst (Prod.snd (rr30.1.2))) (Prod.fst w7) (Prod.fst (Prod.snd w7)) (Prod.fst (Prod.snd (Prod.snd w7))) (Prod.fst (Prod.snd (Prod.snd (Prod.snd w7)))) (Prod.fst (Prod.snd (rr30.2.1))) (Prod.fst (Prod.snd (Prod.snd (rr30.2.1)))) (Prod.fst (Prod.snd (Prod.snd (Prod.snd (rr30.2.1)))))) (cond ((eqI (rr4.2.1) (1 : Int))) (Option.bind (q186 N w5 l0 (2 : Int)) fun rr16 => Option.bind (q173 N ((u64I (rr16.2.1)))) fun rr17 => Option.bind (q185 N ob1_0 ob1_1 ob10 ob11 ob12 ob13 ob14 ob3_0 ob15 ob16 ob17 (rr17.1)) fun rr18 => let w8 := Prod.snd (Prod.snd (rr18.1.2)); Option.bind (q187 N (rr18.1.1) (Prod.fst (rr18.1.2)) (Prod.fst (Prod.snd (rr18.1.2))) (Prod.fst w8) (Prod.fst (Prod.snd w8)) (Prod.fst (Prod.snd (Prod.snd w8))) (Prod.fst (Prod.snd (Prod.snd (Prod.snd w8)))) (Prod.fst (rr18.2.1)) (Prod.fst (Prod.snd (rr18.2.1))) (Prod.fst (Prod.snd (Prod.snd (rr18.2.1)))) (Prod.fst (Prod.snd (Prod.snd (Prod.snd (rr18.2.1))))) (Stp.mk (3 : Int) (Prod.fst (rr18.2.2)) (0 : Int) (0 : Int) (Fr.zero) (Fr.zero) (Fr.zero) (Fr.zero) (Fr.zero)) (ob4)) fun rr19 => let w9 := Prod.snd (Prod.snd (rr19.1.2)); A_8 l0 most1 ((wr (g9 + (1 : Int)))) ob0_0 ob0_1 (rr19.1.1) (Prod.fst (rr19.1.2)) (rr16.1.1) (Prod.fst (rr19.2.1)) (ob4) ob5 ob6 ob7 ob8 ob9 (Prod.fst (Prod.snd (rr19.1.2))) (Prod.fst w9) (Prod.fst (Prod.snd w9)) (Prod.fst (Prod.snd (Prod.snd w9))) (Prod.fst (Prod.snd (Prod.snd (Prod.snd w9)))) (Prod.fst (Prod.snd (rr19.2.1))) (Prod.fst (Prod.snd (Prod.snd (rr19.2.1)))) (Prod.fst (Prod.snd (Prod.snd (Prod.snd (rr19.2.1)))))) (cond ((eqI (rr4.2.1) (2 : Int))) (Option.bind (q73 N w1 ([(5 : UInt64)])) fun rr13 => Option.bind (q185 N ob1_0 ob1_1 ob10 ob11 ob12 ob13 ob14 ob3_0 ob15 ob16 ob17 (rr13.1)) fun rr14 => let w10 := Prod.snd (Prod.snd (rr14.1.2)); Option.bind (q187 N (rr14.1.1) (Prod.fst (rr14.1.2)) (Prod.fst (Prod.snd (rr14.1.2))) (Prod.fst w10) (Prod.fst (Prod.snd w10)) (Prod.fst (Prod.snd (Prod.snd w10))) (Prod.fst (Prod.snd (Prod.snd (Prod.snd w10)))) (Prod.fst (rr14.2.1)) (Prod.fst (Prod.snd (rr14.2.1))) (Prod.fst (Prod.snd (Prod.snd (rr14.2.1)))) (Prod.fst (Prod.snd (Prod.snd (Prod.snd (rr14.2.1))))) (Stp.mk (4 : Int) w2 (0 : Int) (Prod.fst (rr14.2.2)) (Fr.zero) (Fr.zero) (Fr.zero) (Fr.zero) (Fr.zero)) (ob4)) fun rr15 => let w11 := Prod.snd (Prod.snd (rr15.1.2)); A_8 l0 most1 ((wr (g9 + (1 : Int)))) ob0_0 ob0_1 (rr15.1.1) (Prod.fst (rr15.1.2)) w5 (Prod.fst (rr15.2.1)) (ob4) ob5 ob6 ob7 ob8 ob9 (Prod.fst (Prod.snd (rr15.1.2))) (Prod.fst w11) (Prod.fst (Prod.snd w11)) (Prod.fst (Prod.snd (Prod.snd w11))) (Prod.fst (Prod.snd (Prod.snd (Prod.snd w11)))) (Prod.fst (Prod.snd (rr15.2.1))) (Prod.fst (Prod.snd (Prod.snd (rr15.2.1)))) (Prod.fst (Prod.snd (Prod.snd (Prod.snd (rr15.2.1)))))) (cond ((eqI (rr4.2.1) (3 : Int))) (Option.bind (q81 N w1 w4) fun rr10 => Option.bind (q185 N ob1_0 ob1_1 ob10 ob11 ob12 ob13 ob14 ob3_0 ob15 ob16 ob17 (rr10.1)) fun rr11 => let w12 := Prod.snd (Prod.snd (rr11.1.2)); Option.bind (q187 N (rr11.1.1) (Prod.fst (rr11.1.2)) (Prod.fst (Prod.snd (rr11.1.2))) (Prod.fst w12) (Prod.fst (Prod.snd w12)) (Prod.fst (Prod.snd (Prod.snd w12))) (Prod.fst (Prod.snd (Prod.snd (Prod.snd w12)))) (Prod.fst (rr11.2.1)) (Prod.fst (Prod.snd (rr11.2.1))) (Prod.fst (Prod.snd (Prod.snd (rr11.2.1)))) (Prod.fst (Prod.snd (Prod.snd (Prod.snd (rr11.2.1))))) (Stp.mk (5 : Int) w2 (rr3.2.1) (Prod.fst (rr11.2.2)) (Fr.zero) (Fr.zero) (Fr.zero) (Fr.zero) (Fr.zero)) (ob4)) fun rr12 => let w13 := Prod.snd (Prod.snd (rr12.1.2)); A_8 l0 most1 ((wr (g9 + (1 : Int)))) ob0_0 ob0_1 (rr12.1.1) (Prod.fst (rr12.1.2)) w5 (Prod.fst (rr12.2.1)) (ob4) ob5 ob6 ob7 ob8 ob9 (Prod.fst (Prod.snd (rr12.1.2))) (Prod.fst w13) (Prod.fst (Prod.snd w13)) (Prod.fst (Prod.snd (Prod.snd w13))) (Prod.fst (Prod.snd (Prod.snd (Prod.snd w13)))) (Prod.fst (Prod.snd (rr12.2.1))) (Prod.fst (Prod.snd (Prod.snd (rr12.2.1)))) (Prod.fst (Prod.snd (Prod.snd (Prod.snd (rr12.2.1)))))) (cond ((eqI (rr4.2.1) (4 : Int))) (Option.bind (q185 N ob1_0 ob1_1 ob10 ob11 ob12 ob13 ob14 ob3_0 ob15 ob16 ob17 w1) fun rr8 => let w14 := Prod.snd (Prod.snd (rr8.1.2)); Option.bind (q187 N (rr8.1.1) (Prod.fst (rr8.1.2)) (Prod.fst (Prod.snd (rr8.1.2))) (Prod.fst w14) (Prod.fst (Prod.snd w14)) (Prod.fst (Prod.snd (Prod.snd w14))) (Prod.fst (Prod.snd (Prod.snd (Prod.snd w14)))) (Prod.fst (rr8.2.1)) (Prod.fst (Prod.snd (rr8.2.1))) (Prod.fst (Prod.snd (Prod.snd (rr8.2.1)))) (Prod.fst (Prod.snd (Prod.snd (Prod.snd (rr8.2.1))))) (Stp.mk (6 : Int) (Prod.fst (rr8.2.2)) w2 (0 : Int) (Fr.zero) (Fr.zero) (Fr.zero) (Fr.zero) (Fr.zero)) (ob4)) fun rr9 => let w15 := Prod.snd (Prod.snd (rr9.1.2)); A_8 l0 most1 ((wr (g9 + (1 : Int)))) ob0_0 ob0_1 (rr9.1.1) (Prod.fst (rr9.1.2)) w5 (Prod.fst (rr9.2.1)) (ob4) ob5 ob6 ob7 ob8 ob9 (Prod.fst (Prod.snd (rr9.1.2))) (Prod.fst w15) (Prod.fst (Prod.snd w15)) (Prod.fst (Prod.snd (Prod.snd w15))) (Prod.fst (Prod.snd (Prod.snd (Prod.snd w15)))) (Prod.fst (Prod.snd (rr9.2.1))) (Prod.fst (Prod.snd (Prod.snd (rr9.2.1)))) (Prod.fst (Prod.snd (Prod.snd (Prod.snd (rr9.2.1)))))) (cond ((eqI (rr4.2.1) (5 : Int))) (cond ((ltI (↑ob12.length : Int) (3 : Int))) (Option.bind (q187 N ob1_0 ob1_1 ob10 ob11 ob12 ob13 ob14 ob3_0 ob15 ob16 ob17 (Stp.mk (7 : Int) w2 (0 : Int) (0 : Int) (Fr.zero) (Fr.zero) (Fr.zero) (Fr.zero) (Fr.zero)) (ob4)) fun rr7 => let w16 := Prod.snd (Prod.snd (Prod.snd (rr7.1.2))); must (leN ((List.length (Prod.fst w16) + List.length [Fr.mk (Fr.a0 w0) (Fr.a1 w0) (Fr.a2 w0) (Fr.a3 w0)]) * (32 : Nat)) (140737488355328 : Nat)) (A_8 l0 most1 ((wr (g9 + (1 : Int)))) ob0_0 ob0_1 (rr7.1.1) (Prod.fst (rr7.1.2)) w5 (Prod.fst (rr7.2.1)) (ob4) ob5 ob6 ob7 ob8 ob9 (Prod.fst (Prod.snd (rr7.1.2))) (Prod.fst (Prod.snd (Prod.snd (rr7.1.2)))) (Prod.fst w16 ++ [Fr.mk (Fr.a0 w0) (Fr.a1 w0) (Fr.a2 w0) (Fr.a3 w0)]) (Prod.fst (Prod.snd w16)) (Prod.fst (Prod.snd (Prod.snd w16))) (Prod.fst (Prod.snd (rr7.2.1))) (Prod.fst (Prod.snd (Prod.snd (rr7.2.1)))) (Prod.fst (Prod.snd (Prod.snd (Prod.snd (rr7.2.1))))))) (A_8 l0 most1 ((wr (g9 + (1 : Int)))) ob0_0 ob0_1 ob1_0 ob1_1 w5 ob3_0 (ob4) ob5 ob6 ob7 ob8 ob9 ob10 ob11 ob12 ob13 ob14 ob15 ob16 ob17)) (Option.bind (q85 N (ob4)) fun rr5 => Option.bind (q187 N ob1_0 ob1_1 ob10 ob11 ob12 ob13 ob14 ob3_0 ob15 ob16 ob17 (Stp.mk (2 : Int) w2 (-5 : Int) w2 (Fr.zero) (ob4) (Fr.zero) (rr5.1) (Fr.zero)) (ob4)) fun rr6 => let w17 := Prod.snd (Prod.snd (rr6.1.2)); A_8 l0 most1 ((wr (g9 + (1 : Int)))) ob0_0 ob0_1 (rr6.1.1) (Prod.fst (rr6.1.2)) w5 (Prod.fst (rr6.2.1)) (ob4) ob5 ob6 ob7 ob8 ob9 (Prod.fst (Prod.snd (rr6.1.2))) (Prod.fst w17) (Prod.fst (Prod.snd w17)) (Prod.fst (Prod.snd (Prod.snd w17))) (Prod.fst (Prod.snd (Prod.snd (Prod.snd w17)))) (Prod.fst (Prod.snd (rr6.2.1))) (Prod.fst (Prod.snd (Prod.snd (rr6.2.1)))) (Prod.fst (Prod.snd (Prod.snd (Prod.snd (rr6.2.1)))))))))))))) (Option.bind (q118 N ob3_0 ob15 ob16 ob17) fun rr1 => some (((Prod.fst (rr1.2.1), Prod.fst (Prod.snd (rr1.2.1)), Prod.fst (Prod.snd (Prod.snd (rr1.2.1))), Prod.fst (Prod.snd (Prod.snd (Prod.snd (rr1.2.1)))), ob12, ob13, ob14, ()), ())))) (Option.bind (q118 N ob3_0 ob15 ob16 ob17) fun rr0 => some (((Prod.fst (rr0.2.1), Prod.fst (Prod.snd (rr0.2.1)), Prod.fst (Prod.snd (Prod.snd (rr0.2.1))), Prod.fst (Prod.snd (Prod.snd (Prod.snd (rr0.2.1)))), ob12, ob13, ob14, ()), ())))
theorem zx7 : zxl = zk3 := by
  (repeat (apply funext; intro _))
  simp only [zxl, zk3, hide_eq, zBb, znR, zvQ, zvO, zvP, zCV, zCW, zCY, zAB, zaf, zah, zai, zag, zal, zam, zaP, zaw]
def zmZ (N n : Nat) (l0 : List UInt8) (most1 g9 ob0_0 ob0_1 ob1_0 ob1_1 ob2_0 ob3_0 : Int) (ob4 : Fr) (ob5 : List Row) (ob6 : List Pr) (ob7 ob8 : List Fr) (ob9 : List Stp) (ob10 : List Row) (ob11 : List Pr) (ob12 ob13 : List Fr) (ob14 : List Stp) (ob15 ob16 : List Row) (ob17 : List Pr) : Option ((Int × Int × List Row × List Pr × List Fr × List Fr × List Stp × Unit) × Unit) :=
  zar (fun A x => zk3 N (fun l0 most1 g9 ob0_0 ob0_1 ob1_0 ob1_1 ob2_0 ob3_0 ob4 ob5 ob6 ob7 ob8 ob9 ob10 ob11 ob12 ob13 ob14 ob15 ob16 ob17 => A ((l0, (most1, ((), ((), ((), ((), ((), (g9, ())))))))), ((ob0_0, (ob0_1, ((), ((), ((), ((), ((), ()))))))), ((ob1_0, (ob1_1, ((), ((), ((), ((), ((), ()))))))), ((ob2_0, ()), ((ob3_0, ((), ((), ((), ())))), (ob4, (ob5, (ob6, (ob7, (ob8, (ob9, (ob10, (ob11, (ob12, (ob13, (ob14, (ob15, (ob16, (ob17, ())))))))))))))))))))) x.1.1 x.1.2.1 x.1.2.2.2.2.2.2.2.1 x.2.1.1 x.2.1.2.1 x.2.2.1.1 x.2.2.1.2.1 x.2.2.2.1.1 x.2.2.2.2.1.1 x.2.2.2.2.2.1 x.2.2.2.2.2.2.1 x.2.2.2.2.2.2.2.1 x.2.2.2.2.2.2.2.2.1 x.2.2.2.2.2.2.2.2.2.1 x.2.2.2.2.2.2.2.2.2.2.1 x.2.2.2.2.2.2.2.2.2.2.2.1 x.2.2.2.2.2.2.2.2.2.2.2.2.1 x.2.2.2.2.2.2.2.2.2.2.2.2.2.1 x.2.2.2.2.2.2.2.2.2.2.2.2.2.2.1 x.2.2.2.2.2.2.2.2.2.2.2.2.2.2.2.1 x.2.2.2.2.2.2.2.2.2.2.2.2.2.2.2.2.1 x.2.2.2.2.2.2.2.2.2.2.2.2.2.2.2.2.2.1 x.2.2.2.2.2.2.2.2.2.2.2.2.2.2.2.2.2.2.1) n ((l0, (most1, ((), ((), ((), ((), ((), (g9, ())))))))), ((ob0_0, (ob0_1, ((), ((), ((), ((), ((), ()))))))), ((ob1_0, (ob1_1, ((), ((), ((), ((), ((), ()))))))), ((ob2_0, ()), ((ob3_0, ((), ((), ((), ())))), (ob4, (ob5, (ob6, (ob7, (ob8, (ob9, (ob10, (ob11, (ob12, (ob13, (ob14, (ob15, (ob16, (ob17, ())))))))))))))))))))
theorem zx8 : zxm = zmZ := by
  (repeat (apply funext; intro _))
  simp only [zxm, zmZ, zx7, zaf, zah, zai, zag, zal, zam, zaP, zaw]
theorem ziR (N n : Nat) (l0 : List UInt8) (most1 g9 ob0_0 ob0_1 ob1_0 ob1_1 ob2_0 ob3_0 : Int) (ob4 : Fr) (ob5 : List Row) (ob6 : List Pr) (ob7 ob8 : List Fr) (ob9 : List Stp) (ob10 : List Row) (ob11 : List Pr) (ob12 ob13 : List Fr) (ob14 : List Stp) (ob15 ob16 : List Row) (ob17 : List Pr) : zmZ N (n + 1) l0 most1 g9 ob0_0 ob0_1 ob1_0 ob1_1 ob2_0 ob3_0 ob4 ob5 ob6 ob7 ob8 ob9 ob10 ob11 ob12 ob13 ob14 ob15 ob16 ob17 = zk3 N (zmZ N n) l0 most1 g9 ob0_0 ob0_1 ob1_0 ob1_1 ob2_0 ob3_0 ob4 ob5 ob6 ob7 ob8 ob9 ob10 ob11 ob12 ob13 ob14 ob15 ob16 ob17 := rfl
def q95 (N : Nat) (l0 : List UInt8) (most1 : Int) : Option ((Int × Int × List Row × List Pr × List Fr × List Fr × List Stp × Unit) × Unit) :=
  Option.bind (q173 N (1 : UInt64)) fun rr0 => Option.bind (q186 N (0 : Int) l0 (200 : Int)) fun rr1 => Option.bind (q173 N ((u64I (rr1.2.1)))) fun rr2 => Option.bind (q185 N (0 : Int) (0 : Int) [] [] [] [] [] (0 : Int) [] [] [] (rr2.1)) fun rr3 => Option.bind (q186 N (rr1.1.1) l0 (2 : Int)) fun rr4 => Option.bind (q173 N ((u64I (rr4.2.1)))) fun rr5 => Option.bind (q185 N (rr3.1.1) (Prod.fst (rr3.1.2)) (Prod.fst (Prod.snd (rr3.1.2))) (Prod.fst (Prod.snd (Prod.snd (rr3.1.2)))) (Prod.fst (Prod.snd (Prod.snd (Prod.snd (rr3.1.2))))) (Prod.fst (Prod.snd (Prod.snd (Prod.snd (Prod.snd (rr3.1.2)))))) (Prod.fst (Prod.snd (Prod.snd (Prod.snd (Prod.snd (Prod.snd (rr3.1.2))))))) (Prod.fst (rr3.2.1)) (Prod.fst (Prod.snd (rr3.2.1))) (Prod.fst (Prod.snd (Prod.snd (rr3.2.1)))) (Prod.fst (Prod.snd (Prod.snd (Prod.snd (rr3.2.1))))) (rr5.1)) fun rr6 => zmZ N N l0 most1 (0 : Int) (0 : Int) (0 : Int) (rr6.1.1) (Prod.fst (rr6.1.2)) (rr4.1.1) (Prod.fst (rr6.2.1)) (rr0.1) [] [] [] [] [] (Prod.fst (Prod.snd (rr6.1.2))) (Prod.fst (Prod.snd (Prod.snd (rr6.1.2)))) (Prod.fst (Prod.snd (Prod.snd (Prod.snd (rr6.1.2))))) (Prod.fst (Prod.snd (Prod.snd (Prod.snd (Prod.snd (rr6.1.2)))))) (Prod.fst (Prod.snd (Prod.snd (Prod.snd (Prod.snd (Prod.snd (rr6.1.2))))))) (Prod.fst (Prod.snd (rr6.2.1))) (Prod.fst (Prod.snd (Prod.snd (rr6.2.1)))) (Prod.fst (Prod.snd (Prod.snd (Prod.snd (rr6.2.1)))))
theorem zC0 : p95 = q95 := by
  (repeat (apply funext; intro _))
  simp only [p95, q95, hide_eq, zx8, znR, zvQ, zvO, zaf, zah, zai, zag, zal, zam, zaP, zaw]
end
section
def q141 (N : Nat) (k0 n1 : Int) : Option (Int × Unit) :=
  cond ((ltI n1 (1 : Int))) (some (((0 : Int), ()))) (must (!eqI n1 (0 : Int)) (cond ((ltI ((Int.tmod k0 n1)) (0 : Int))) (some (((wr ((Int.tmod k0 n1) + n1)), ()))) (some (((Int.tmod k0 n1), ())))))
theorem zBc : p141 = q141 := by
  (repeat (apply funext; intro _))
  simp only [p141, q141, hide_eq, zaf, zah, zai, zag, zal, zam, zaP, zaw]
def q37 (N : Nat) (l0 : List UInt8) (cut1 : Int) (more2 : UInt8) (b3 : List UInt8) : Option (Bool × Unit) :=
  Option.bind (q138 N) fun rr0 => cond (!rr0.1) (some ((false, ()))) (cond ((ltI (80 : Int) (↑l0.length : Int))) (some ((true, ()))) (cond ((ltI (3000 : Int) (↑b3.length : Int))) (some ((true, ()))) (Option.bind (q95 N l0 (14 : Int)) fun rr1 => Option.bind (q139 N (rr1.1.1) (Prod.fst (rr1.1.2)) (Prod.fst (Prod.snd (rr1.1.2))) (Prod.fst (Prod.snd (Prod.snd (rr1.1.2))))) fun rr2 => Option.bind (q140 N rr2.1) fun rr3 => Option.bind (q141 N cut1 ((↑rr2.1.length : Int))) fun rr4 => must (leI (0 : Int) rr4.1 && leI rr4.1 (↑rr2.1.length : Int)) (Option.bind (q140 N (List.take (Int.toNat (Prod.fst rr4 - (0 : Int))) rr2.1)) fun rr5 => must (leN (((0 : Nat) + List.length rr2.1) * (1 : Nat)) (140737488355328 : Nat)) (must (leN ((List.length rr2.1 + List.length [more2]) * (1 : Nat)) (140737488355328 : Nat)) (Option.bind (q140 N (Prod.fst rr2 ++ [more2])) fun rr6 => Option.bind (q140 N b3) fun rr7 => Option.bind (q139 N (rr7.1.1) (Prod.fst (rr7.1.2)) (Prod.fst (Prod.snd (rr7.1.2))) (Prod.fst (Prod.snd (Prod.snd (rr7.1.2))))) fun rr8 => cond ((eqI (rr2.2.1) (0 : Int))) (cond ((eqI (rr3.2.1) (0 : Int))) (Option.bind (q116 N (rr1.1.1) (Prod.fst (rr1.1.2)) (Prod.fst (Prod.snd (rr1.1.2))) (Prod.fst (Prod.snd (Prod.snd (rr1.1.2)))) (rr3.1.1) (Prod.fst (rr3.1.2)) (Prod.fst (Prod.snd (rr3.1.2))) (Prod.fst (Prod.snd (Prod.snd (rr3.1.2))))) fun rr9 => cond rr9.1 (cond ((eqI (rr5.2.1) (2 : Int))) (cond ((eqI (rr6.2.1) (3 : Int))) (cond (!eqI (rr7.2.1) (0 : Int)) (some ((true, ()))) (cond ((eqI (rr8.2.1) (0 : Int))) (some (((eqB rr8.1 b3), ()))) (some ((false, ()))))) (some ((false, ())))) (some ((false, ())))) (some ((false, ())))) (some ((false, ())))) (some ((false, ())))))))))
theorem zC1 : p37 = q37 := by
  (repeat (apply funext; intro _))
  simp only [p37, q37, hide_eq, zA8, zA7, zvM, zvN, zBc, zC0, zaf, zah, zai, zag, zal, zam, zaP, zaw]
end
section
def zdx (w : Int) : Row := Row.mk Fr.zero ⟨1, 0, 0, 0⟩ Fr.zero Fr.zero Fr.zero Fr.zero Fr.zero Fr.zero w (-1) (-1)
theorem zuX (N : Nat) (w : Int) : q108 N (Stp.mk 7 w 0 0 Fr.zero Fr.zero Fr.zero Fr.zero Fr.zero) = some ([zdx w], 0, ()) := by kernel_rfl
def rw3 (r : Row) : Nat -> Int
  | 0 => r.w0 | 1 => r.w1 | _ => r.w2
def bg (x : Fr) : Bool := !decide (fv x < RR)
def bigR (r : Row) : Bool := bg r.q0 || bg r.q1 || bg r.q2 || bg r.q3 || bg r.q4 || bg r.q5 || bg r.q6 || bg r.q7
def unkR (V : Int) (r : Row) : Bool := leI V r.w0 || leI V r.w1 || leI V r.w2
def unkP (V : Int) (p : Pr) : Bool := ltI p.x 0 || leI V p.x || (ltI p.y 0 || leI V p.y)
def lowR (r : Row) : Bool := ltI r.w0 (-1) || ltI r.w1 (-1) || ltI r.w2 (-1)
def zf7 (r : Row) : Bool := ltI r.w0 0 || !zaP r (zdx r.w0)
def zen (P : Int) : Nat -> List Row -> Bool
  | _, [] => false
  | i, r :: l => (lowR r || (ltI (i : Int) P && zf7 r)) || zen P (i + 1) l
def mayF (c0 v1 : Int) (v2 : List Row) (v3 : List Pr) : Int :=
  cond (ltI 8 c0 || ltI 200 v1 || ltI 64 (v2.length : Int) || ltI 200 (v3.length : Int)) 8
    (cond (ltI c0 0 || ltI v1 0 || ltI (v2.length : Int) c0) 1
      (cond (v2.any bigR) 4 (cond (v2.any (unkR v1) || v3.any (unkP v1)) 10 (cond (zen c0 0 v2) 3 0))))
section ref
variable {N : Nat} (hN : 2000 <= N) (c0 v1 : Int) (v2 : List Row) (v3 : List Pr)
include hN
end ref
end
section
theorem zm0 {α : Type} (a b : Bool) (x y : α) : cond a x (cond b x y) = cond (a || b) x y := by cases a <;> rfl
theorem zx9 (x y z : Int) : ltI (mnI x y) z = (ltI x z || ltI y z) := by
  have e : ∀ a b : Int, ltI a b = decide (a < b) := fun _ _ => rfl
  unfold mnI
  by_cases h : y < x
  . rw [zae h, cond_true]
    by_cases h2 : y < z
    . rw [zae h2, Bool.or_true]
    . rw [zad h2, zad (show ¬ x < z by omega)]; rfl
  . rw [zad h, cond_false]
    by_cases h2 : x < z
    . rw [zae h2, Bool.true_or]
    . rw [zad h2, zad (show ¬ y < z by omega)]; rfl
theorem zC2 (x y z : Int) : leI z (mxI x y) = (leI z x || leI z y) := by
  by_cases h : x < y
  . rw [show mxI x y = y by unfold mxI; first | rw [zae h, cond_true] | (simp [ltI, leI]; omega)]
    by_cases h2 : z <= y
    . rw [zbp h2, Bool.or_true]
    . rw [zaG h2, zaG (show ¬ z <= x by omega)]; rfl
  . rw [show mxI x y = x by unfold mxI; first | rw [zad h, cond_false] | (simp [ltI, leI]; omega)]
    by_cases h2 : z <= x
    . rw [zbp h2, Bool.true_or]
    . rw [zaG h2, zaG (show ¬ z <= y by omega)]; rfl
theorem zC3 (x y : Int) : leI x y = !ltI y x := by
  by_cases h : y < x
  . rw [zae h, zaG (by omega)]; rfl
  . rw [zad h, zbp (by omega)]; rfl
theorem zhy {l : List Row} {r : Row} {m : List Row} {i : Nat} (hd : m.drop i = r :: l) (hi : i < m.length) : m.getD i zrow = r /\ m.drop (i + 1) = l := by
  rw [List.drop_eq_getElem_cons hi] at hd
  refine ⟨?_, (List.cons.inj hd).2⟩
  rw [List.getD_eq_getElem?_getD, List.getElem?_eq_getElem hi]
  exact (List.cons.inj hd).1
theorem zsv {l : List Pr} {r : Pr} {m : List Pr} {i : Nat} (hd : m.drop i = r :: l) (hi : i < m.length) : m.getD i ⟨0, 0⟩ = r /\ m.drop (i + 1) = l := by
  rw [List.drop_eq_getElem_cons hi] at hd
  refine ⟨?_, (List.cons.inj hd).2⟩
  rw [List.getD_eq_getElem?_getD, List.getElem?_eq_getElem hi]
  exact (List.cons.inj hd).1
section prog
variable {N : Nat} (hN : 2000 <= N) (c0 v1 : Int) (v2 : List Row) (v3 : List Pr)
include hN
theorem zbJ (A : (List Row) -> Int -> Int -> Option (Bool × Unit)) (n : Nat) (t8 : List Row) (t9 t10 : Int) (q : List Fr) (hq : q.length = 8) (k : Nat) (hk : k < 8) :
    ze4 N A (n + 1) t8 t9 t10 q (k : Int) = cond (bg (q.getD k Fr.zero)) (some (false, ())) (ze4 N A n t8 t9 t10 q ((k + 1 : Nat) : Int)) := by
  rw [zhl]
  unfold ziA
  rw [zae (by omega : (k : Int) < 8), cond_true, zaq, zae (by omega : (k : Int) < ((8 : Nat) : Int)), hq, zae (by omega : (k : Int) < ((8 : Nat) : Int)), zaD (by omega), Int.toNat_natCast, zvK (show 10 < N by omega)]
  simp only [bsm, Bool.and_self, mst2]
  rfl
theorem zsw (A : (List Row) -> Int -> Int -> Option (Bool × Unit)) (t8 : List Row) (t9 t10 : Int) (r : Row) :
    ze4 N A N t8 t9 t10 [r.q0, r.q1, r.q2, r.q3, r.q4, r.q5, r.q6, r.q7] 0 = cond (bigR r) (some (false, ())) (A t8 t9 (wr (t10 + 1))) := by
  obtain ⟨n, hn⟩ : ∃ n, N = n + 1 + 1 + 1 + 1 + 1 + 1 + 1 + 1 + 1 := ⟨N - 9, by omega⟩
  have e : ∀ M, M = n + 1 + 1 + 1 + 1 + 1 + 1 + 1 + 1 + 1 -> ze4 N A M t8 t9 t10 [r.q0, r.q1, r.q2, r.q3, r.q4, r.q5, r.q6, r.q7] ((0 : Nat) : Int) = cond (bigR r) (some (false, ())) (A t8 t9 (wr (t10 + 1))) := by
    rintro M rfl
    have hl : [r.q0, r.q1, r.q2, r.q3, r.q4, r.q5, r.q6, r.q7].length = 8 := rfl
    rw [zbJ hN A _ _ _ _ _ hl 0 (by omega), zbJ hN A _ _ _ _ _ hl 1 (by omega), zbJ hN A _ _ _ _ _ hl 2 (by omega), zbJ hN A _ _ _ _ _ hl 3 (by omega), zbJ hN A _ _ _ _ _ hl 4 (by omega), zbJ hN A _ _ _ _ _ hl 5 (by omega), zbJ hN A _ _ _ _ _ hl 6 (by omega), zbJ hN A _ _ _ _ _ hl 7 (by omega), zhl]
    unfold ziA
    rw [zad (by omega), cond_false]
    simp only [zm0]
    unfold bigR
    simp only [Bool.or_assoc]
    rfl
  exact e N hn
theorem zk4 : ∀ (l : List Row) (i n : Nat), v2.drop i = l -> i + l.length = v2.length -> l.length < n -> v2.length < 1000000 ->
    ziC N n v2 (v2.length : Int) (i : Int) = some (!l.any bigR, ())
  | [], i, n + 1, hd, hl, hn, hb => by
    simp only [List.length_nil] at hl
    rw [zhm]
    unfold ziB
    rw [zad (by omega), cond_false]
    rfl
  | r :: l, i, n + 1, hd, hl, hn, hb => by
    simp only [List.length_cons] at hl hn
    obtain ⟨hr, hd'⟩ := zhy hd (by omega)
    rw [zhm]
    unfold ziB
    rw [zae (by omega : (i : Int) < (v2.length : Int)), cond_true, zaq, zbE, Int.toNat_natCast, hr, zsw hN, zaD (by omega), zk4 l (i + 1) n hd' (by omega) (by omega) hb, List.any_cons]
    cases bigR r <;> rfl
theorem zya (hb : v2.length < 1000) : q200 N c0 v1 v2 v3 = some (!v2.any bigR, ()) :=
  zk4 hN v2 v2 0 N rfl (by omega) (by omega) (by omega)
theorem zfG (A : (List Row) -> Int -> Int -> Int -> Int -> (List Row) -> (List Pr) -> Option (Bool × Unit)) (n : Nat) (t8 : List Row) (t9 t10 : Int) (q : List Int) (hq : q.length = 3) (k : Nat) (hk : k < 3) :
    ze5 N A (n + 1) t8 t9 t10 q (k : Int) c0 v1 v2 v3 = cond (leI v1 (q.getD k 0)) (some (false, ())) (ze5 N A n t8 t9 t10 q ((k + 1 : Nat) : Int) c0 v1 v2 v3) := by
  have _ := hN
  rw [zhn]
  unfold ziD
  rw [zae (by omega : (k : Int) < 3), cond_true, zaq, zae (by omega : (k : Int) < ((3 : Nat) : Int)), hq, zae (by omega : (k : Int) < ((3 : Nat) : Int)), zaD (by omega), Int.toNat_natCast]
  simp only [Bool.and_self, mst2]
theorem zsx (A : (List Row) -> Int -> Int -> Int -> Int -> (List Row) -> (List Pr) -> Option (Bool × Unit)) (t8 : List Row) (t9 t10 : Int) (r : Row) :
    ze5 N A N t8 t9 t10 [r.w0, r.w1, r.w2] 0 c0 v1 v2 v3 = cond (unkR v1 r) (some (false, ())) (A t8 t9 (wr (t10 + 1)) c0 v1 v2 v3) := by
  obtain ⟨n, hn⟩ : ∃ n, N = n + 1 + 1 + 1 + 1 := ⟨N - 4, by omega⟩
  have e : ∀ M, M = n + 1 + 1 + 1 + 1 -> ze5 N A M t8 t9 t10 [r.w0, r.w1, r.w2] ((0 : Nat) : Int) c0 v1 v2 v3 = cond (unkR v1 r) (some (false, ())) (A t8 t9 (wr (t10 + 1)) c0 v1 v2 v3) := by
    rintro M rfl
    have hl : [r.w0, r.w1, r.w2].length = 3 := rfl
    rw [zfG hN c0 v1 v2 v3 A _ _ _ _ _ hl 0 (by omega), zfG hN c0 v1 v2 v3 A _ _ _ _ _ hl 1 (by omega), zfG hN c0 v1 v2 v3 A _ _ _ _ _ hl 2 (by omega), zhn]
    unfold ziD
    rw [zad (by omega), cond_false]
    simp only [zm0]
    unfold unkR
    simp only [Bool.or_assoc]
    rfl
  exact e N hn
theorem ziS : ∀ (l : List Pr) (i n : Nat), v3.drop i = l -> i + l.length = v3.length -> l.length < n -> v3.length < 1000000 ->
    zel N n v3 (v3.length : Int) (i : Int) c0 v1 v2 v3 = some (!l.any (unkP v1), ())
  | [], i, n + 1, hd, hl, hn, hb => by
    have _ := hN
    simp only [List.length_nil] at hl
    rw [zf2]
    unfold zfB
    rw [zad (by omega), cond_false]
    rfl
  | r :: l, i, n + 1, hd, hl, hn, hb => by
    simp only [List.length_cons] at hl hn
    obtain ⟨hr, hd'⟩ := zsv hd (by omega)
    rw [zf2]
    unfold zfB
    rw [zae (by omega : (i : Int) < (v3.length : Int)), cond_true, zaq, zbE, Int.toNat_natCast, hr, zaD (by omega), ziS l (i + 1) n hd' (by omega) (by omega) hb, List.any_cons, zx9, zC2]
    unfold unkP
    cases ltI r.x 0 <;> cases ltI r.y 0 <;> cases leI v1 r.x <;> cases leI v1 r.y <;> rfl
theorem zk5 : ∀ (l : List Row) (i n : Nat), v2.drop i = l -> i + l.length = v2.length -> l.length < n -> v2.length < 1000000 ->
    ziF N n v2 (v2.length : Int) (i : Int) c0 v1 v2 v3 = cond (l.any (unkR v1)) (some (false, ())) (zel N N v3 (v3.length : Int) 0 c0 v1 v2 v3)
  | [], i, n + 1, hd, hl, hn, hb => by
    simp only [List.length_nil] at hl
    rw [zho]
    unfold ziE
    rw [zad (by omega), cond_false]
    rfl
  | r :: l, i, n + 1, hd, hl, hn, hb => by
    simp only [List.length_cons] at hl hn
    obtain ⟨hr, hd'⟩ := zhy hd (by omega)
    rw [zho]
    unfold ziE
    rw [zae (by omega : (i : Int) < (v2.length : Int)), cond_true, zaq, zbE, Int.toNat_natCast, hr, zsx hN, zaD (by omega), zk5 l (i + 1) n hd' (by omega) (by omega) hb, List.any_cons, zm0]
theorem zyb (hb : v2.length < 1000) (hb3 : v3.length < 1000) : q201 N c0 v1 v2 v3 = some (!(v2.any (unkR v1) || v3.any (unkP v1)), ()) := by
  refine (zk5 hN c0 v1 v2 v3 v2 0 N rfl (by omega) (by omega) (by omega)).trans ?_
  have e := ziS hN c0 v1 v2 v3 v3 0 N rfl (by omega) (by omega) (by omega)
  cases v2.any (unkR v1)
  . exact e
  . rfl
theorem zyc (r : Row) : q220 N r = some (!zf7 r, ()) := by
  have _ := hN
  unfold q220 zf7
  rw [zuX]
  simp only [bsm]
  rw [show List.length [zdx r.w0] = 1 from rfl, zae (show (0 : Int) < ((1 : Nat) : Int) by omega), show [zdx r.w0].getD 0 zrow = zdx r.w0 from rfl, mst2, zC3]
  cases ltI r.w0 0 <;> simp
theorem zk6 : ∀ (l : List Row) (i n : Nat), v2.drop i = l -> i + l.length = v2.length -> l.length < n -> v2.length < 1000000 ->
    ziH N n v2 (v2.length : Int) (i : Int) c0 v1 v2 v3 = some (!zen c0 i l, ())
  | [], i, n + 1, hd, hl, hn, hb => by
    simp only [List.length_nil] at hl
    rw [zhp]
    unfold ziG
    rw [zad (by omega), cond_false]
    rfl
  | r :: l, i, n + 1, hd, hl, hn, hb => by
    simp only [List.length_cons] at hl hn
    obtain ⟨hr, hd'⟩ := zhy hd (by omega)
    rw [zhp]
    unfold ziG
    rw [zae (by omega : (i : Int) < (v2.length : Int)), cond_true, zaq, zbE, Int.toNat_natCast, hr, zal, zyc hN, zaD (by omega), zk6 l (i + 1) n hd' (by omega) (by omega) hb, zx9, zx9]
    simp only [bsm, Bool.not_not]
    rw [show zen c0 i (r :: l) = ((lowR r || (ltI (i : Int) c0 && zf7 r)) || zen c0 (i + 1) l) from rfl]
    unfold lowR
    cases ltI (i : Int) c0 <;> cases zf7 r <;> cases ltI r.w0 (-1) <;> cases ltI r.w1 (-1) <;> cases ltI r.w2 (-1) <;> rfl
theorem zyd (hb : v2.length < 1000) : q202 N c0 v1 v2 v3 = some (!zen c0 0 v2, ()) :=
  zk6 hN c0 v1 v2 v3 v2 0 N rfl (by omega) (by omega) (by omega)
theorem zsy (hb : v2.length < 1000) (hb3 : v3.length < 1000) : q119 N c0 v1 v2 v3 = some (mayF c0 v1 v2 v3, ()) := by
  unfold q119 mayF
  rw [zya hN c0 v1 v2 v3 hb, zyb hN c0 v1 v2 v3 hb hb3, zyd hN c0 v1 v2 v3 hb]
  simp only [bsm, Bool.not_not]
  generalize ltI 8 c0 = a1
  generalize ltI 200 v1 = a2
  generalize ltI 64 (v2.length : Int) = a3
  generalize ltI 200 (v3.length : Int) = a4
  generalize ltI c0 0 = a5
  generalize ltI v1 0 = a6
  generalize ltI (v2.length : Int) c0 = a7
  generalize v2.any bigR = b1
  generalize (v2.any (unkR v1) || v3.any (unkP v1)) = b2
  generalize zen c0 0 v2 = b3
  cases a1 <;> cases a2 <;> cases a3 <;> cases a4 <;> simp only [cond_true, cond_false, Bool.true_or, Bool.or_true, Bool.false_or, Bool.or_false]
  cases a5 <;> cases a6 <;> cases a7 <;> simp only [cond_true, cond_false, Bool.true_or, Bool.or_true, Bool.false_or, Bool.or_false]
  cases b1 <;> cases b2 <;> cases b3 <;> rfl
end prog
structure GoodCirc (c0 v1 : Int) (v2 : List Row) (v3 : List Pr) : Prop where
  p0 : 0 <= c0
  p8 : c0 <= 8
  v0 : 0 <= v1
  v200 : v1 <= 200
  rows : v2.length <= 64
  same : v3.length <= 200
  pub : c0 <= (v2.length : Int)
  big : v2.any bigR = false
  unk : v2.any (unkR v1) = false
  unkp : v3.any (unkP v1) = false
  form : zen c0 0 v2 = false
theorem zk7 {c0 v1 : Int} {v2 : List Row} {v3 : List Pr} (h : mayF c0 v1 v2 v3 = 0) : GoodCirc c0 v1 v2 v3 := by
  unfold mayF at h
  cases h1 : ltI 8 c0
  case true => rw [h1] at h; simp at h
  cases h2 : ltI 200 v1
  case true => rw [h2] at h; simp at h
  cases h3 : ltI 64 (v2.length : Int)
  case true => rw [h3] at h; simp at h
  cases h4 : ltI 200 (v3.length : Int)
  case true => rw [h4] at h; simp at h
  rw [h1, h2, h3, h4] at h
  simp only [Bool.or_self, cond_false] at h
  cases h5 : ltI c0 0
  case true => rw [h5] at h; simp at h
  cases h6 : ltI v1 0
  case true => rw [h6] at h; simp at h
  cases h7 : ltI (v2.length : Int) c0
  case true => rw [h7] at h; simp at h
  rw [h5, h6, h7] at h
  simp only [Bool.or_self, cond_false] at h
  cases h8 : v2.any bigR
  case true => rw [h8] at h; simp at h
  cases h9 : v2.any (unkR v1)
  case true => rw [h8, h9] at h; simp at h
  cases h10 : v3.any (unkP v1)
  case true => rw [h8, h9, h10] at h; simp at h
  cases h11 : zen c0 0 v2
  case true => rw [h8, h9, h10, h11] at h; simp at h
  have f : ∀ {a b : Int}, ltI a b = false -> ¬ a < b := fun h => of_decide_eq_false h
  have := f h1
  have := f h2
  have := f h3
  have := f h4
  have := f h5
  have := f h6
  have := f h7
  exact ⟨by omega, by omega, by omega, by omega, by omega, by omega, by omega, h8, h9, h10, h11⟩
theorem GoodCirc.may {c0 v1 : Int} {v2 : List Row} {v3 : List Pr} (h : GoodCirc c0 v1 v2 v3) : mayF c0 v1 v2 v3 = 0 := by
  have := h.p0
  have := h.p8
  have := h.v0
  have := h.v200
  have := h.rows
  have := h.same
  have := h.pub
  unfold mayF
  rw [zad (by omega : ¬ 8 < c0), zad (by omega : ¬ 200 < v1), zad (by omega : ¬ 64 < (v2.length : Int)), zad (by omega : ¬ 200 < (v3.length : Int)), zad (by omega : ¬ c0 < 0), zad (by omega : ¬ v1 < 0), zad (by omega : ¬ (v2.length : Int) < c0), h.big, h.unk, h.unkp, h.form]
  rfl
theorem GoodCirc.pairs {c0 v1 : Int} {v2 : List Row} {v3 : List Pr} (h : GoodCirc c0 v1 v2 v3) {V : Nat} (hV : v1 = (V : Int)) : zx6 v3 V := by
  intro p hp
  have h2 := List.any_eq_false.mp h.unkp p hp
  unfold unkP at h2
  simp only [Bool.or_eq_true, not_or, Bool.not_eq_true] at h2
  obtain ⟨⟨a, b⟩, c, d⟩ := h2
  have := of_decide_eq_false a
  have := of_decide_eq_false b
  have := of_decide_eq_false c
  have := of_decide_eq_false d
  subst hV
  omega
theorem zk8 {P : Int} : ∀ {l : List Row} {i : Nat}, zen P i l = false -> ∀ r ∈ l, lowR r = false
  | [], _, _, r, hr => absurd hr (by simp)
  | x :: l, i, h, r, hr => by
    unfold zen at h
    simp only [Bool.or_eq_false_iff] at h
    rcases List.mem_cons.mp hr with rfl | hr
    . exact h.1.1
    . exact zk8 h.2 r hr
theorem GoodCirc.vars {c0 v1 : Int} {v2 : List Row} {v3 : List Pr} (h : GoodCirc c0 v1 v2 v3) {r : Row} (hr : r ∈ v2) (j : Nat) : -1 <= rw3 r j /\ rw3 r j < v1 := by
  have h1 := List.any_eq_false.mp h.unk r hr
  have h2 := zk8 h.form r hr
  unfold unkR at h1
  unfold lowR at h2
  simp only [Bool.or_eq_true, not_or, Bool.not_eq_true] at h1
  simp only [Bool.or_eq_false_iff] at h2
  obtain ⟨⟨a, b⟩, c⟩ := h1
  obtain ⟨⟨a', b'⟩, c'⟩ := h2
  have := of_decide_eq_false a
  have := of_decide_eq_false b
  have := of_decide_eq_false c
  have := of_decide_eq_false a'
  have := of_decide_eq_false b'
  have := of_decide_eq_false c'
  match j with
  | 0 => exact ⟨by simp only [rw3]; omega, by simp only [rw3]; omega⟩
  | 1 => exact ⟨by simp only [rw3]; omega, by simp only [rw3]; omega⟩
  | _ + 2 => exact ⟨by simp only [rw3]; omega, by simp only [rw3]; omega⟩
end
end Go.Proofs.Ytgimohchocjgcaa.V
