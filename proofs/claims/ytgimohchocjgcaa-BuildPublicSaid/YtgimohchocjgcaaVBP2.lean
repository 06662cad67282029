import Derived.Test.YtgimohchocjgcaaVFM
import Derived.KernelRfl
import Derived.Test.YtgimohchocjgcaaVME
set_option linter.unusedVariables false
set_option linter.unusedSimpArgs false
namespace Go.Proofs.Ytgimohchocjgcaa.V
section
def p217 (N : Nat) (kind0 : Int) : Option (List Int × Bool × Unit) :=
  let u1 := cond (hide (eqI kind0 (4 : Int))) (some (([(0 : Int), (2 : Int)], true, ()))) (cond (hide (eqI kind0 (6 : Int))) (some (([(0 : Int), (1 : Int)], true, ()))) (some (([], false, ()))))
  let u6 := hide (eqI kind0 (3 : Int))
  let u4 := some (([(0 : Int)], true, ()))
  let u2 := cond u6 (cond u6 u4 u1) (cond (hide (eqI kind0 (7 : Int))) u4 u1)
  let u3 := some (([(0 : Int), (1 : Int), (2 : Int)], true, ()))
  let u5 := hide (eqI kind0 (2 : Int))
  cond (hide (eqI kind0 (1 : Int))) (some (([], true, ()))) (cond u5 (cond u5 u3 u2) (cond (hide (eqI kind0 (5 : Int))) u3 u2))
def g217 (N : Nat) : Sg := sgK [K.int] [(K.ro .int), K.bool] fun x => p217 N x.1
def zqF : List (Nat × Head) := [
    ]
def zqG (N : Nat) : List (Nat × Sg) := []
theorem zlG (N : Nat) : zbV Try.prog pd.els (zqG N) := trivial
theorem zpu (N : Nat) : SgOK Try.prog pd.els 217 (g217 N) :=
  zbA zbW (zaw (zlG N)) Try.func217 (zaD (by kernel_rfl)) [K.int] [(K.ro .int), K.bool] _ N zqF 4 fun x => by kernel_rfl
def p195 (N : Nat) (at0 : Int) (w1 : List Int) : Option (Row × Unit) :=
  let u10 := (0 : Nat) + (1 : Nat) + (1 : Nat)
  let u1 := List.getD w1 u10 (0 : Int)
  let u2 := Fr.zero
  let u3 := List.getD w1 ((0 : Nat) + (1 : Nat)) (0 : Int)
  let u4 := List.getD w1 (0 : Nat) (0 : Int)
  let u5 := eqI at0 (↑((0 : Nat) + (1 : Nat) + (1 : Nat) + (1 : Nat) + (1 : Nat) + (1 : Nat) + (1 : Nat) + (1 : Nat)) : Int)
  let u6 := eqI at0 (↑((0 : Nat) + (1 : Nat) + (1 : Nat) + (1 : Nat) + (1 : Nat) + (1 : Nat) + (1 : Nat)) : Int)
  let u7 := eqI at0 (↑((0 : Nat) + (1 : Nat) + (1 : Nat) + (1 : Nat) + (1 : Nat) + (1 : Nat)) : Int)
  let u8 := eqI at0 (↑((0 : Nat) + (1 : Nat) + (1 : Nat) + (1 : Nat) + (1 : Nat)) : Int)
  let u9 := eqI at0 (↑((0 : Nat) + (1 : Nat) + (1 : Nat) + (1 : Nat)) : Int)
  let u11 := eqI at0 (↑((0 : Nat) + (1 : Nat)) : Int)
  let u12 := eqI at0 (↑(0 : Nat) : Int)
  must (leI (↑(3 : Nat) : Int) (↑w1.length : Int)) (must (leN ((0 : Nat) + (3 : Nat)) w1.length) (Option.bind (p75 N (1 : UInt64)) fun rr0 => cond u12 (must u12 (some ((Row.mk (rr0.1) u2 u2 u2 u2 u2 u2 u2 u4 u3 u1, ())))) (cond u11 (must u11 (some ((Row.mk u2 (rr0.1) u2 u2 u2 u2 u2 u2 u4 u3 u1, ())))) (cond (eqI at0 (↑u10 : Int)) (must (eqI at0 (↑u10 : Int)) (some ((Row.mk u2 u2 (rr0.1) u2 u2 u2 u2 u2 u4 u3 u1, ())))) (cond u9 (must u9 (some ((Row.mk u2 u2 u2 (rr0.1) u2 u2 u2 u2 u4 u3 u1, ())))) (cond u8 (must u8 (some ((Row.mk u2 u2 u2 u2 (rr0.1) u2 u2 u2 u4 u3 u1, ())))) (cond u7 (must u7 (some ((Row.mk u2 u2 u2 u2 u2 (rr0.1) u2 u2 u4 u3 u1, ())))) (cond u6 (must u6 (some ((Row.mk u2 u2 u2 u2 u2 u2 (rr0.1) u2 u4 u3 u1, ())))) (must u5 (must u5 (some ((Row.mk u2 u2 u2 u2 u2 u2 u2 (rr0.1) u4 u3 u1, ())))))))))))))
def g195 (N : Nat) : Sg := sgK [K.int, (K.ro .int)] [(K.st .row)] fun x => p195 N x.1 x.2.1
def zqH : List (Nat × Head) := [
    ]
def zqI (N : Nat) : List (Nat × Sg) := [(75, g75 N)]
theorem zlH (N : Nat) : zbV Try.prog pd.els (zqI N) := ⟨zqC N, trivial⟩
theorem zpv (N : Nat) : SgOK Try.prog pd.els 195 (g195 N) :=
  zbA zbW (zaw (zlH N)) Try.func195 (zaD (by kernel_rfl)) [K.int, (K.ro .int)] [(K.st .row)] _ N zqH 4 fun x => by kernel_rfl
def p108 (N : Nat) (s0 : Stp) : Option (List Row × Int × Unit) :=
  let u2 := Fr.zero
  let u1 := some (([Row.mk (s0.q0) (s0.q1) (s0.q2) (s0.q3) (s0.q4) u2 u2 u2 (mxI s0.v0 (-1 : Int)) (mxI s0.v1 (-1 : Int)) (mxI s0.v2 (-1 : Int))], (0 : Int), ()))
  let u3 := [Stp.v0 s0, (-1 : Int), (-1 : Int)]
  let u4 := p195 N (6 : Int) ([Stp.v0 s0, (-1 : Int), Stp.v2 s0])
  let u5 := p195 N (7 : Int) ([Stp.v0 s0, Stp.v1 s0, (-1 : Int)])
  let u6 := hide (eqI s0.kind (1 : Int))
  let u7 := hide (eqI s0.kind (2 : Int))
  let u8 := hide (eqI s0.kind (3 : Int))
  let u9 := hide (eqI s0.kind (4 : Int))
  let u10 := hide (eqI s0.kind (5 : Int))
  let u11 := hide (eqI s0.kind (7 : Int))
  let u12 := some (([], (11 : Int), ()))
  let u13 := some (([], (0 : Int), ()))
  cond u6 (cond u6 u13 (cond u7 u1 (cond u8 (Option.bind (p195 N (5 : Int) u3) fun rr7 => some (([rr7.1], (0 : Int), ()))) (cond u9 (Option.bind u4 fun rr6 => some (([rr6.1], (0 : Int), ()))) (cond u10 (Option.bind u5 fun rr5 => some (([rr5.1, Row.mk u2 u2 u2 u2 u2 u2 u2 u2 s0.v2 (-1 : Int) (-1 : Int)], (0 : Int), ()))) (cond u11 (Option.bind (p195 N (1 : Int) u3) fun rr4 => some (([rr4.1], (0 : Int), ()))) u12)))))) (cond (hide (eqI s0.kind (6 : Int))) u13 (cond u7 u1 (cond u8 (Option.bind (p195 N (5 : Int) u3) fun rr3 => some (([rr3.1], (0 : Int), ()))) (cond u9 (Option.bind u4 fun rr2 => some (([rr2.1], (0 : Int), ()))) (cond u10 (Option.bind u5 fun rr1 => some (([rr1.1, Row.mk u2 u2 u2 u2 u2 u2 u2 u2 s0.v2 (-1 : Int) (-1 : Int)], (0 : Int), ()))) (cond u11 (Option.bind (p195 N (1 : Int) u3) fun rr0 => some (([rr0.1], (0 : Int), ()))) u12))))))
def g108 (N : Nat) : Sg := sgK [(K.st .step)] [(K.ro .row), K.int] fun x => p108 N x.1
def zqJ : List (Nat × Head) := [
    ]
def zqK (N : Nat) : List (Nat × Sg) := [(195, g195 N)]
theorem zlI (N : Nat) : zbV Try.prog pd.els (zqK N) := ⟨zpv N, trivial⟩
theorem zlJ (N : Nat) : SgOK Try.prog pd.els 108 (g108 N) :=
  zbA zbW (zaw (zlI N)) Try.func108 (zaD (by kernel_rfl)) [(K.st .step)] [(K.ro .row), K.int] _ N zqJ 4 fun x => by kernel_rfl
def ziL (N : Nat) (A_11 : Int -> Int -> Int -> Stp -> (List Int) -> Option (Int × Unit)) (vars1 t30 t31 : Int) (ob0 : Stp) (t29o : List Int) : Option (Int × Unit) :=
  let u1 := A_11 vars1 t30 (hide (wr (t31 + (1 : Int)))) (ob0) t29o
  let u2 := List.getD t29o t31.toNat (0 : Int)
  let u4 := some (((10 : Int), ()))
  let u3 := cond (hide !eqI ob0.kind (2 : Int)) u4 u1
  let u5 := eqI u2 (↑((0 : Nat) + (1 : Nat) + (1 : Nat)) : Int)
  let u6 := eqI u2 (↑((0 : Nat) + (1 : Nat)) : Int)
  let u7 := eqI u2 (↑(0 : Nat) : Int)
  cond (hide (ltI t31 t30)) (must (leI (0 : Int) t31 && ltI t31 (↑t29o.length : Int)) (cond u7 (must u7 (cond (hide (leI vars1 ob0.v0)) u4 (cond (hide (ltI ob0.v0 (0 : Int))) u3 u1))) (cond u6 (must u6 (cond (hide (leI vars1 ob0.v1)) u4 (cond (hide (ltI ob0.v1 (0 : Int))) u3 u1))) (must u5 (must u5 (cond (hide (leI vars1 ob0.v2)) u4 (cond (hide (ltI ob0.v2 (0 : Int))) u3 u1))))))) (some (((0 : Int), ())))
def ziM (N n : Nat) (vars1 t30 t31 : Int) (ob0 : Stp) (t29o : List Int) : Option (Int × Unit) :=
  zao (fun A x => ziL N (fun vars1 t30 t31 ob0 t29o => A ((vars1, ((), ((), (t30, (t31, ()))))), (ob0, (t29o, ())))) x.1.1 x.1.2.2.2.1 x.1.2.2.2.2.1 x.2.1 x.2.2.1) n ((vars1, ((), ((), (t30, (t31, ()))))), (ob0, (t29o, ())))
def zlK (N : Nat) (A_5 : Int -> (List Fr) -> Int -> Stp -> (List Int) -> Option (Int × Unit)) (vars1 : Int) (t21 : List Fr) (t22 : Int) (ob0 : Stp) (l5o : List Int) : Option (Int × Unit) :=
  cond (hide (ltI t22 (5 : Int))) (must (leI (0 : Int) t22 && (ltI t22 (↑(5 : Nat) : Int) && ltI t22 (↑t21.length : Int))) (Option.bind (p79 N ((List.getD t21 t22.toNat (Fr.zero)))) fun rr0 => cond (hide !rr0.1) (some (((4 : Int), ()))) (A_5 vars1 t21 (hide (wr (t22 + (1 : Int)))) (ob0) l5o))) (ziM N N vars1 ((↑l5o.length : Int)) (0 : Int) (ob0) l5o)
def zlL (N n : Nat) (vars1 : Int) (t21 : List Fr) (t22 : Int) (ob0 : Stp) (l5o : List Int) : Option (Int × Unit) :=
  zao (fun A x => zlK N (fun vars1 t21 t22 ob0 l5o => A ((vars1, ((), ((), (t21, (t22, ()))))), (ob0, (l5o, ())))) x.1.1 x.1.2.2.2.1 x.1.2.2.2.2.1 x.2.1 x.2.2.1) n ((vars1, ((), ((), (t21, (t22, ()))))), (ob0, (l5o, ())))
def p192 (N : Nat) (s0 : Stp) (vars1 : Int) : Option (Int × Unit) :=
  Option.bind (p217 N s0.kind) fun rr0 => cond (hide !rr0.2.1) (some (((11 : Int), ()))) (zlL N N vars1 ([s0.q0, s0.q1, s0.q2, s0.q3, s0.q4]) (0 : Int) (s0) rr0.1)
def g192 (N : Nat) : Sg := sgK [(K.st .step), K.int] [K.int] fun x => p192 N x.1 x.2.1
def zqL : List (Nat × Head) := [
    (5, ⟨⟨52, [(1, .u (.c (.int))), (2, .u (.c (.ptr0 6000000 0))), (5, .u (.c (.row 6000001))), (21, .u (.vec .fr)), (22, .u (.c (.int)))], [(6000000, ⟨false, 0, 112, .st .step⟩), (6000001, ⟨true, 0, 3, .vec .int⟩)]⟩, .exit 0⟩),
    (11, ⟨⟨52, [(1, .u (.c (.int))), (2, .u (.c (.ptr0 12000000 0))), (29, .u (.c (.row 12000001))), (30, .u (.c (.int))), (31, .u (.c (.int)))], [(12000000, ⟨false, 0, 112, .st .step⟩), (12000001, ⟨true, 0, 3, .vec .int⟩)]⟩, .exit 2⟩)]
def zqM (N : Nat) : List (Nat × Sg) := [(217, g217 N), (79, g79 N)]
theorem zlM (N : Nat) : zbV Try.prog pd.els (zqM N) := ⟨zpu N, ⟨zoy N, trivial⟩⟩
theorem zpw (N : Nat) : SgOK Try.prog pd.els 192 (g192 N) :=
  zbA zbW (zaw (zlM N)) Try.func192 (zaD (by kernel_rfl)) [(K.st .step), K.int] [K.int] _ N zqL 4 fun x => by kernel_rfl
end
section
def zrow : Row := Row.mk Fr.zero Fr.zero Fr.zero Fr.zero Fr.zero Fr.zero Fr.zero Fr.zero (0 : Int) (0 : Int) (0 : Int)
def zbY (x y : Row) : Bool := Fr.a0 x.q0 == Fr.a0 y.q0 && (Fr.a1 x.q0 == Fr.a1 y.q0 && (Fr.a2 x.q0 == Fr.a2 y.q0 && (Fr.a3 x.q0 == Fr.a3 y.q0 && true))) && (Fr.a0 x.q1 == Fr.a0 y.q1 && (Fr.a1 x.q1 == Fr.a1 y.q1 && (Fr.a2 x.q1 == Fr.a2 y.q1 && (Fr.a3 x.q1 == Fr.a3 y.q1 && true))) && (Fr.a0 x.q2 == Fr.a0 y.q2 && (Fr.a1 x.q2 == Fr.a1 y.q2 && (Fr.a2 x.q2 == Fr.a2 y.q2 && (Fr.a3 x.q2 == Fr.a3 y.q2 && true))) && (Fr.a0 x.q3 == Fr.a0 y.q3 && (Fr.a1 x.q3 == Fr.a1 y.q3 && (Fr.a2 x.q3 == Fr.a2 y.q3 && (Fr.a3 x.q3 == Fr.a3 y.q3 && true))) && (Fr.a0 x.q4 == Fr.a0 y.q4 && (Fr.a1 x.q4 == Fr.a1 y.q4 && (Fr.a2 x.q4 == Fr.a2 y.q4 && (Fr.a3 x.q4 == Fr.a3 y.q4 && true))) && (Fr.a0 x.q5 == Fr.a0 y.q5 && (Fr.a1 x.q5 == Fr.a1 y.q5 && (Fr.a2 x.q5 == Fr.a2 y.q5 && (Fr.a3 x.q5 == Fr.a3 y.q5 && true))) && (Fr.a0 x.q6 == Fr.a0 y.q6 && (Fr.a1 x.q6 == Fr.a1 y.q6 && (Fr.a2 x.q6 == Fr.a2 y.q6 && (Fr.a3 x.q6 == Fr.a3 y.q6 && true))) && (Fr.a0 x.q7 == Fr.a0 y.q7 && (Fr.a1 x.q7 == Fr.a1 y.q7 && (Fr.a2 x.q7 == Fr.a2 y.q7 && (Fr.a3 x.q7 == Fr.a3 y.q7 && true))) && true))))))) && (eqI x.w0 y.w0 && (eqI x.w1 y.w1 && (eqI x.w2 y.w2 && true)) && true)
end
section
def zlN (N : Nat) (A_2 : (List Row) -> Int -> Int -> Option (Bool × Unit)) (A_5 : (List Row) -> Int -> Int -> (List Fr) -> Int -> Option (Bool × Unit)) (t8 : List Row) (t9 t10 : Int) (t15 : List Fr) (t16 : Int) : Option (Bool × Unit) :=
  cond (hide (ltI t16 (8 : Int))) (must (leI (0 : Int) t16 && (ltI t16 (↑(8 : Nat) : Int) && ltI t16 (↑t15.length : Int))) (Option.bind (p79 N ((List.getD t15 t16.toNat (Fr.zero)))) fun r0 => cond (hide !r0.1) (some ((false, ()))) (A_5 t8 t9 t10 t15 (hide (wr (t16 + (1 : Int))))))) (A_2 t8 t9 (hide (wr (t10 + (1 : Int)))))
def zlO (N : Nat) (A_2 : (List Row) -> Int -> Int -> Option (Bool × Unit)) (n : Nat) (t8 : List Row) (t9 t10 : Int) (t15 : List Fr) (t16 : Int) : Option (Bool × Unit) :=
  zao (fun A x => zlN N A_2 (fun t8 t9 t10 t15 t16 => A ((t8, (t9, (t10, (t15, (t16, ()))))), ())) x.1.1 x.1.2.1 x.1.2.2.1 x.1.2.2.2.1 x.1.2.2.2.2.1) n ((t8, (t9, (t10, (t15, (t16, ()))))), ())
def zlP (N : Nat) (A_2 : (List Row) -> Int -> Int -> Option (Bool × Unit)) (t8 : List Row) (t9 t10 : Int) : Option (Bool × Unit) :=
  let u1 := List.getD t8 t10.toNat zrow
  let u2 := Row.q0 u1
  let u3 := Row.q1 u1
  let u4 := Row.q2 u1
  let u5 := Row.q3 u1
  let u6 := Row.q4 u1
  let u7 := Row.q5 u1
  let u8 := Row.q6 u1
  let u9 := Row.q7 u1
  cond (hide (ltI t10 t9)) (must (leI (0 : Int) t10 && ltI t10 (↑t8.length : Int)) (zlO N A_2 N t8 t9 t10 ([Fr.mk (Fr.a0 u2) (Fr.a1 u2) (Fr.a2 u2) (Fr.a3 u2), Fr.mk (Fr.a0 u3) (Fr.a1 u3) (Fr.a2 u3) (Fr.a3 u3), Fr.mk (Fr.a0 u4) (Fr.a1 u4) (Fr.a2 u4) (Fr.a3 u4), Fr.mk (Fr.a0 u5) (Fr.a1 u5) (Fr.a2 u5) (Fr.a3 u5), Fr.mk (Fr.a0 u6) (Fr.a1 u6) (Fr.a2 u6) (Fr.a3 u6), Fr.mk (Fr.a0 u7) (Fr.a1 u7) (Fr.a2 u7) (Fr.a3 u7), Fr.mk (Fr.a0 u8) (Fr.a1 u8) (Fr.a2 u8) (Fr.a3 u8), Fr.mk (Fr.a0 u9) (Fr.a1 u9) (Fr.a2 u9) (Fr.a3 u9)]) (0 : Int))) (some ((true, ())))
def zlQ (N n : Nat) (t8 : List Row) (t9 t10 : Int) : Option (Bool × Unit) :=
  zao (fun A x => zlP N (fun t8 t9 t10 => A ((t8, (t9, (t10, ()))), ())) x.1.1 x.1.2.1 x.1.2.2.1) n ((t8, (t9, (t10, ()))), ())
def p200 (N : Nat) (c0 v1 : Int) (v2 : List Row) (v3 : List Pr) : Option (Bool × Unit) :=
  zlQ N N v2 ((↑v2.length : Int)) (0 : Int)
def g200 (N : Nat) : Sg := sgK [(K.agg [.int, .int, .ro .row, .ro .pair] rfl)] [K.bool] fun x => p200 N x.1.1 x.1.2.1 x.1.2.2.1 x.1.2.2.2.1
def zqN : List (Nat × Head) := [
    (2, ⟨⟨24, [(8, .u (.c (.ro .row))), (9, .u (.c (.int))), (10, .u (.c (.int)))], []⟩, .exit 0⟩),
    (5, ⟨⟨24, [(8, .u (.c (.ro .row))), (9, .u (.c (.int))), (10, .u (.c (.int))), (15, .u (.vec .fr)), (16, .u (.c (.int)))], []⟩, .exit 2⟩)]
def zqO (N : Nat) : List (Nat × Sg) := [(79, g79 N)]
theorem zlR (N : Nat) : zbV Try.prog pd.els (zqO N) := ⟨zoy N, trivial⟩
theorem zpx (N : Nat) : SgOK Try.prog pd.els 200 (g200 N) :=
  zbA zbW (zaw (zlR N)) Try.func200 (zaD (by kernel_rfl)) [(K.agg [.int, .int, .ro .row, .ro .pair] rfl)] [K.bool] _ N zqN 4 fun x => by kernel_rfl
def ziN (N : Nat) (A_12 : (List Pr) -> Int -> Int -> Int -> Int -> (List Row) -> (List Pr) -> Option (Bool × Unit)) (t28 : List Pr) (t29 t30 ob0_0 ob0_1 : Int) (ob0_2 : List Row) (ob0_3 : List Pr) : Option (Bool × Unit) :=
  cond (hide (ltI t30 t29)) (must (leI (0 : Int) t30 && ltI t30 (↑t28.length : Int)) (cond (hide (ltI (mnI (Pr.x (List.getD t28 t30.toNat (Pr.mk (0 : Int) (0 : Int)))) (Pr.y (List.getD t28 t30.toNat (Pr.mk (0 : Int) (0 : Int))))) (0 : Int))) (some ((false, ()))) (cond (hide (leI ob0_1 (mxI (Pr.x (List.getD t28 t30.toNat (Pr.mk (0 : Int) (0 : Int)))) (Pr.y (List.getD t28 t30.toNat (Pr.mk (0 : Int) (0 : Int))))))) (some ((false, ()))) (A_12 t28 t29 (hide (wr (t30 + (1 : Int)))) ob0_0 ob0_1 ob0_2 ob0_3)))) (some ((true, ())))
def ziO (N n : Nat) (t28 : List Pr) (t29 t30 ob0_0 ob0_1 : Int) (ob0_2 : List Row) (ob0_3 : List Pr) : Option (Bool × Unit) :=
  zao (fun A x => ziN N (fun t28 t29 t30 ob0_0 ob0_1 ob0_2 ob0_3 => A (((), (t28, (t29, (t30, ())))), ((ob0_0, (ob0_1, (ob0_2, (ob0_3, ())))), ()))) x.1.2.1 x.1.2.2.1 x.1.2.2.2.1 x.2.1.1 x.2.1.2.1 x.2.1.2.2.1 x.2.1.2.2.2.1) n (((), (t28, (t29, (t30, ())))), ((ob0_0, (ob0_1, (ob0_2, (ob0_3, ())))), ()))
def zlS (N : Nat) (A_2 : (List Row) -> Int -> Int -> Int -> Int -> (List Row) -> (List Pr) -> Option (Bool × Unit)) (A_5 : (List Row) -> Int -> Int -> (List Int) -> Int -> Int -> Int -> (List Row) -> (List Pr) -> Option (Bool × Unit)) (t10 : List Row) (t11 t12 : Int) (t17 : List Int) (t18 ob0_0 ob0_1 : Int) (ob0_2 : List Row) (ob0_3 : List Pr) : Option (Bool × Unit) :=
  cond (hide (ltI t18 (3 : Int))) (must (leI (0 : Int) t18 && (ltI t18 (↑(3 : Nat) : Int) && ltI t18 (↑t17.length : Int))) (cond (hide (leI ob0_1 (List.getD t17 t18.toNat (0 : Int)))) (some ((false, ()))) (A_5 t10 t11 t12 t17 (hide (wr (t18 + (1 : Int)))) ob0_0 ob0_1 ob0_2 ob0_3))) (A_2 t10 t11 (hide (wr (t12 + (1 : Int)))) ob0_0 ob0_1 ob0_2 ob0_3)
def zlT (N : Nat) (A_2 : (List Row) -> Int -> Int -> Int -> Int -> (List Row) -> (List Pr) -> Option (Bool × Unit)) (n : Nat) (t10 : List Row) (t11 t12 : Int) (t17 : List Int) (t18 ob0_0 ob0_1 : Int) (ob0_2 : List Row) (ob0_3 : List Pr) : Option (Bool × Unit) :=
  zao (fun A x => zlS N A_2 (fun t10 t11 t12 t17 t18 ob0_0 ob0_1 ob0_2 ob0_3 => A (((), (t10, (t11, (t12, (t17, (t18, ())))))), ((ob0_0, (ob0_1, (ob0_2, (ob0_3, ())))), ()))) x.1.2.1 x.1.2.2.1 x.1.2.2.2.1 x.1.2.2.2.2.1 x.1.2.2.2.2.2.1 x.2.1.1 x.2.1.2.1 x.2.1.2.2.1 x.2.1.2.2.2.1) n (((), (t10, (t11, (t12, (t17, (t18, ())))))), ((ob0_0, (ob0_1, (ob0_2, (ob0_3, ())))), ()))
def zlU (N : Nat) (A_2 : (List Row) -> Int -> Int -> Int -> Int -> (List Row) -> (List Pr) -> Option (Bool × Unit)) (t10 : List Row) (t11 t12 ob0_0 ob0_1 : Int) (ob0_2 : List Row) (ob0_3 : List Pr) : Option (Bool × Unit) :=
  cond (hide (ltI t12 t11)) (must (leI (0 : Int) t12 && ltI t12 (↑t10.length : Int)) (zlT N A_2 N t10 t11 t12 ([Row.w0 (List.getD t10 t12.toNat zrow), Row.w1 (List.getD t10 t12.toNat zrow), Row.w2 (List.getD t10 t12.toNat zrow)]) (0 : Int) ob0_0 ob0_1 ob0_2 ob0_3)) (ziO N N ob0_3 ((↑ob0_3.length : Int)) (0 : Int) ob0_0 ob0_1 ob0_2 ob0_3)
def zlV (N n : Nat) (t10 : List Row) (t11 t12 ob0_0 ob0_1 : Int) (ob0_2 : List Row) (ob0_3 : List Pr) : Option (Bool × Unit) :=
  zao (fun A x => zlU N (fun t10 t11 t12 ob0_0 ob0_1 ob0_2 ob0_3 => A (((), (t10, (t11, (t12, ())))), ((ob0_0, (ob0_1, (ob0_2, (ob0_3, ())))), ()))) x.1.2.1 x.1.2.2.1 x.1.2.2.2.1 x.2.1.1 x.2.1.2.1 x.2.1.2.2.1 x.2.1.2.2.2.1) n (((), (t10, (t11, (t12, ())))), ((ob0_0, (ob0_1, (ob0_2, (ob0_3, ())))), ()))
def p201 (N : Nat) (c0 v1 : Int) (v2 : List Row) (v3 : List Pr) : Option (Bool × Unit) :=
  zlV N N v2 ((↑v2.length : Int)) (0 : Int) c0 v1 v2 v3
def g201 (N : Nat) : Sg := sgK [(K.agg [.int, .int, .ro .row, .ro .pair] rfl)] [K.bool] fun x => p201 N x.1.1 x.1.2.1 x.1.2.2.1 x.1.2.2.2.1
def zqP : List (Nat × Head) := [
    (2, ⟨⟨51, [(1, .u (.c (.ptr0 3000000 0))), (10, .u (.c (.ro .row))), (11, .u (.c (.int))), (12, .u (.c (.int)))], [(3000000, ⟨false, 0, 80, .lit [.int, .int, .ro .row, .ro .pair]⟩)]⟩, .exit 0⟩),
    (12, ⟨⟨51, [(1, .u (.c (.ptr0 13000000 0))), (28, .u (.c (.ro .pair))), (29, .u (.c (.int))), (30, .u (.c (.int)))], [(13000000, ⟨false, 0, 80, .lit [.int, .int, .ro .row, .ro .pair]⟩)]⟩, .exit 4⟩),
    (5, ⟨⟨51, [(1, .u (.c (.ptr0 6000000 0))), (10, .u (.c (.ro .row))), (11, .u (.c (.int))), (12, .u (.c (.int))), (17, .u (.vec .int)), (18, .u (.c (.int)))], [(6000000, ⟨false, 0, 80, .lit [.int, .int, .ro .row, .ro .pair]⟩)]⟩, .exit 2⟩)]
def zqQ (N : Nat) : List (Nat × Sg) := []
theorem zlW (N : Nat) : zbV Try.prog pd.els (zqQ N) := trivial
theorem zpy (N : Nat) : SgOK Try.prog pd.els 201 (g201 N) :=
  zbA zbW (zaw (zlW N)) Try.func201 (zaD (by kernel_rfl)) [(K.agg [.int, .int, .ro .row, .ro .pair] rfl)] [K.bool] _ N zqP 4 fun x => by kernel_rfl
def p220 (N : Nat) (r0 : Row) : Option (Bool × Unit) :=
  Option.bind (p108 N (Stp.mk (7 : Int) r0.w0 (0 : Int) (0 : Int) (Fr.zero) (Fr.zero) (Fr.zero) (Fr.zero) (Fr.zero))) fun rr0 => cond (hide (leI (0 : Int) r0.w0)) (must (ltI (0 : Int) (↑rr0.1.length : Int)) (some ((hide (zbY r0 (List.getD rr0.1 (0 : Nat) zrow)), ())))) (some ((false, ())))
def g220 (N : Nat) : Sg := sgK [(K.st .row)] [K.bool] fun x => p220 N x.1
def zqR : List (Nat × Head) := [
    ]
def zqS (N : Nat) : List (Nat × Sg) := [(108, g108 N)]
theorem zlX (N : Nat) : zbV Try.prog pd.els (zqS N) := ⟨zlJ N, trivial⟩
theorem zpz (N : Nat) : SgOK Try.prog pd.els 220 (g220 N) :=
  zbA zbW (zaw (zlX N)) Try.func220 (zaD (by kernel_rfl)) [(K.st .row)] [K.bool] _ N zqR 4 fun x => by kernel_rfl
def zlY (N : Nat) (A_2 : (List Row) -> Int -> Int -> Int -> Int -> (List Row) -> (List Pr) -> Option (Bool × Unit)) (t6 : List Row) (t7 t8 ob0_0 ob0_1 : Int) (ob0_2 : List Row) (ob0_3 : List Pr) : Option (Bool × Unit) :=
  let u1 := List.getD t6 t8.toNat zrow
  let u2 := cond (hide (ltI (mnI (mnI (Row.w0 u1) (Row.w1 u1)) (Row.w2 u1)) (-1 : Int))) (some ((false, ()))) (A_2 t6 t7 (hide (wr (t8 + (1 : Int)))) ob0_0 ob0_1 ob0_2 ob0_3)
  let u3 := Row.q0 u1
  let u4 := Row.q1 u1
  let u5 := Row.q2 u1
  let u6 := Row.q3 u1
  let u7 := Row.q4 u1
  let u8 := Row.q5 u1
  let u9 := Row.q6 u1
  let u10 := Row.q7 u1
  cond (hide (ltI t8 t7)) (must (leI (0 : Int) t8 && ltI t8 (↑t6.length : Int)) (cond (hide (ltI t8 ob0_0)) (Option.bind (p220 N (Row.mk (Fr.mk (Fr.a0 u3) (Fr.a1 u3) (Fr.a2 u3) (Fr.a3 u3)) (Fr.mk (Fr.a0 u4) (Fr.a1 u4) (Fr.a2 u4) (Fr.a3 u4)) (Fr.mk (Fr.a0 u5) (Fr.a1 u5) (Fr.a2 u5) (Fr.a3 u5)) (Fr.mk (Fr.a0 u6) (Fr.a1 u6) (Fr.a2 u6) (Fr.a3 u6)) (Fr.mk (Fr.a0 u7) (Fr.a1 u7) (Fr.a2 u7) (Fr.a3 u7)) (Fr.mk (Fr.a0 u8) (Fr.a1 u8) (Fr.a2 u8) (Fr.a3 u8)) (Fr.mk (Fr.a0 u9) (Fr.a1 u9) (Fr.a2 u9) (Fr.a3 u9)) (Fr.mk (Fr.a0 u10) (Fr.a1 u10) (Fr.a2 u10) (Fr.a3 u10)) (Row.w0 u1) (Row.w1 u1) (Row.w2 u1))) fun r0 => cond (hide !r0.1) (some ((false, ()))) u2) u2)) (some ((true, ())))
def zlZ (N n : Nat) (t6 : List Row) (t7 t8 ob0_0 ob0_1 : Int) (ob0_2 : List Row) (ob0_3 : List Pr) : Option (Bool × Unit) :=
  zao (fun A x => zlY N (fun t6 t7 t8 ob0_0 ob0_1 ob0_2 ob0_3 => A (((), (t6, (t7, (t8, ())))), ((ob0_0, (ob0_1, (ob0_2, (ob0_3, ())))), ()))) x.1.2.1 x.1.2.2.1 x.1.2.2.2.1 x.2.1.1 x.2.1.2.1 x.2.1.2.2.1 x.2.1.2.2.2.1) n (((), (t6, (t7, (t8, ())))), ((ob0_0, (ob0_1, (ob0_2, (ob0_3, ())))), ()))
def p202 (N : Nat) (c0 v1 : Int) (v2 : List Row) (v3 : List Pr) : Option (Bool × Unit) :=
  zlZ N N v2 ((↑v2.length : Int)) (0 : Int) c0 v1 v2 v3
def g202 (N : Nat) : Sg := sgK [(K.agg [.int, .int, .ro .row, .ro .pair] rfl)] [K.bool] fun x => p202 N x.1.1 x.1.2.1 x.1.2.2.1 x.1.2.2.2.1
def zqT : List (Nat × Head) := [
    (2, ⟨⟨36, [(1, .u (.c (.ptr0 3000000 0))), (6, .u (.c (.ro .row))), (7, .u (.c (.int))), (8, .u (.c (.int)))], [(3000000, ⟨false, 0, 80, .lit [.int, .int, .ro .row, .ro .pair]⟩)]⟩, .exit 0⟩)]
def zqU (N : Nat) : List (Nat × Sg) := [(220, g220 N)]
theorem zl0 (N : Nat) : zbV Try.prog pd.els (zqU N) := ⟨zpz N, trivial⟩
theorem zpA (N : Nat) : SgOK Try.prog pd.els 202 (g202 N) :=
  zbA zbW (zaw (zl0 N)) Try.func202 (zaD (by kernel_rfl)) [(K.agg [.int, .int, .ro .row, .ro .pair] rfl)] [K.bool] _ N zqT 4 fun x => by kernel_rfl
def p119 (N : Nat) (c0 v1 : Int) (v2 : List Row) (v3 : List Pr) : Option (Int × Unit) :=
  let u1 := some (((10 : Int), ()))
  let u2 := some (((1 : Int), ()))
  let u3 := some (((4 : Int), ()))
  let u4 := some (((3 : Int), ()))
  let u5 := some (((0 : Int), ()))
  let u6 := p200 N c0 v1 v2 v3
  let u7 := p201 N c0 v1 v2 v3
  let u8 := p202 N c0 v1 v2 v3
  let u9 := hide (ltI c0 (0 : Int))
  let u10 := hide (ltI v1 (0 : Int))
  let u11 := hide (ltI (↑v2.length : Int) c0)
  let u12 := some (((8 : Int), ()))
  let u13 := hide (ltI (64 : Int) (↑v2.length : Int))
  let u14 := hide (ltI (200 : Int) v1)
  cond (hide (ltI (8 : Int) c0)) (cond (hide (ltI (8 : Int) c0)) u12 (cond u9 (cond u9 u2 (Option.bind u6 fun r33 => cond (hide !r33.1) u3 (Option.bind u7 fun r34 => cond (hide !r34.1) u1 (Option.bind u8 fun r35 => cond (hide !r35.1) u4 u5)))) (cond u10 (cond u10 u2 (Option.bind u6 fun r30 => cond (hide !r30.1) u3 (Option.bind u7 fun r31 => cond (hide !r31.1) u1 (Option.bind u8 fun r32 => cond (hide !r32.1) u4 u5)))) (cond u11 u2 (Option.bind u6 fun r27 => cond (hide !r27.1) u3 (Option.bind u7 fun r28 => cond (hide !r28.1) u1 (Option.bind u8 fun r29 => cond (hide !r29.1) u4 u5))))))) (cond u14 (cond u14 u12 (cond u9 (cond u9 u2 (Option.bind u6 fun r24 => cond (hide !r24.1) u3 (Option.bind u7 fun r25 => cond (hide !r25.1) u1 (Option.bind u8 fun r26 => cond (hide !r26.1) u4 u5)))) (cond u10 (cond u10 u2 (Option.bind u6 fun r21 => cond (hide !r21.1) u3 (Option.bind u7 fun r22 => cond (hide !r22.1) u1 (Option.bind u8 fun r23 => cond (hide !r23.1) u4 u5)))) (cond u11 u2 (Option.bind u6 fun r18 => cond (hide !r18.1) u3 (Option.bind u7 fun r19 => cond (hide !r19.1) u1 (Option.bind u8 fun r20 => cond (hide !r20.1) u4 u5))))))) (cond u13 (cond u13 u12 (cond u9 (cond u9 u2 (Option.bind u6 fun r15 => cond (hide !r15.1) u3 (Option.bind u7 fun r16 => cond (hide !r16.1) u1 (Option.bind u8 fun r17 => cond (hide !r17.1) u4 u5)))) (cond u10 (cond u10 u2 (Option.bind u6 fun r12 => cond (hide !r12.1) u3 (Option.bind u7 fun r13 => cond (hide !r13.1) u1 (Option.bind u8 fun r14 => cond (hide !r14.1) u4 u5)))) (cond u11 u2 (Option.bind u6 fun r9 => cond (hide !r9.1) u3 (Option.bind u7 fun r10 => cond (hide !r10.1) u1 (Option.bind u8 fun r11 => cond (hide !r11.1) u4 u5))))))) (cond (hide (ltI (200 : Int) (↑v3.length : Int))) u12 (cond u9 (cond u9 u2 (Option.bind u6 fun r6 => cond (hide !r6.1) u3 (Option.bind u7 fun r7 => cond (hide !r7.1) u1 (Option.bind u8 fun r8 => cond (hide !r8.1) u4 u5)))) (cond u10 (cond u10 u2 (Option.bind u6 fun r3 => cond (hide !r3.1) u3 (Option.bind u7 fun r4 => cond (hide !r4.1) u1 (Option.bind u8 fun r5 => cond (hide !r5.1) u4 u5)))) (cond u11 u2 (Option.bind u6 fun r0 => cond (hide !r0.1) u3 (Option.bind u7 fun r1 => cond (hide !r1.1) u1 (Option.bind u8 fun r2 => cond (hide !r2.1) u4 u5)))))))))
def g119 (N : Nat) : Sg := sgK [(K.agg [.int, .int, .ro .row, .ro .pair] rfl)] [K.int] fun x => p119 N x.1.1 x.1.2.1 x.1.2.2.1 x.1.2.2.2.1
def zqV : List (Nat × Head) := [
    ]
def zqW (N : Nat) : List (Nat × Sg) := [(200, g200 N), (201, g201 N), (202, g202 N)]
theorem zl1 (N : Nat) : zbV Try.prog pd.els (zqW N) := ⟨zpx N, ⟨zpy N, ⟨zpA N, trivial⟩⟩⟩
theorem zpB (N : Nat) : SgOK Try.prog pd.els 119 (g119 N) :=
  zbA zbW (zaw (zl1 N)) Try.func119 (zaD (by kernel_rfl)) [(K.agg [.int, .int, .ro .row, .ro .pair] rfl)] [K.int] _ N zqV 4 fun x => by kernel_rfl
end
section
def zdi (N : Nat) (A_11 : Int -> Int -> (List Row) -> (List Row) -> (List Row) -> Option (List Row × Unit)) (t26 t27 : Int) (ob0_0 ob0_1 newslice6o : List Row) : Option (List Row × Unit) :=
  cond (hide (ltI t27 t26)) (cond (eqI t27 (↑(0 : Nat) : Int)) (must (leN ((List.length newslice6o + List.length ob0_0) * (280 : Nat)) (140737488355328 : Nat)) (A_11 t26 (hide (wr ((↑(0 : Nat) : Int) + (1 : Int)))) ob0_0 ob0_1 (newslice6o ++ ob0_0))) (must (eqI t27 (↑((0 : Nat) + (1 : Nat)) : Int)) (must (leN ((List.length newslice6o + List.length ob0_1) * (280 : Nat)) (140737488355328 : Nat)) (A_11 t26 (hide (wr ((↑((0 : Nat) + (1 : Nat)) : Int) + (1 : Int)))) ob0_0 ob0_1 (newslice6o ++ ob0_1))))) (some ((newslice6o, ())))
def zdj (N n : Nat) (t26 t27 : Int) (ob0_0 ob0_1 newslice6o : List Row) : Option (List Row × Unit) :=
  zao (fun A x => zdi N (fun t26 t27 ob0_0 ob0_1 newslice6o => A (((), ((), (t26, (t27, ())))), ((ob0_0, (ob0_1, ())), (newslice6o, ())))) x.1.2.2.1 x.1.2.2.2.1 x.2.1.1 x.2.1.2.1 x.2.2.1) n (((), ((), (t26, (t27, ())))), ((ob0_0, (ob0_1, ())), (newslice6o, ())))
def zd6 (N : Nat) (A_3 : Int -> Int -> Int -> (List Row) -> (List Row) -> Option (List Row × Unit)) (size3 t10 t11 : Int) (ob0_0 ob0_1 : List Row) : Option (List Row × Unit) :=
  cond (hide (ltI t11 t10)) (cond (eqI t11 (↑(0 : Nat) : Int)) (cond (hide (ltI (hide (wr (size3 + (↑ob0_0.length : Int)))) (0 : Int))) (none) (A_3 (hide (wr (size3 + (↑ob0_0.length : Int)))) t10 (hide (wr ((↑(0 : Nat) : Int) + (1 : Int)))) ob0_0 ob0_1)) (must (eqI t11 (↑((0 : Nat) + (1 : Nat)) : Int)) (cond (hide (ltI (hide (wr (size3 + (↑ob0_1.length : Int)))) (0 : Int))) (none) (A_3 (hide (wr (size3 + (↑ob0_1.length : Int)))) t10 (hide (wr ((↑((0 : Nat) + (1 : Nat)) : Int) + (1 : Int)))) ob0_0 ob0_1)))) (Option.bind (zey N size3) fun rr0 => zdj N N ((↑(2 : Nat) : Int)) (0 : Int) ob0_0 ob0_1 rr0.1)
def zd7 (N n : Nat) (size3 t10 t11 : Int) (ob0_0 ob0_1 : List Row) : Option (List Row × Unit) :=
  zao (fun A x => zd6 N (fun size3 t10 t11 ob0_0 ob0_1 => A (((), (size3, ((), (t10, (t11, ()))))), ((ob0_0, (ob0_1, ())), ()))) x.1.2.1 x.1.2.2.2.1 x.1.2.2.2.2.1 x.2.1.1 x.2.1.2.1) n (((), (size3, ((), (t10, (t11, ()))))), ((ob0_0, (ob0_1, ())), ()))
def zeA (N : Nat) (slices0 v1 : List Row) : Option (List Row × Unit) :=
  zd7 N N (0 : Int) ((↑(List.length [C.ro El.row slices0, C.ro El.row v1]) : Int)) (0 : Int) slices0 v1
def zjy (N : Nat) : Sg := sgK [(K.agg [.ro .row, .ro .row] rfl)] [(K.ro .row)] fun x => zeA N x.1.1 x.1.2.1
def zkk : List (Nat × Head) := [
    (3, ⟨⟨36, [(0, .u (.c (.asl 4000000 0 2))), (3, .u (.c (.int))), (9, .u (.c (.asl 4000000 0 2))), (10, .u (.c (.int))), (11, .u (.c (.int)))], [(4000000, ⟨false, 0, 1000000, .lit [.ro .row, .ro .row]⟩)]⟩, .exit 0⟩),
    (11, ⟨⟨36, [(6, .u (.c (.row 12000001))), (25, .u (.c (.asl 12000000 0 2))), (26, .u (.c (.int))), (27, .u (.c (.int)))], [(12000000, ⟨false, 0, 1000000, .lit [.ro .row, .ro .row]⟩), (12000001, ⟨true, 0, 116, .vec .row⟩)]⟩, .exit 2⟩)]
def zkl (N : Nat) : List (Nat × Sg) := [(3000219, zgH N)]
theorem zgK (N : Nat) : zbV Try.prog pd.els (zkl N) := ⟨ziK N, trivial⟩
theorem ziP (N : Nat) : SgOK Try.prog pd.els 2000198 (zjy N) :=
  zql zbW (zaw (zgK N)) Try.func198 (zaD (by kernel_rfl)) [(K.agg [.ro .row, .ro .row] rfl)] [(K.ro .row)] _ N zkk 4 fun x => by kernel_rfl
def p113 (N : Nat) : Option (Unit × (Int × List Row × List Row × List Pr × Unit) × Unit) :=
  some (((), ((0 : Int), [], [], [], ()), ()))
def g113 (N : Nat) : Sg := sgK [] [K.bx, (K.agg [.int, .ro .row, .ro .row, .ro .pair] rfl)] fun x => p113 N
def zqX : List (Nat × Head) := [
    ]
def zqY (N : Nat) : List (Nat × Sg) := []
theorem zl2 (N : Nat) : zbV Try.prog pd.els (zqY N) := trivial
theorem zl3 (N : Nat) : SgOK Try.prog pd.els 113 (g113 N) :=
  zbA zbW (zaw (zl2 N)) Try.func113 (zaD (by kernel_rfl)) [] [K.bx, (K.agg [.int, .ro .row, .ro .row, .ro .pair] rfl)] _ N zqX 4 fun x => by kernel_rfl
def p114 (N : Nat) (b0 : Int) (s1 v2 : List Row) (v3 : List Pr) (v4 : Stp) : Option ((Int × List Row × List Row × List Pr × Unit) × Int × Int × Unit) :=
  let u2 := (b0, s1, v2, v3, ())
  let u1 := some ((u2, (0 : Int), (8 : Int), ()))
  cond (hide false) (some ((u2, (0 : Int), (1 : Int), ()))) (Option.bind (p192 N (v4) b0) fun rr0 => cond (hide !eqI rr0.1 (0 : Int)) (some ((u2, (0 : Int), Prod.fst rr0, ()))) (Option.bind (p108 N (v4)) fun rr1 => cond (hide !eqI (rr1.2.1) (0 : Int)) (some ((u2, (0 : Int), Prod.fst rr1.2, ()))) (cond (hide (ltI (64 : Int) (hide (wr (hide (wr ((↑s1.length : Int) + (↑v2.length : Int))) + (↑rr1.1.length : Int)))))) u1 (cond (hide (eqI v4.kind (1 : Int))) (cond (hide (eqI b0 (200 : Int))) u1 (some (((hide (wr (b0 + (1 : Int))), s1, v2, v3, ()), hide (wr (hide (wr (b0 + (1 : Int))) - (1 : Int))), (0 : Int), ())))) (cond (hide (eqI v4.kind (6 : Int))) (cond (hide (eqI (↑v3.length : Int) (200 : Int))) u1 (must (leN ((List.length v3 + List.length [Pr.mk v4.v0 v4.v1]) * (16 : Nat)) (140737488355328 : Nat)) (some (((b0, s1, v2, v3 ++ [Pr.mk v4.v0 v4.v1], ()), (0 : Int), (0 : Int), ()))))) (cond (hide (eqI v4.kind (7 : Int))) (cond (hide (eqI (↑s1.length : Int) (8 : Int))) u1 (must (leN ((List.length s1 + List.length rr1.1) * (280 : Nat)) (140737488355328 : Nat)) (some (((b0, s1 ++ Prod.fst rr1, v2, v3, ()), (0 : Int), (0 : Int), ()))))) (must (leN ((List.length v2 + List.length rr1.1) * (280 : Nat)) (140737488355328 : Nat)) (some (((b0, s1, v2 ++ Prod.fst rr1, v3, ()), (0 : Int), (0 : Int), ()))))))))))
def g114 (N : Nat) : Sg := sgIO 3 [(K.agg [.int, .ro .row, .ro .row, .ro .pair] rfl), (K.st .step)] [(K.agg [.int, .ro .row, .ro .row, .ro .pair] rfl), K.int, K.int] fun x => p114 N x.1.1 x.1.2.1 x.1.2.2.1 x.1.2.2.2.1 x.2.1
def zqZ : List (Nat × Head) := [
    ]
def zq0 (N : Nat) : List (Nat × Sg) := [(192, g192 N), (108, g108 N)]
theorem zl4 (N : Nat) : zbV Try.prog pd.els (zq0 N) := ⟨zpw N, ⟨zlJ N, trivial⟩⟩
theorem zl5 (N : Nat) : SgOK Try.prog pd.els 114 (g114 N) :=
  zlA zbW (zaw (zl4 N)) Try.func114 (zaD (by kernel_rfl)) 3 (by decide) [(K.agg [.int, .ro .row, .ro .row, .ro .pair] rfl), (K.st .step)] [(K.agg [.int, .ro .row, .ro .row, .ro .pair] rfl), K.int, K.int] _ N zqZ 4 fun x => by kernel_rfl
def p117 (N : Nat) (b0 : Int) (v1 v2 : List Row) (v3 : List Pr) : Option ((Int × List Row × List Row × List Pr × Unit) × (Int × Int × List Row × List Pr × Unit) × Unit) :=
  cond (hide false) (some (((b0, v1, v2, v3, ()), ((0 : Int), (0 : Int), [], [], ()), ()))) (Option.bind (zeA N v1 v2) fun rr0 => Option.bind (p199 N v3) fun rr1 => some (((b0, v1, v2, v3, ()), ((↑v1.length : Int), b0, Prod.fst rr0, Prod.fst rr1, ()), ())))
def g117 (N : Nat) : Sg := sgIO 3 [(K.agg [.int, .ro .row, .ro .row, .ro .pair] rfl)] [(K.agg [.int, .ro .row, .ro .row, .ro .pair] rfl), (K.agg [.int, .int, .ro .row, .ro .pair] rfl)] fun x => p117 N x.1.1 x.1.2.1 x.1.2.2.1 x.1.2.2.2.1
def zq1 : List (Nat × Head) := [
    ]
def zq2 (N : Nat) : List (Nat × Sg) := [(2000198, zjy N), (199, g199 N)]
theorem zl6 (N : Nat) : zbV Try.prog pd.els (zq2 N) := ⟨ziP N, ⟨zpr N, trivial⟩⟩
theorem zl7 (N : Nat) : SgOK Try.prog pd.els 117 (g117 N) :=
  zlA zbW (zaw (zl6 N)) Try.func117 (zaD (by kernel_rfl)) 3 (by decide) [(K.agg [.int, .ro .row, .ro .row, .ro .pair] rfl)] [(K.agg [.int, .ro .row, .ro .row, .ro .pair] rfl), (K.agg [.int, .int, .ro .row, .ro .pair] rfl)] _ N zq1 4 fun x => by kernel_rfl
def zfn (N : Nat) (A_1000 : Int -> Int -> Int -> (List Row) -> (List Pr) -> Option (Int × Unit)) (log3 ob0_0 ob0_1 : Int) (ob0_2 : List Row) (ob0_3 : List Pr) : Option (Int × Unit) :=
  cond (hide (ltI log3 (6 : Int))) (cond (hide (ltI (hide (shlI (1 : Int) (UInt64.toNat (hide (u64I log3))))) (↑ob0_2.length : Int))) (A_1000 (hide (wr (log3 + (1 : Int)))) ob0_0 ob0_1 ob0_2 ob0_3) (some ((log3, ())))) (some ((log3, ())))
def zfo (N n : Nat) (log3 ob0_0 ob0_1 : Int) (ob0_2 : List Row) (ob0_3 : List Pr) : Option (Int × Unit) :=
  zao (fun A x => zfn N (fun log3 ob0_0 ob0_1 ob0_2 ob0_3 => A (((), (log3, ())), ((ob0_0, (ob0_1, (ob0_2, (ob0_3, ())))), ()))) x.1.2.1 x.2.1.1 x.2.1.2.1 x.2.1.2.2.1 x.2.1.2.2.2.1) n (((), (log3, ())), ((ob0_0, (ob0_1, (ob0_2, (ob0_3, ())))), ()))
def p120 (N : Nat) (c0 v1 : Int) (v2 : List Row) (v3 : List Pr) : Option (Int × Unit) :=
  zfo N N (1 : Int) c0 v1 v2 v3
def g120 (N : Nat) : Sg := sgK [(K.agg [.int, .int, .ro .row, .ro .pair] rfl)] [K.int] fun x => p120 N x.1.1 x.1.2.1 x.1.2.2.1 x.1.2.2.2.1
def zq3 : List (Nat × Head) := [
    (1000, ⟨⟨18, [(1, .u (.c (.ptr0 1001000000 0))), (3, .u (.c (.int)))], [(1001000000, ⟨false, 0, 80, .lit [.int, .int, .ro .row, .ro .pair]⟩)]⟩, .fall⟩)]
def zq4 (N : Nat) : List (Nat × Sg) := []
theorem zl8 (N : Nat) : zbV Try.prog pd.els (zq4 N) := trivial
theorem zpC (N : Nat) : SgOK Try.prog pd.els 120 (g120 N) :=
  zbA zbW (zaw (zl8 N)) Try.func120 (zaD (by kernel_rfl)) [(K.agg [.int, .int, .ro .row, .ro .pair] rfl)] [K.int] _ N zq3 4 fun x => by kernel_rfl
def p112 (N : Nat) : Option (Bool × Unit) :=
  Option.bind (p113 N) fun rr0 => Option.bind (p114 N (Prod.fst (rr0.2.1)) (Prod.fst (Prod.snd (rr0.2.1))) (Prod.fst (Prod.snd (Prod.snd (rr0.2.1)))) (Prod.fst (Prod.snd (Prod.snd (Prod.snd (rr0.2.1))))) (Stp.mk (1 : Int) (0 : Int) (0 : Int) (0 : Int) (Fr.zero) (Fr.zero) (Fr.zero) (Fr.zero) (Fr.zero))) fun rr1 => Option.bind (p114 N (rr1.1.1) (Prod.fst (rr1.1.2)) (Prod.fst (Prod.snd (rr1.1.2))) (Prod.fst (Prod.snd (Prod.snd (rr1.1.2)))) (Stp.mk (1 : Int) (0 : Int) (0 : Int) (0 : Int) (Fr.zero) (Fr.zero) (Fr.zero) (Fr.zero) (Fr.zero))) fun rr2 => Option.bind (p114 N (rr2.1.1) (Prod.fst (rr2.1.2)) (Prod.fst (Prod.snd (rr2.1.2))) (Prod.fst (Prod.snd (Prod.snd (rr2.1.2)))) (Stp.mk (3 : Int) (0 : Int) (0 : Int) (0 : Int) (Fr.zero) (Fr.zero) (Fr.zero) (Fr.zero) (Fr.zero))) fun rr3 => Option.bind (p117 N (rr3.1.1) (Prod.fst (rr3.1.2)) (Prod.fst (Prod.snd (rr3.1.2))) (Prod.fst (Prod.snd (Prod.snd (rr3.1.2))))) fun rr4 => let w0 := Prod.snd (rr4.2.1); let w1 := Prod.fst (Prod.snd w0); cond (hide (eqI (Prod.fst (rr1.2.2)) (0 : Int))) (cond (hide (eqI (rr1.2.1) (0 : Int))) (cond (hide (eqI (Prod.fst (rr2.2.2)) (0 : Int))) (cond (hide (eqI (rr2.2.1) (1 : Int))) (cond (hide (eqI (Prod.fst (rr3.2.2)) (0 : Int))) (cond (hide (eqI (Prod.fst w0) (2 : Int))) (cond (hide (eqI (↑(List.length w1) : Int) (1 : Int))) (Option.bind (p120 N (Prod.fst (rr4.2.1)) (Prod.fst w0) w1 (Prod.fst (Prod.snd (Prod.snd w0)))) fun rr5 => cond (hide (eqI rr5.1 (1 : Int))) (Option.bind (p119 N (Prod.fst (rr4.2.1)) (Prod.fst w0) w1 (Prod.fst (Prod.snd (Prod.snd w0)))) fun rr6 => some ((hide (eqI rr6.1 (0 : Int)), ()))) (some ((false, ())))) (some ((false, ())))) (some ((false, ())))) (some ((false, ())))) (some ((false, ())))) (some ((false, ())))) (some ((false, ())))) (some ((false, ())))
def g112 (N : Nat) : Sg := sgK [] [K.bool] fun x => p112 N
def zq5 : List (Nat × Head) := [
    ]
def zq6 (N : Nat) : List (Nat × Sg) := [(113, g113 N), (114, g114 N), (117, g117 N), (120, g120 N), (119, g119 N)]
theorem zl9 (N : Nat) : zbV Try.prog pd.els (zq6 N) := ⟨zl3 N, ⟨zl5 N, ⟨zl7 N, ⟨zpC N, ⟨zpB N, trivial⟩⟩⟩⟩⟩
theorem zpD (N : Nat) : SgOK Try.prog pd.els 112 (g112 N) :=
  zbA zbW (zaw (zl9 N)) Try.func112 (zaD (by kernel_rfl)) [] [K.bool] _ N zq5 4 fun x => by kernel_rfl
end
section
structure F5 where
  (k0 k1 k2 k3 k4 : Fr)
def F5.l (x : F5) : List Fr := [x.k0, x.k1, x.k2, x.k3, x.k4]
def F5.of? (l : List Fr) : Option F5 := match l with
  | [a, b, c, d, e] => some ⟨a, b, c, d, e⟩
  | _ => none
theorem F5.of_ok {l : List Fr} {x : F5} (h : F5.of? l = some x) : l = x.l := by
  unfold F5.of? at h
  split at h
  . cases h; rfl
  . cases h
end
section
def zma (N : Nat) (A_31 : Int -> (List Int) -> (List Int) -> Int -> Int -> (List Row) -> (List Pr) -> Option (Bool × Unit)) (i13 : Int) (public5o others6o : List Int) (ob2_0 ob2_1 : Int) (ob3 : List Row) (ob4 : List Pr) : Option (Bool × Unit) :=
  let u1 := List.getD ob3 i13.toNat zrow
  let u2 := leI (0 : Int) i13 && ltI i13 (↑ob3.length : Int)
  let u3 := (↑public5o.length : Int)
  let u4 := A_31 (hide (wr (i13 + (1 : Int)))) public5o others6o ob2_0 ob2_1 ob3 ob4
  let u5 := some ((false, ()))
  let u6 := hide (wr (i13 - u3))
  let u7 := Row.q1 u1
  let u8 := Row.q5 u1
  cond (hide (ltI i13 (↑ob3.length : Int))) (cond (hide (ltI i13 u3)) (must (leI (0 : Int) i13 && ltI i13 u3) (must u2 (cond (hide !eqL El.int [Row.w0 u1, Row.w1 u1, Row.w2 u1] [List.getD public5o i13.toNat (0 : Int), (-1 : Int), (-1 : Int)]) u5 (must u2 (cond (hide !eqL El.u64 [Fr.a0 u7, Fr.a1 u7, Fr.a2 u7, Fr.a3 u7] [(1 : UInt64), (0 : UInt64), (0 : UInt64), (0 : UInt64)]) u5 u4))))) (must (leI (0 : Int) u6 && ltI u6 (↑others6o.length : Int)) (must u2 (cond (hide !eqL El.int [Row.w0 u1, Row.w1 u1, Row.w2 u1] [List.getD others6o (Int.toNat u6) (0 : Int), (-1 : Int), (-1 : Int)]) u5 (must u2 (cond (hide !eqL El.u64 [Fr.a0 u8, Fr.a1 u8, Fr.a2 u8, Fr.a3 u8] [(1 : UInt64), (0 : UInt64), (0 : UInt64), (0 : UInt64)]) u5 u4)))))) (some ((true, ())))
def zmb (N n : Nat) (i13 : Int) (public5o others6o : List Int) (ob2_0 ob2_1 : Int) (ob3 : List Row) (ob4 : List Pr) : Option (Bool × Unit) :=
  zao (fun A x => zma N (fun i13 public5o others6o ob2_0 ob2_1 ob3 ob4 => A (((), ((), ((), (i13, ())))), (public5o, (others6o, ((ob2_0, (ob2_1, ((), ((), ())))), (ob3, (ob4, ()))))))) x.1.2.2.2.1 x.2.1 x.2.2.1 x.2.2.2.1.1 x.2.2.2.1.2.1 x.2.2.2.2.1 x.2.2.2.2.2.1) n (((), ((), ((), (i13, ())))), (public5o, (others6o, ((ob2_0, (ob2_1, ((), ((), ())))), (ob3, (ob4, ()))))))
def zmc (N : Nat) (A_12 : (List UInt8) -> Int -> Int -> (List Int) -> (List Int) -> (List Row) -> (List Row) -> (List Pr) -> Option (Bool × Unit)) (l0 : List UInt8) (i7 ob0_0 : Int) (public5o others6o : List Int) (ob3 ob4 : List Row) (ob5 : List Pr) : Option (Bool × Unit) :=
  cond (hide (ltI i7 (↑l0.length : Int))) (must (leI (0 : Int) i7 && ltI i7 (↑l0.length : Int)) (must (leI (0 : Int) i7 && ltI i7 (↑l0.length : Int)) (cond (hide (hide (List.getD l0 i7.toNat (0 : UInt8) % (2 : UInt8)) == (1 : UInt8))) (Option.bind (p114 N ob0_0 ob3 ob4 ob5 (Stp.mk (7 : Int) (hide (Int.tmod (hide (↑(UInt8.toNat (hide (List.getD l0 i7.toNat (0 : UInt8) / (2 : UInt8)))) : Int)) (3 : Int))) (0 : Int) (0 : Int) (Fr.zero) (Fr.zero) (Fr.zero) (Fr.zero) (Fr.zero))) fun rr2 => let w1 := Prod.snd (rr2.1.2); let w2 := Prod.fst (Prod.snd w1); let w0 := cond (hide !eqI (Prod.fst (rr2.2.2)) (0 : Int)) (some ((false, ()))) (cond (hide (eqI (7 : Int) (7 : Int))) (must (leN ((List.length public5o + List.length [hide (Int.tmod (hide (↑(UInt8.toNat (hide (List.getD l0 i7.toNat (0 : UInt8) / (2 : UInt8)))) : Int)) (3 : Int))]) * (8 : Nat)) (140737488355328 : Nat)) (A_12 l0 (hide (wr (i7 + (1 : Int)))) (rr2.1.1) (public5o ++ [hide (Int.tmod (hide (↑(UInt8.toNat (hide (List.getD l0 i7.toNat (0 : UInt8) / (2 : UInt8)))) : Int)) (3 : Int))]) others6o (Prod.fst (rr2.1.2)) (Prod.fst w1) w2)) (must (leN ((List.length others6o + List.length [hide (Int.tmod (hide (↑(UInt8.toNat (hide (List.getD l0 i7.toNat (0 : UInt8) / (2 : UInt8)))) : Int)) (3 : Int))]) * (8 : Nat)) (140737488355328 : Nat)) (A_12 l0 (hide (wr (i7 + (1 : Int)))) (rr2.1.1) public5o (others6o ++ [hide (Int.tmod (hide (↑(UInt8.toNat (hide (List.getD l0 i7.toNat (0 : UInt8) / (2 : UInt8)))) : Int)) (3 : Int))]) (Prod.fst (rr2.1.2)) (Prod.fst w1) w2))); cond (hide (eqI (7 : Int) (7 : Int))) (cond (hide (leI (8 : Int) (↑public5o.length : Int))) (cond (hide !eqI (Prod.fst (rr2.2.2)) (8 : Int)) (some ((false, ()))) (A_12 l0 (hide (wr (i7 + (1 : Int)))) (rr2.1.1) public5o others6o (Prod.fst (rr2.1.2)) (Prod.fst w1) w2)) w0) w0) (Option.bind (p114 N ob0_0 ob3 ob4 ob5 (Stp.mk (3 : Int) (hide (Int.tmod (hide (↑(UInt8.toNat (hide (List.getD l0 i7.toNat (0 : UInt8) / (2 : UInt8)))) : Int)) (3 : Int))) (0 : Int) (0 : Int) (Fr.zero) (Fr.zero) (Fr.zero) (Fr.zero) (Fr.zero))) fun rr1 => let w4 := Prod.snd (rr1.1.2); let w5 := Prod.fst (Prod.snd w4); let w3 := cond (hide !eqI (Prod.fst (rr1.2.2)) (0 : Int)) (some ((false, ()))) (cond (hide (eqI (3 : Int) (7 : Int))) (must (leN ((List.length public5o + List.length [hide (Int.tmod (hide (↑(UInt8.toNat (hide (List.getD l0 i7.toNat (0 : UInt8) / (2 : UInt8)))) : Int)) (3 : Int))]) * (8 : Nat)) (140737488355328 : Nat)) (A_12 l0 (hide (wr (i7 + (1 : Int)))) (rr1.1.1) (public5o ++ [hide (Int.tmod (hide (↑(UInt8.toNat (hide (List.getD l0 i7.toNat (0 : UInt8) / (2 : UInt8)))) : Int)) (3 : Int))]) others6o (Prod.fst (rr1.1.2)) (Prod.fst w4) w5)) (must (leN ((List.length others6o + List.length [hide (Int.tmod (hide (↑(UInt8.toNat (hide (List.getD l0 i7.toNat (0 : UInt8) / (2 : UInt8)))) : Int)) (3 : Int))]) * (8 : Nat)) (140737488355328 : Nat)) (A_12 l0 (hide (wr (i7 + (1 : Int)))) (rr1.1.1) public5o (others6o ++ [hide (Int.tmod (hide (↑(UInt8.toNat (hide (List.getD l0 i7.toNat (0 : UInt8) / (2 : UInt8)))) : Int)) (3 : Int))]) (Prod.fst (rr1.1.2)) (Prod.fst w4) w5))); cond (hide (eqI (3 : Int) (7 : Int))) (cond (hide (leI (8 : Int) (↑public5o.length : Int))) (cond (hide !eqI (Prod.fst (rr1.2.2)) (8 : Int)) (some ((false, ()))) (A_12 l0 (hide (wr (i7 + (1 : Int)))) (rr1.1.1) public5o others6o (Prod.fst (rr1.1.2)) (Prod.fst w4) w5)) w3) w3)))) (Option.bind (p117 N ob0_0 ob3 ob4 ob5) fun rr0 => let w6 := Prod.snd (Prod.snd (rr0.2.1)); cond (hide !eqI (Prod.fst (rr0.2.1)) (↑public5o.length : Int)) (some ((false, ()))) (cond (hide !eqI (↑(List.length (Prod.fst w6)) : Int) (hide (wr ((↑public5o.length : Int) + (↑others6o.length : Int))))) (some ((false, ()))) (zmb N N (0 : Int) public5o others6o (Prod.fst (rr0.2.1)) (Prod.fst (Prod.snd (rr0.2.1))) (Prod.fst w6) (Prod.fst (Prod.snd w6)))))
def zmd (N n : Nat) (l0 : List UInt8) (i7 ob0_0 : Int) (public5o others6o : List Int) (ob3 ob4 : List Row) (ob5 : List Pr) : Option (Bool × Unit) :=
  zao (fun A x => zmc N (fun l0 i7 ob0_0 public5o others6o ob3 ob4 ob5 => A ((l0, ((), ((), ((), (i7, ()))))), ((ob0_0, ((), ((), ((), ())))), (public5o, (others6o, (ob3, (ob4, (ob5, ())))))))) x.1.1 x.1.2.2.2.2.1 x.2.1.1 x.2.2.1 x.2.2.2.1 x.2.2.2.2.1 x.2.2.2.2.2.1 x.2.2.2.2.2.2.1) n ((l0, ((), ((), ((), (i7, ()))))), ((ob0_0, ((), ((), ((), ())))), (public5o, (others6o, (ob3, (ob4, (ob5, ())))))))
def zpE (N : Nat) (A_7 : (List UInt8) -> Int -> Int -> (List Row) -> (List Row) -> (List Pr) -> Option (Bool × Unit)) (l0 : List UInt8) (i4 ob0_0 : Int) (ob1 ob2 : List Row) (ob3 : List Pr) : Option (Bool × Unit) :=
  cond (hide (ltI i4 (3 : Int))) (Option.bind (p114 N ob0_0 ob1 ob2 ob3 (Stp.mk (1 : Int) (0 : Int) (0 : Int) (0 : Int) (Fr.zero) (Fr.zero) (Fr.zero) (Fr.zero) (Fr.zero))) fun rr0 => A_7 l0 (hide (wr (i4 + (1 : Int)))) (rr0.1.1) (Prod.fst (rr0.1.2)) (Prod.fst (Prod.snd (rr0.1.2))) (Prod.fst (Prod.snd (Prod.snd (rr0.1.2))))) (zmd N N l0 (0 : Int) ob0_0 [] [] ob1 ob2 ob3)
def zpF (N n : Nat) (l0 : List UInt8) (i4 ob0_0 : Int) (ob1 ob2 : List Row) (ob3 : List Pr) : Option (Bool × Unit) :=
  zao (fun A x => zpE N (fun l0 i4 ob0_0 ob1 ob2 ob3 => A ((l0, ((), (i4, ()))), ((ob0_0, ((), ((), ((), ())))), (ob1, (ob2, (ob3, ())))))) x.1.1 x.1.2.2.1 x.2.1.1 x.2.2.1 x.2.2.2.1 x.2.2.2.2.1) n ((l0, ((), (i4, ()))), ((ob0_0, ((), ((), ((), ())))), (ob1, (ob2, (ob3, ())))))
def p29 (N : Nat) (l0 : List UInt8) : Option (Bool × Unit) :=
  Option.bind (p112 N) fun rr0 => cond (hide !rr0.1) (some ((false, ()))) (cond (hide (ltI (40 : Int) (↑l0.length : Int))) (some ((true, ()))) (Option.bind (p113 N) fun rr1 => zpF N N l0 (0 : Int) (Prod.fst (rr1.2.1)) (Prod.fst (Prod.snd (rr1.2.1))) (Prod.fst (Prod.snd (Prod.snd (rr1.2.1)))) (Prod.fst (Prod.snd (Prod.snd (Prod.snd (rr1.2.1)))))))
def zq7 : List (Nat × Head) := [
    (7, ⟨⟨142, [(0, .u (.c (.ro .u8))), (3, .u (.c (.ptr0 8000000 0))), (4, .u (.c (.int)))], [(8000000, ⟨false, 0, 0, .lit [.int, .row 8000001, .row 8000002, .row 8000003]⟩), (8000001, ⟨true, 0, 116, .vec .row⟩), (8000002, ⟨true, 0, 116, .vec .row⟩), (8000003, ⟨true, 0, 158, .vec .pair⟩)]⟩, .exit 0⟩),
    (12, ⟨⟨142, [(0, .u (.c (.ro .u8))), (3, .u (.c (.ptr0 13000000 0))), (5, .u (.c (.row 13000001))), (6, .u (.c (.row 13000002))), (7, .u (.c (.int)))], [(13000000, ⟨false, 0, 0, .lit [.int, .row 13000003, .row 13000004, .row 13000005]⟩), (13000001, ⟨true, 0, 3, .vec .int⟩), (13000002, ⟨true, 0, 3, .vec .int⟩), (13000003, ⟨true, 0, 116, .vec .row⟩), (13000004, ⟨true, 0, 116, .vec .row⟩), (13000005, ⟨true, 0, 158, .vec .pair⟩)]⟩, .exit 2⟩),
    (31, ⟨⟨142, [(5, .u (.c (.row 32000000))), (6, .u (.c (.row 32000001))), (12, .u (.c (.ptr0 32000002 0))), (13, .u (.c (.int)))], [(32000000, ⟨true, 0, 3, .vec .int⟩), (32000001, ⟨true, 0, 3, .vec .int⟩), (32000002, ⟨false, 0, 80, .lit [.int, .int, .row 32000003, .row 32000004]⟩), (32000003, ⟨true, 0, 116, .vec .row⟩), (32000004, ⟨true, 0, 158, .vec .pair⟩)]⟩, .exit 5⟩)]
def zpG (N : Nat) : List (Nat × Sg) := [(112, g112 N), (113, g113 N), (114, g114 N), (117, g117 N)]
theorem znE (N : Nat) : zbV Try.prog pd.els (zpG N) := ⟨zpD N, ⟨zl3 N, ⟨zl5 N, ⟨zl7 N, trivial⟩⟩⟩⟩
end
end Go.Proofs.Ytgimohchocjgcaa.V
