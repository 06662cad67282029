import Derived.Test.YtgimohchocjgcaaVFM
import Derived.KernelRfl
import Derived.Test.YtgimohchocjgcaaVME
set_option linter.unusedVariables false
set_option linter.unusedSimpArgs false
namespace Go.Proofs.Ytgimohchocjgcaa.V
section
def p217 (N : Nat) (kind0 : Int) : Option (List Int × Bool × Unit) :=
  let u1 := cond (hide (eqI kind0 (4 : Int))) (some (([(0 : Int), (2 : Int)], true, ()))) (cond (hide (eqI kind0 (6 : Int))) (some (([(0 : Int), (1 : Int)], true, ()))) (some (([], false, ()))))
  let u6 := hide (eqI kind0 (3 : Int))
  let u4 := some (([(0 : Int)], true, ()))
  let u2 := cond u6 (cond u6 u4 u1) (cond (hide (eqI kind0 (7 : Int))) u4 u1)
  let u3 := some (([(0 : Int), (1 : Int), (2 : Int)], true, ()))
  let u5 := hide (eqI kind0 (2 : Int))
  cond (hide (eqI kind0 (1 : Int))) (some (([], true, ()))) (cond u5 (cond u5 u3 u2) (cond (hide (eqI kind0 (5 : Int))) u3 u2))
def g217 (N : Nat) : Sg := sgK [K.int] [(K.ro .int), K.bool] fun x => p217 N x.1
def zo3 : List (Nat × Head) := [
    ]
def zo4 (N : Nat) : List (Nat × Sg) := []
theorem zkU (N : Nat) : zbB Try.prog pd.els (zo4 N) := trivial
theorem zoa (N : Nat) : SgOK Try.prog pd.els 217 (g217 N) :=
  zbl zbC (zau (zkU N)) Try.func217 (zax (by kernel_rfl)) [K.int] [(K.ro .int), K.bool] _ N zo3 4 fun x => by kernel_rfl
def p195 (N : Nat) (at0 : Int) (w1 : List Int) : Option (Row × Unit) :=
  let u10 := (0 : Nat) + (1 : Nat) + (1 : Nat)
  let u1 := List.getD w1 u10 (0 : Int)
  let u2 := Fr.zero
  let u3 := List.getD w1 ((0 : Nat) + (1 : Nat)) (0 : Int)
  let u4 := List.getD w1 (0 : Nat) (0 : Int)
  let u5 := eqI at0 (↑((0 : Nat) + (1 : Nat) + (1 : Nat) + (1 : Nat) + (1 : Nat) + (1 : Nat) + (1 : Nat) + (1 : Nat)) : Int)
  let u6 := eqI at0 (↑((0 : Nat) + (1 : Nat) + (1 : Nat) + (1 : Nat) + (1 : Nat) + (1 : Nat) + (1 : Nat)) : Int)
  let u7 := eqI at0 (↑((0 : Nat) + (1 : Nat) + (1 : Nat) + (1 : Nat) + (1 : Nat) + (1 : Nat)) : Int)
  let u8 := eqI at0 (↑((0 : Nat) + (1 : Nat) + (1 : Nat) + (1 : Nat) + (1 : Nat)) : Int)
  let u9 := eqI at0 (↑((0 : Nat) + (1 : Nat) + (1 : Nat) + (1 : Nat)) : Int)
  let u11 := eqI at0 (↑((0 : Nat) + (1 : Nat)) : Int)
  let u12 := eqI at0 (↑(0 : Nat) : Int)
  must (leI (↑(3 : Nat) : Int) (↑w1.length : Int)) (must (leN ((0 : Nat) + (3 : Nat)) w1.length) (Option.bind (p75 N (1 : UInt64)) fun rr0 => cond u12 (must u12 (some ((Row.mk (rr0.1) u2 u2 u2 u2 u2 u2 u2 u4 u3 u1, ())))) (cond u11 (must u11 (some ((Row.mk u2 (rr0.1) u2 u2 u2 u2 u2 u2 u4 u3 u1, ())))) (cond (eqI at0 (↑u10 : Int)) (must (eqI at0 (↑u10 : Int)) (some ((Row.mk u2 u2 (rr0.1) u2 u2 u2 u2 u2 u4 u3 u1, ())))) (cond u9 (must u9 (some ((Row.mk u2 u2 u2 (rr0.1) u2 u2 u2 u2 u4 u3 u1, ())))) (cond u8 (must u8 (some ((Row.mk u2 u2 u2 u2 (rr0.1) u2 u2 u2 u4 u3 u1, ())))) (cond u7 (must u7 (some ((Row.mk u2 u2 u2 u2 u2 (rr0.1) u2 u2 u4 u3 u1, ())))) (cond u6 (must u6 (some ((Row.mk u2 u2 u2 u2 u2 u2 (rr0.1) u2 u4 u3 u1, ())))) (must u5 (must u5 (some ((Row.mk u2 u2 u2 u2 u2 u2 u2 (rr0.1) u4 u3 u1, ())))))))))))))
def g195 (N : Nat) : Sg := sgK [K.int, (K.ro .int)] [(K.st .row)] fun x => p195 N x.1 x.2.1
def zo5 : List (Nat × Head) := [
    ]
def zo6 (N : Nat) : List (Nat × Sg) := [(75, g75 N)]
theorem zkV (N : Nat) : zbB Try.prog pd.els (zo6 N) := ⟨zo0 N, trivial⟩
theorem zob (N : Nat) : SgOK Try.prog pd.els 195 (g195 N) :=
  zbl zbC (zau (zkV N)) Try.func195 (zax (by kernel_rfl)) [K.int, (K.ro .int)] [(K.st .row)] _ N zo5 4 fun x => by kernel_rfl
def p108 (N : Nat) (s0 : Stp) : Option (List Row × Int × Unit) :=
  let u2 := Fr.zero
  let u1 := some (([Row.mk (s0.q0) (s0.q1) (s0.q2) (s0.q3) (s0.q4) u2 u2 u2 (mxI s0.v0 (-1 : Int)) (mxI s0.v1 (-1 : Int)) (mxI s0.v2 (-1 : Int))], (0 : Int), ()))
  let u3 := [Stp.v0 s0, (-1 : Int), (-1 : Int)]
  let u4 := p195 N (6 : Int) ([Stp.v0 s0, (-1 : Int), Stp.v2 s0])
  let u5 := p195 N (7 : Int) ([Stp.v0 s0, Stp.v1 s0, (-1 : Int)])
  let u6 := hide (eqI s0.kind (1 : Int))
  let u7 := hide (eqI s0.kind (2 : Int))
  let u8 := hide (eqI s0.kind (3 : Int))
  let u9 := hide (eqI s0.kind (4 : Int))
  let u10 := hide (eqI s0.kind (5 : Int))
  let u11 := hide (eqI s0.kind (7 : Int))
  let u12 := some (([], (11 : Int), ()))
  let u13 := some (([], (0 : Int), ()))
  cond u6 (cond u6 u13 (cond u7 u1 (cond u8 (Option.bind (p195 N (5 : Int) u3) fun rr7 => some (([rr7.1], (0 : Int), ()))) (cond u9 (Option.bind u4 fun rr6 => some (([rr6.1], (0 : Int), ()))) (cond u10 (Option.bind u5 fun rr5 => some (([rr5.1, Row.mk u2 u2 u2 u2 u2 u2 u2 u2 s0.v2 (-1 : Int) (-1 : Int)], (0 : Int), ()))) (cond u11 (Option.bind (p195 N (1 : Int) u3) fun rr4 => some (([rr4.1], (0 : Int), ()))) u12)))))) (cond (hide (eqI s0.kind (6 : Int))) u13 (cond u7 u1 (cond u8 (Option.bind (p195 N (5 : Int) u3) fun rr3 => some (([rr3.1], (0 : Int), ()))) (cond u9 (Option.bind u4 fun rr2 => some (([rr2.1], (0 : Int), ()))) (cond u10 (Option.bind u5 fun rr1 => some (([rr1.1, Row.mk u2 u2 u2 u2 u2 u2 u2 u2 s0.v2 (-1 : Int) (-1 : Int)], (0 : Int), ()))) (cond u11 (Option.bind (p195 N (1 : Int) u3) fun rr0 => some (([rr0.1], (0 : Int), ()))) u12))))))
def g108 (N : Nat) : Sg := sgK [(K.st .step)] [(K.ro .row), K.int] fun x => p108 N x.1
def zo7 : List (Nat × Head) := [
    ]
def zo8 (N : Nat) : List (Nat × Sg) := [(195, g195 N)]
theorem zkW (N : Nat) : zbB Try.prog pd.els (zo8 N) := ⟨zob N, trivial⟩
theorem zkX (N : Nat) : SgOK Try.prog pd.els 108 (g108 N) :=
  zbl zbC (zau (zkW N)) Try.func108 (zax (by kernel_rfl)) [(K.st .step)] [(K.ro .row), K.int] _ N zo7 4 fun x => by kernel_rfl
def zhZ (N : Nat) (A_11 : Int -> Int -> Int -> Stp -> (List Int) -> Option (Int × Unit)) (vars1 t30 t31 : Int) (ob0 : Stp) (t29o : List Int) : Option (Int × Unit) :=
  let u1 := A_11 vars1 t30 (hide (wr (t31 + (1 : Int)))) (ob0) t29o
  let u2 := List.getD t29o t31.toNat (0 : Int)
  let u4 := some (((10 : Int), ()))
  let u3 := cond (hide !eqI ob0.kind (2 : Int)) u4 u1
  let u5 := eqI u2 (↑((0 : Nat) + (1 : Nat) + (1 : Nat)) : Int)
  let u6 := eqI u2 (↑((0 : Nat) + (1 : Nat)) : Int)
  let u7 := eqI u2 (↑(0 : Nat) : Int)
  cond (hide (ltI t31 t30)) (must (leI (0 : Int) t31 && ltI t31 (↑t29o.length : Int)) (cond u7 (must u7 (cond (hide (leI vars1 ob0.v0)) u4 (cond (hide (ltI ob0.v0 (0 : Int))) u3 u1))) (cond u6 (must u6 (cond (hide (leI vars1 ob0.v1)) u4 (cond (hide (ltI ob0.v1 (0 : Int))) u3 u1))) (must u5 (must u5 (cond (hide (leI vars1 ob0.v2)) u4 (cond (hide (ltI ob0.v2 (0 : Int))) u3 u1))))))) (some (((0 : Int), ())))
def zh0 (N n : Nat) (vars1 t30 t31 : Int) (ob0 : Stp) (t29o : List Int) : Option (Int × Unit) :=
  zap (fun A x => zhZ N (fun vars1 t30 t31 ob0 t29o => A ((vars1, ((), ((), (t30, (t31, ()))))), (ob0, (t29o, ())))) x.1.1 x.1.2.2.2.1 x.1.2.2.2.2.1 x.2.1 x.2.2.1) n ((vars1, ((), ((), (t30, (t31, ()))))), (ob0, (t29o, ())))
def zkY (N : Nat) (A_5 : Int -> (List Fr) -> Int -> Stp -> (List Int) -> Option (Int × Unit)) (vars1 : Int) (t21 : List Fr) (t22 : Int) (ob0 : Stp) (l5o : List Int) : Option (Int × Unit) :=
  cond (hide (ltI t22 (5 : Int))) (must (leI (0 : Int) t22 && (ltI t22 (↑(5 : Nat) : Int) && ltI t22 (↑t21.length : Int))) (Option.bind (p79 N ((List.getD t21 t22.toNat (Fr.zero)))) fun rr0 => cond (hide !rr0.1) (some (((4 : Int), ()))) (A_5 vars1 t21 (hide (wr (t22 + (1 : Int)))) (ob0) l5o))) (zh0 N N vars1 ((↑l5o.length : Int)) (0 : Int) (ob0) l5o)
def zkZ (N n : Nat) (vars1 : Int) (t21 : List Fr) (t22 : Int) (ob0 : Stp) (l5o : List Int) : Option (Int × Unit) :=
  zap (fun A x => zkY N (fun vars1 t21 t22 ob0 l5o => A ((vars1, ((), ((), (t21, (t22, ()))))), (ob0, (l5o, ())))) x.1.1 x.1.2.2.2.1 x.1.2.2.2.2.1 x.2.1 x.2.2.1) n ((vars1, ((), ((), (t21, (t22, ()))))), (ob0, (l5o, ())))
def p192 (N : Nat) (s0 : Stp) (vars1 : Int) : Option (Int × Unit) :=
  Option.bind (p217 N s0.kind) fun rr0 => cond (hide !rr0.2.1) (some (((11 : Int), ()))) (zkZ N N vars1 ([s0.q0, s0.q1, s0.q2, s0.q3, s0.q4]) (0 : Int) (s0) rr0.1)
def g192 (N : Nat) : Sg := sgK [(K.st .step), K.int] [K.int] fun x => p192 N x.1 x.2.1
def zo9 : List (Nat × Head) := [
    (5, ⟨⟨52, [(1, .u (.c (.int))), (2, .u (.c (.ptr0 6000000 0))), (5, .u (.c (.row 6000001))), (21, .u (.vec .fr)), (22, .u (.c (.int)))], [(6000000, ⟨false, 0, 112, .st .step⟩), (6000001, ⟨true, 0, 3, .vec .int⟩)]⟩, .exit 0⟩),
    (11, ⟨⟨52, [(1, .u (.c (.int))), (2, .u (.c (.ptr0 12000000 0))), (29, .u (.c (.row 12000001))), (30, .u (.c (.int))), (31, .u (.c (.int)))], [(12000000, ⟨false, 0, 112, .st .step⟩), (12000001, ⟨true, 0, 3, .vec .int⟩)]⟩, .exit 2⟩)]
def zpa (N : Nat) : List (Nat × Sg) := [(217, g217 N), (79, g79 N)]
theorem zk0 (N : Nat) : zbB Try.prog pd.els (zpa N) := ⟨zoa N, ⟨znf N, trivial⟩⟩
theorem zoc (N : Nat) : SgOK Try.prog pd.els 192 (g192 N) :=
  zbl zbC (zau (zk0 N)) Try.func192 (zax (by kernel_rfl)) [(K.st .step), K.int] [K.int] _ N zo9 4 fun x => by kernel_rfl
end
section
def zrow : Row := Row.mk Fr.zero Fr.zero Fr.zero Fr.zero Fr.zero Fr.zero Fr.zero Fr.zero (0 : Int) (0 : Int) (0 : Int)
def zci (x y : Row) : Bool := Fr.a0 x.q0 == Fr.a0 y.q0 && (Fr.a1 x.q0 == Fr.a1 y.q0 && (Fr.a2 x.q0 == Fr.a2 y.q0 && (Fr.a3 x.q0 == Fr.a3 y.q0 && true))) && (Fr.a0 x.q1 == Fr.a0 y.q1 && (Fr.a1 x.q1 == Fr.a1 y.q1 && (Fr.a2 x.q1 == Fr.a2 y.q1 && (Fr.a3 x.q1 == Fr.a3 y.q1 && true))) && (Fr.a0 x.q2 == Fr.a0 y.q2 && (Fr.a1 x.q2 == Fr.a1 y.q2 && (Fr.a2 x.q2 == Fr.a2 y.q2 && (Fr.a3 x.q2 == Fr.a3 y.q2 && true))) && (Fr.a0 x.q3 == Fr.a0 y.q3 && (Fr.a1 x.q3 == Fr.a1 y.q3 && (Fr.a2 x.q3 == Fr.a2 y.q3 && (Fr.a3 x.q3 == Fr.a3 y.q3 && true))) && (Fr.a0 x.q4 == Fr.a0 y.q4 && (Fr.a1 x.q4 == Fr.a1 y.q4 && (Fr.a2 x.q4 == Fr.a2 y.q4 && (Fr.a3 x.q4 == Fr.a3 y.q4 && true))) && (Fr.a0 x.q5 == Fr.a0 y.q5 && (Fr.a1 x.q5 == Fr.a1 y.q5 && (Fr.a2 x.q5 == Fr.a2 y.q5 && (Fr.a3 x.q5 == Fr.a3 y.q5 && true))) && (Fr.a0 x.q6 == Fr.a0 y.q6 && (Fr.a1 x.q6 == Fr.a1 y.q6 && (Fr.a2 x.q6 == Fr.a2 y.q6 && (Fr.a3 x.q6 == Fr.a3 y.q6 && true))) && (Fr.a0 x.q7 == Fr.a0 y.q7 && (Fr.a1 x.q7 == Fr.a1 y.q7 && (Fr.a2 x.q7 == Fr.a2 y.q7 && (Fr.a3 x.q7 == Fr.a3 y.q7 && true))) && true))))))) && (eqI x.w0 y.w0 && (eqI x.w1 y.w1 && (eqI x.w2 y.w2 && true)) && true)
end
section
def zk1 (N : Nat) (A_2 : (List Row) -> Int -> Int -> Option (Bool × Unit)) (A_5 : (List Row) -> Int -> Int -> (List Fr) -> Int -> Option (Bool × Unit)) (t8 : List Row) (t9 t10 : Int) (t15 : List Fr) (t16 : Int) : Option (Bool × Unit) :=
  cond (hide (ltI t16 (8 : Int))) (must (leI (0 : Int) t16 && (ltI t16 (↑(8 : Nat) : Int) && ltI t16 (↑t15.length : Int))) (Option.bind (p79 N ((List.getD t15 t16.toNat (Fr.zero)))) fun r0 => cond (hide !r0.1) (some ((false, ()))) (A_5 t8 t9 t10 t15 (hide (wr (t16 + (1 : Int))))))) (A_2 t8 t9 (hide (wr (t10 + (1 : Int)))))
def zk2 (N : Nat) (A_2 : (List Row) -> Int -> Int -> Option (Bool × Unit)) (n : Nat) (t8 : List Row) (t9 t10 : Int) (t15 : List Fr) (t16 : Int) : Option (Bool × Unit) :=
  zap (fun A x => zk1 N A_2 (fun t8 t9 t10 t15 t16 => A ((t8, (t9, (t10, (t15, (t16, ()))))), ())) x.1.1 x.1.2.1 x.1.2.2.1 x.1.2.2.2.1 x.1.2.2.2.2.1) n ((t8, (t9, (t10, (t15, (t16, ()))))), ())
def zk3 (N : Nat) (A_2 : (List Row) -> Int -> Int -> Option (Bool × Unit)) (t8 : List Row) (t9 t10 : Int) : Option (Bool × Unit) :=
  let u1 := List.getD t8 t10.toNat zrow
  let u2 := Row.q0 u1
  let u3 := Row.q1 u1
  let u4 := Row.q2 u1
  let u5 := Row.q3 u1
  let u6 := Row.q4 u1
  let u7 := Row.q5 u1
  let u8 := Row.q6 u1
  let u9 := Row.q7 u1
  cond (hide (ltI t10 t9)) (must (leI (0 : Int) t10 && ltI t10 (↑t8.length : Int)) (zk2 N A_2 N t8 t9 t10 ([Fr.mk (Fr.a0 u2) (Fr.a1 u2) (Fr.a2 u2) (Fr.a3 u2), Fr.mk (Fr.a0 u3) (Fr.a1 u3) (Fr.a2 u3) (Fr.a3 u3), Fr.mk (Fr.a0 u4) (Fr.a1 u4) (Fr.a2 u4) (Fr.a3 u4), Fr.mk (Fr.a0 u5) (Fr.a1 u5) (Fr.a2 u5) (Fr.a3 u5), Fr.mk (Fr.a0 u6) (Fr.a1 u6) (Fr.a2 u6) (Fr.a3 u6), Fr.mk (Fr.a0 u7) (Fr.a1 u7) (Fr.a2 u7) (Fr.a3 u7), Fr.mk (Fr.a0 u8) (Fr.a1 u8) (Fr.a2 u8) (Fr.a3 u8), Fr.mk (Fr.a0 u9) (Fr.a1 u9) (Fr.a2 u9) (Fr.a3 u9)]) (0 : Int))) (some ((true, ())))
def zk4 (N n : Nat) (t8 : List Row) (t9 t10 : Int) : Option (Bool × Unit) :=
  zap (fun A x => zk3 N (fun t8 t9 t10 => A ((t8, (t9, (t10, ()))), ())) x.1.1 x.1.2.1 x.1.2.2.1) n ((t8, (t9, (t10, ()))), ())
def p200 (N : Nat) (c0 v1 : Int) (v2 : List Row) (v3 : List Pr) : Option (Bool × Unit) :=
  zk4 N N v2 ((↑v2.length : Int)) (0 : Int)
def g200 (N : Nat) : Sg := sgK [(K.agg [.int, .int, .ro .row, .ro .pair] rfl)] [K.bool] fun x => p200 N x.1.1 x.1.2.1 x.1.2.2.1 x.1.2.2.2.1
def zpb : List (Nat × Head) := [
    (2, ⟨⟨24, [(8, .u (.c (.ro .row))), (9, .u (.c (.int))), (10, .u (.c (.int)))], []⟩, .exit 0⟩),
    (5, ⟨⟨24, [(8, .u (.c (.ro .row))), (9, .u (.c (.int))), (10, .u (.c (.int))), (15, .u (.vec .fr)), (16, .u (.c (.int)))], []⟩, .exit 2⟩)]
def zpc (N : Nat) : List (Nat × Sg) := [(79, g79 N)]
theorem zk5 (N : Nat) : zbB Try.prog pd.els (zpc N) := ⟨znf N, trivial⟩
theorem zod (N : Nat) : SgOK Try.prog pd.els 200 (g200 N) :=
  zbl zbC (zau (zk5 N)) Try.func200 (zax (by kernel_rfl)) [(K.agg [.int, .int, .ro .row, .ro .pair] rfl)] [K.bool] _ N zpb 4 fun x => by kernel_rfl
def zh1 (N : Nat) (A_12 : (List Pr) -> Int -> Int -> Int -> Int -> (List Row) -> (List Pr) -> Option (Bool × Unit)) (t28 : List Pr) (t29 t30 ob0_0 ob0_1 : Int) (ob0_2 : List Row) (ob0_3 : List Pr) : Option (Bool × Unit) :=
  cond (hide (ltI t30 t29)) (must (leI (0 : Int) t30 && ltI t30 (↑t28.length : Int)) (cond (hide (ltI (mnI (Pr.x (List.getD t28 t30.toNat (Pr.mk (0 : Int) (0 : Int)))) (Pr.y (List.getD t28 t30.toNat (Pr.mk (0 : Int) (0 : Int))))) (0 : Int))) (some ((false, ()))) (cond (hide (leI ob0_1 (mxI (Pr.x (List.getD t28 t30.toNat (Pr.mk (0 : Int) (0 : Int)))) (Pr.y (List.getD t28 t30.toNat (Pr.mk (0 : Int) (0 : Int))))))) (some ((false, ()))) (A_12 t28 t29 (hide (wr (t30 + (1 : Int)))) ob0_0 ob0_1 ob0_2 ob0_3)))) (some ((true, ())))
def zh2 (N n : Nat) (t28 : List Pr) (t29 t30 ob0_0 ob0_1 : Int) (ob0_2 : List Row) (ob0_3 : List Pr) : Option (Bool × Unit) :=
  zap (fun A x => zh1 N (fun t28 t29 t30 ob0_0 ob0_1 ob0_2 ob0_3 => A (((), (t28, (t29, (t30, ())))), ((ob0_0, (ob0_1, (ob0_2, (ob0_3, ())))), ()))) x.1.2.1 x.1.2.2.1 x.1.2.2.2.1 x.2.1.1 x.2.1.2.1 x.2.1.2.2.1 x.2.1.2.2.2.1) n (((), (t28, (t29, (t30, ())))), ((ob0_0, (ob0_1, (ob0_2, (ob0_3, ())))), ()))
def zk6 (N : Nat) (A_2 : (List Row) -> Int -> Int -> Int -> Int -> (List Row) -> (List Pr) -> Option (Bool × Unit)) (A_5 : (List Row) -> Int -> Int -> (List Int) -> Int -> Int -> Int -> (List Row) -> (List Pr) -> Option (Bool × Unit)) (t10 : List Row) (t11 t12 : Int) (t17 : List Int) (t18 ob0_0 ob0_1 : Int) (ob0_2 : List Row) (ob0_3 : List Pr) : Option (Bool × Unit) :=
  cond (hide (ltI t18 (3 : Int))) (must (leI (0 : Int) t18 && (ltI t18 (↑(3 : Nat) : Int) && ltI t18 (↑t17.length : Int))) (cond (hide (leI ob0_1 (List.getD t17 t18.toNat (0 : Int)))) (some ((false, ()))) (A_5 t10 t11 t12 t17 (hide (wr (t18 + (1 : Int)))) ob0_0 ob0_1 ob0_2 ob0_3))) (A_2 t10 t11 (hide (wr (t12 + (1 : Int)))) ob0_0 ob0_1 ob0_2 ob0_3)
def zk7 (N : Nat) (A_2 : (List Row) -> Int -> Int -> Int -> Int -> (List Row) -> (List Pr) -> Option (Bool × Unit)) (n : Nat) (t10 : List Row) (t11 t12 : Int) (t17 : List Int) (t18 ob0_0 ob0_1 : Int) (ob0_2 : List Row) (ob0_3 : List Pr) : Option (Bool × Unit) :=
  zap (fun A x => zk6 N A_2 (fun t10 t11 t12 t17 t18 ob0_0 ob0_1 ob0_2 ob0_3 => A (((), (t10, (t11, (t12, (t17, (t18, ())))))), ((ob0_0, (ob0_1, (ob0_2, (ob0_3, ())))), ()))) x.1.2.1 x.1.2.2.1 x.1.2.2.2.1 x.1.2.2.2.2.1 x.1.2.2.2.2.2.1 x.2.1.1 x.2.1.2.1 x.2.1.2.2.1 x.2.1.2.2.2.1) n (((), (t10, (t11, (t12, (t17, (t18, ())))))), ((ob0_0, (ob0_1, (ob0_2, (ob0_3, ())))), ()))
def zk8 (N : Nat) (A_2 : (List Row) -> Int -> Int -> Int -> Int -> (List Row) -> (List Pr) -> Option (Bool × Unit)) (t10 : List Row) (t11 t12 ob0_0 ob0_1 : Int) (ob0_2 : List Row) (ob0_3 : List Pr) : Option (Bool × Unit) :=
  cond (hide (ltI t12 t11)) (must (leI (0 : Int) t12 && ltI t12 (↑t10.length : Int)) (zk7 N A_2 N t10 t11 t12 ([Row.w0 (List.getD t10 t12.toNat zrow), Row.w1 (List.getD t10 t12.toNat zrow), Row.w2 (List.getD t10 t12.toNat zrow)]) (0 : Int) ob0_0 ob0_1 ob0_2 ob0_3)) (zh2 N N ob0_3 ((↑ob0_3.length : Int)) (0 : Int) ob0_0 ob0_1 ob0_2 ob0_3)
def zk9 (N n : Nat) (t10 : List Row) (t11 t12 ob0_0 ob0_1 : Int) (ob0_2 : List Row) (ob0_3 : List Pr) : Option (Bool × Unit) :=
  zap (fun A x => zk8 N (fun t10 t11 t12 ob0_0 ob0_1 ob0_2 ob0_3 => A (((), (t10, (t11, (t12, ())))), ((ob0_0, (ob0_1, (ob0_2, (ob0_3, ())))), ()))) x.1.2.1 x.1.2.2.1 x.1.2.2.2.1 x.2.1.1 x.2.1.2.1 x.2.1.2.2.1 x.2.1.2.2.2.1) n (((), (t10, (t11, (t12, ())))), ((ob0_0, (ob0_1, (ob0_2, (ob0_3, ())))), ()))
def p201 (N : Nat) (c0 v1 : Int) (v2 : List Row) (v3 : List Pr) : Option (Bool × Unit) :=
  zk9 N N v2 ((↑v2.length : Int)) (0 : Int) c0 v1 v2 v3
def g201 (N : Nat) : Sg := sgK [(K.agg [.int, .int, .ro .row, .ro .pair] rfl)] [K.bool] fun x => p201 N x.1.1 x.1.2.1 x.1.2.2.1 x.1.2.2.2.1
def zpd : List (Nat × Head) := [
    (2, ⟨⟨51, [(1, .u (.c (.ptr0 3000000 0))), (10, .u (.c (.ro .row))), (11, .u (.c (.int))), (12, .u (.c (.int)))], [(3000000, ⟨false, 0, 80, .lit [.int, .int, .ro .row, .ro .pair]⟩)]⟩, .exit 0⟩),
    (12, ⟨⟨51, [(1, .u (.c (.ptr0 13000000 0))), (28, .u (.c (.ro .pair))), (29, .u (.c (.int))), (30, .u (.c (.int)))], [(13000000, ⟨false, 0, 80, .lit [.int, .int, .ro .row, .ro .pair]⟩)]⟩, .exit 4⟩),
    (5, ⟨⟨51, [(1, .u (.c (.ptr0 6000000 0))), (10, .u (.c (.ro .row))), (11, .u (.c (.int))), (12, .u (.c (.int))), (17, .u (.vec .int)), (18, .u (.c (.int)))], [(6000000, ⟨false, 0, 80, .lit [.int, .int, .ro .row, .ro .pair]⟩)]⟩, .exit 2⟩)]
def zpe (N : Nat) : List (Nat × Sg) := []
theorem zla (N : Nat) : zbB Try.prog pd.els (zpe N) := trivial
theorem zoe (N : Nat) : SgOK Try.prog pd.els 201 (g201 N) :=
  zbl zbC (zau (zla N)) Try.func201 (zax (by kernel_rfl)) [(K.agg [.int, .int, .ro .row, .ro .pair] rfl)] [K.bool] _ N zpd 4 fun x => by kernel_rfl
def p220 (N : Nat) (r0 : Row) : Option (Bool × Unit) :=
  Option.bind (p108 N (Stp.mk (7 : Int) r0.w0 (0 : Int) (0 : Int) (Fr.zero) (Fr.zero) (Fr.zero) (Fr.zero) (Fr.zero))) fun rr0 => cond (hide (leI (0 : Int) r0.w0)) (must (ltI (0 : Int) (↑rr0.1.length : Int)) (some ((hide (zci r0 (List.getD rr0.1 (0 : Nat) zrow)), ())))) (some ((false, ())))
def g220 (N : Nat) : Sg := sgK [(K.st .row)] [K.bool] fun x => p220 N x.1
def zpf : List (Nat × Head) := [
    ]
def zpg (N : Nat) : List (Nat × Sg) := [(108, g108 N)]
theorem zlb (N : Nat) : zbB Try.prog pd.els (zpg N) := ⟨zkX N, trivial⟩
theorem zof (N : Nat) : SgOK Try.prog pd.els 220 (g220 N) :=
  zbl zbC (zau (zlb N)) Try.func220 (zax (by kernel_rfl)) [(K.st .row)] [K.bool] _ N zpf 4 fun x => by kernel_rfl
def zlc (N : Nat) (A_2 : (List Row) -> Int -> Int -> Int -> Int -> (List Row) -> (List Pr) -> Option (Bool × Unit)) (t6 : List Row) (t7 t8 ob0_0 ob0_1 : Int) (ob0_2 : List Row) (ob0_3 : List Pr) : Option (Bool × Unit) :=
  let u1 := List.getD t6 t8.toNat zrow
  let u2 := cond (hide (ltI (mnI (mnI (Row.w0 u1) (Row.w1 u1)) (Row.w2 u1)) (-1 : Int))) (some ((false, ()))) (A_2 t6 t7 (hide (wr (t8 + (1 : Int)))) ob0_0 ob0_1 ob0_2 ob0_3)
  let u3 := Row.q0 u1
  let u4 := Row.q1 u1
  let u5 := Row.q2 u1
  let u6 := Row.q3 u1
  let u7 := Row.q4 u1
  let u8 := Row.q5 u1
  let u9 := Row.q6 u1
  let u10 := Row.q7 u1
  cond (hide (ltI t8 t7)) (must (leI (0 : Int) t8 && ltI t8 (↑t6.length : Int)) (cond (hide (ltI t8 ob0_0)) (Option.bind (p220 N (Row.mk (Fr.mk (Fr.a0 u3) (Fr.a1 u3) (Fr.a2 u3) (Fr.a3 u3)) (Fr.mk (Fr.a0 u4) (Fr.a1 u4) (Fr.a2 u4) (Fr.a3 u4)) (Fr.mk (Fr.a0 u5) (Fr.a1 u5) (Fr.a2 u5) (Fr.a3 u5)) (Fr.mk (Fr.a0 u6) (Fr.a1 u6) (Fr.a2 u6) (Fr.a3 u6)) (Fr.mk (Fr.a0 u7) (Fr.a1 u7) (Fr.a2 u7) (Fr.a3 u7)) (Fr.mk (Fr.a0 u8) (Fr.a1 u8) (Fr.a2 u8) (Fr.a3 u8)) (Fr.mk (Fr.a0 u9) (Fr.a1 u9) (Fr.a2 u9) (Fr.a3 u9)) (Fr.mk (Fr.a0 u10) (Fr.a1 u10) (Fr.a2 u10) (Fr.a3 u10)) (Row.w0 u1) (Row.w1 u1) (Row.w2 u1))) fun r0 => cond (hide !r0.1) (some ((false, ()))) u2) u2)) (some ((true, ())))
def zld (N n : Nat) (t6 : List Row) (t7 t8 ob0_0 ob0_1 : Int) (ob0_2 : List Row) (ob0_3 : List Pr) : Option (Bool × Unit) :=
  zap (fun A x => zlc N (fun t6 t7 t8 ob0_0 ob0_1 ob0_2 ob0_3 => A (((), (t6, (t7, (t8, ())))), ((ob0_0, (ob0_1, (ob0_2, (ob0_3, ())))), ()))) x.1.2.1 x.1.2.2.1 x.1.2.2.2.1 x.2.1.1 x.2.1.2.1 x.2.1.2.2.1 x.2.1.2.2.2.1) n (((), (t6, (t7, (t8, ())))), ((ob0_0, (ob0_1, (ob0_2, (ob0_3, ())))), ()))
def p202 (N : Nat) (c0 v1 : Int) (v2 : List Row) (v3 : List Pr) : Option (Bool × Unit) :=
  zld N N v2 ((↑v2.length : Int)) (0 : Int) c0 v1 v2 v3
def g202 (N : Nat) : Sg := sgK [(K.agg [.int, .int, .ro .row, .ro .pair] rfl)] [K.bool] fun x => p202 N x.1.1 x.1.2.1 x.1.2.2.1 x.1.2.2.2.1
def zph : List (Nat × Head) := [
    (2, ⟨⟨36, [(1, .u (.c (.ptr0 3000000 0))), (6, .u (.c (.ro .row))), (7, .u (.c (.int))), (8, .u (.c (.int)))], [(3000000, ⟨false, 0, 80, .lit [.int, .int, .ro .row, .ro .pair]⟩)]⟩, .exit 0⟩)]
def zpi (N : Nat) : List (Nat × Sg) := [(220, g220 N)]
theorem zle (N : Nat) : zbB Try.prog pd.els (zpi N) := ⟨zof N, trivial⟩
theorem zog (N : Nat) : SgOK Try.prog pd.els 202 (g202 N) :=
  zbl zbC (zau (zle N)) Try.func202 (zax (by kernel_rfl)) [(K.agg [.int, .int, .ro .row, .ro .pair] rfl)] [K.bool] _ N zph 4 fun x => by kernel_rfl
def p119 (N : Nat) (c0 v1 : Int) (v2 : List Row) (v3 : List Pr) : Option (Int × Unit) :=
  let u1 := some (((10 : Int), ()))
  let u2 := some (((1 : Int), ()))
  let u3 := some (((4 : Int), ()))
  let u4 := some (((3 : Int), ()))
  let u5 := some (((0 : Int), ()))
  let u6 := p200 N c0 v1 v2 v3
  let u7 := p201 N c0 v1 v2 v3
  let u8 := p202 N c0 v1 v2 v3
  let u9 := hide (ltI c0 (0 : Int))
  let u10 := hide (ltI v1 (0 : Int))
  let u11 := hide (ltI (↑v2.length : Int) c0)
  let u12 := some (((8 : Int), ()))
  let u13 := hide (ltI (64 : Int) (↑v2.length : Int))
  let u14 := hide (ltI (200 : Int) v1)
  cond (hide (ltI (8 : Int) c0)) (cond (hide (ltI (8 : Int) c0)) u12 (cond u9 (cond u9 u2 (Option.bind u6 fun r33 => cond (hide !r33.1) u3 (Option.bind u7 fun r34 => cond (hide !r34.1) u1 (Option.bind u8 fun r35 => cond (hide !r35.1) u4 u5)))) (cond u10 (cond u10 u2 (Option.bind u6 fun r30 => cond (hide !r30.1) u3 (Option.bind u7 fun r31 => cond (hide !r31.1) u1 (Option.bind u8 fun r32 => cond (hide !r32.1) u4 u5)))) (cond u11 u2 (Option.bind u6 fun r27 => cond (hide !r27.1) u3 (Option.bind u7 fun r28 => cond (hide !r28.1) u1 (Option.bind u8 fun r29 => cond (hide !r29.1) u4 u5))))))) (cond u14 (cond u14 u12 (cond u9 (cond u9 u2 (Option.bind u6 fun r24 => cond (hide !r24.1) u3 (Option.bind u7 fun r25 => cond (hide !r25.1) u1 (Option.bind u8 fun r26 => cond (hide !r26.1) u4 u5)))) (cond u10 (cond u10 u2 (Option.bind u6 fun r21 => cond (hide !r21.1) u3 (Option.bind u7 fun r22 => cond (hide !r22.1) u1 (Option.bind u8 fun r23 => cond (hide !r23.1) u4 u5)))) (cond u11 u2 (Option.bind u6 fun r18 => cond (hide !r18.1) u3 (Option.bind u7 fun r19 => cond (hide !r19.1) u1 (Option.bind u8 fun r20 => cond (hide !r20.1) u4 u5))))))) (cond u13 (cond u13 u12 (cond u9 (cond u9 u2 (Option.bind u6 fun r15 => cond (hide !r15.1) u3 (Option.bind u7 fun r16 => cond (hide !r16.1) u1 (Option.bind u8 fun r17 => cond (hide !r17.1) u4 u5)))) (cond u10 (cond u10 u2 (Option.bind u6 fun r12 => cond (hide !r12.1) u3 (Option.bind u7 fun r13 => cond (hide !r13.1) u1 (Option.bind u8 fun r14 => cond (hide !r14.1) u4 u5)))) (cond u11 u2 (Option.bind u6 fun r9 => cond (hide !r9.1) u3 (Option.bind u7 fun r10 => cond (hide !r10.1) u1 (Option.bind u8 fun r11 => cond (hide !r11.1) u4 u5))))))) (cond (hide (ltI (200 : Int) (↑v3.length : Int))) u12 (cond u9 (cond u9 u2 (Option.bind u6 fun r6 => cond (hide !r6.1) u3 (Option.bind u7 fun r7 => cond (hide !r7.1) u1 (Option.bind u8 fun r8 => cond (hide !r8.1) u4 u5)))) (cond u10 (cond u10 u2 (Option.bind u6 fun r3 => cond (hide !r3.1) u3 (Option.bind u7 fun r4 => cond (hide !r4.1) u1 (Option.bind u8 fun r5 => cond (hide !r5.1) u4 u5)))) (cond u11 u2 (Option.bind u6 fun r0 => cond (hide !r0.1) u3 (Option.bind u7 fun r1 => cond (hide !r1.1) u1 (Option.bind u8 fun r2 => cond (hide !r2.1) u4 u5)))))))))
def g119 (N : Nat) : Sg := sgK [(K.agg [.int, .int, .ro .row, .ro .pair] rfl)] [K.int] fun x => p119 N x.1.1 x.1.2.1 x.1.2.2.1 x.1.2.2.2.1
def zpj : List (Nat × Head) := [
    ]
def zpk (N : Nat) : List (Nat × Sg) := [(200, g200 N), (201, g201 N), (202, g202 N)]
theorem zlf (N : Nat) : zbB Try.prog pd.els (zpk N) := ⟨zod N, ⟨zoe N, ⟨zog N, trivial⟩⟩⟩
theorem zlg (N : Nat) : SgOK Try.prog pd.els 119 (g119 N) :=
  zbl zbC (zau (zlf N)) Try.func119 (zax (by kernel_rfl)) [(K.agg [.int, .int, .ro .row, .ro .pair] rfl)] [K.int] _ N zpj 4 fun x => by kernel_rfl
end
section
def zcT (N : Nat) (A_11 : Int -> Int -> (List Row) -> (List Row) -> (List Row) -> Option (List Row × Unit)) (t26 t27 : Int) (ob0_0 ob0_1 newslice6o : List Row) : Option (List Row × Unit) :=
  cond (hide (ltI t27 t26)) (cond (eqI t27 (↑(0 : Nat) : Int)) (must (leN ((List.length newslice6o + List.length ob0_0) * (280 : Nat)) (140737488355328 : Nat)) (A_11 t26 (hide (wr ((↑(0 : Nat) : Int) + (1 : Int)))) ob0_0 ob0_1 (newslice6o ++ ob0_0))) (must (eqI t27 (↑((0 : Nat) + (1 : Nat)) : Int)) (must (leN ((List.length newslice6o + List.length ob0_1) * (280 : Nat)) (140737488355328 : Nat)) (A_11 t26 (hide (wr ((↑((0 : Nat) + (1 : Nat)) : Int) + (1 : Int)))) ob0_0 ob0_1 (newslice6o ++ ob0_1))))) (some ((newslice6o, ())))
def zcU (N n : Nat) (t26 t27 : Int) (ob0_0 ob0_1 newslice6o : List Row) : Option (List Row × Unit) :=
  zap (fun A x => zcT N (fun t26 t27 ob0_0 ob0_1 newslice6o => A (((), ((), (t26, (t27, ())))), ((ob0_0, (ob0_1, ())), (newslice6o, ())))) x.1.2.2.1 x.1.2.2.2.1 x.2.1.1 x.2.1.2.1 x.2.2.1) n (((), ((), (t26, (t27, ())))), ((ob0_0, (ob0_1, ())), (newslice6o, ())))
def zdB (N : Nat) (A_3 : Int -> Int -> Int -> (List Row) -> (List Row) -> Option (List Row × Unit)) (size3 t10 t11 : Int) (ob0_0 ob0_1 : List Row) : Option (List Row × Unit) :=
  cond (hide (ltI t11 t10)) (cond (eqI t11 (↑(0 : Nat) : Int)) (cond (hide (ltI (hide (wr (size3 + (↑ob0_0.length : Int)))) (0 : Int))) (none) (A_3 (hide (wr (size3 + (↑ob0_0.length : Int)))) t10 (hide (wr ((↑(0 : Nat) : Int) + (1 : Int)))) ob0_0 ob0_1)) (must (eqI t11 (↑((0 : Nat) + (1 : Nat)) : Int)) (cond (hide (ltI (hide (wr (size3 + (↑ob0_1.length : Int)))) (0 : Int))) (none) (A_3 (hide (wr (size3 + (↑ob0_1.length : Int)))) t10 (hide (wr ((↑((0 : Nat) + (1 : Nat)) : Int) + (1 : Int)))) ob0_0 ob0_1)))) (Option.bind (zdZ N size3) fun rr0 => zcU N N ((↑(2 : Nat) : Int)) (0 : Int) ob0_0 ob0_1 rr0.1)
def zdC (N n : Nat) (size3 t10 t11 : Int) (ob0_0 ob0_1 : List Row) : Option (List Row × Unit) :=
  zap (fun A x => zdB N (fun size3 t10 t11 ob0_0 ob0_1 => A (((), (size3, ((), (t10, (t11, ()))))), ((ob0_0, (ob0_1, ())), ()))) x.1.2.1 x.1.2.2.2.1 x.1.2.2.2.2.1 x.2.1.1 x.2.1.2.1) n (((), (size3, ((), (t10, (t11, ()))))), ((ob0_0, (ob0_1, ())), ()))
def zd0 (N : Nat) (slices0 v1 : List Row) : Option (List Row × Unit) :=
  zdC N N (0 : Int) ((↑(List.length [C.ro El.row slices0, C.ro El.row v1]) : Int)) (0 : Int) slices0 v1
def ziN (N : Nat) : Sg := sgK [(K.agg [.ro .row, .ro .row] rfl)] [(K.ro .row)] fun x => zd0 N x.1.1 x.1.2.1
def zjy : List (Nat × Head) := [
    (3, ⟨⟨36, [(0, .u (.c (.asl 4000000 0 2))), (3, .u (.c (.int))), (9, .u (.c (.asl 4000000 0 2))), (10, .u (.c (.int))), (11, .u (.c (.int)))], [(4000000, ⟨false, 0, 1000000, .lit [.ro .row, .ro .row]⟩)]⟩, .exit 0⟩),
    (11, ⟨⟨36, [(6, .u (.c (.row 12000001))), (25, .u (.c (.asl 12000000 0 2))), (26, .u (.c (.int))), (27, .u (.c (.int)))], [(12000000, ⟨false, 0, 1000000, .lit [.ro .row, .ro .row]⟩), (12000001, ⟨true, 0, 116, .vec .row⟩)]⟩, .exit 2⟩)]
def zjz (N : Nat) : List (Nat × Sg) := [(3000219, zfZ N)]
theorem zf2 (N : Nat) : zbB Try.prog pd.els (zjz N) := ⟨zhY N, trivial⟩
theorem zh3 (N : Nat) : SgOK Try.prog pd.els 2000198 (ziN N) :=
  zoM zbC (zau (zf2 N)) Try.func198 (zax (by kernel_rfl)) [(K.agg [.ro .row, .ro .row] rfl)] [(K.ro .row)] _ N zjy 4 fun x => by kernel_rfl
def p113 (N : Nat) : Option (Unit × (Int × List Row × List Row × List Pr × Unit) × Unit) :=
  some (((), ((0 : Int), [], [], [], ()), ()))
def g113 (N : Nat) : Sg := sgK [] [K.bx, (K.agg [.int, .ro .row, .ro .row, .ro .pair] rfl)] fun x => p113 N
def zpl : List (Nat × Head) := [
    ]
def zpm (N : Nat) : List (Nat × Sg) := []
theorem zlh (N : Nat) : zbB Try.prog pd.els (zpm N) := trivial
theorem zli (N : Nat) : SgOK Try.prog pd.els 113 (g113 N) :=
  zbl zbC (zau (zlh N)) Try.func113 (zax (by kernel_rfl)) [] [K.bx, (K.agg [.int, .ro .row, .ro .row, .ro .pair] rfl)] _ N zpl 4 fun x => by kernel_rfl
def p114 (N : Nat) (b0 : Int) (s1 v2 : List Row) (v3 : List Pr) (v4 : Stp) : Option ((Int × List Row × List Row × List Pr × Unit) × Int × Int × Unit) :=
  let u2 := (b0, s1, v2, v3, ())
  let u1 := some ((u2, (0 : Int), (8 : Int), ()))
  cond (hide false) (some ((u2, (0 : Int), (1 : Int), ()))) (Option.bind (p192 N (v4) b0) fun rr0 => cond (hide !eqI rr0.1 (0 : Int)) (some ((u2, (0 : Int), Prod.fst rr0, ()))) (Option.bind (p108 N (v4)) fun rr1 => cond (hide !eqI (rr1.2.1) (0 : Int)) (some ((u2, (0 : Int), Prod.fst rr1.2, ()))) (cond (hide (ltI (64 : Int) (hide (wr (hide (wr ((↑s1.length : Int) + (↑v2.length : Int))) + (↑rr1.1.length : Int)))))) u1 (cond (hide (eqI v4.kind (1 : Int))) (cond (hide (eqI b0 (200 : Int))) u1 (some (((hide (wr (b0 + (1 : Int))), s1, v2, v3, ()), hide (wr (hide (wr (b0 + (1 : Int))) - (1 : Int))), (0 : Int), ())))) (cond (hide (eqI v4.kind (6 : Int))) (cond (hide (eqI (↑v3.length : Int) (200 : Int))) u1 (must (leN ((List.length v3 + List.length [Pr.mk v4.v0 v4.v1]) * (16 : Nat)) (140737488355328 : Nat)) (some (((b0, s1, v2, v3 ++ [Pr.mk v4.v0 v4.v1], ()), (0 : Int), (0 : Int), ()))))) (cond (hide (eqI v4.kind (7 : Int))) (cond (hide (eqI (↑s1.length : Int) (8 : Int))) u1 (must (leN ((List.length s1 + List.length rr1.1) * (280 : Nat)) (140737488355328 : Nat)) (some (((b0, s1 ++ Prod.fst rr1, v2, v3, ()), (0 : Int), (0 : Int), ()))))) (must (leN ((List.length v2 + List.length rr1.1) * (280 : Nat)) (140737488355328 : Nat)) (some (((b0, s1, v2 ++ Prod.fst rr1, v3, ()), (0 : Int), (0 : Int), ()))))))))))
def g114 (N : Nat) : Sg := sgIO 3 [(K.agg [.int, .ro .row, .ro .row, .ro .pair] rfl), (K.st .step)] [(K.agg [.int, .ro .row, .ro .row, .ro .pair] rfl), K.int, K.int] fun x => p114 N x.1.1 x.1.2.1 x.1.2.2.1 x.1.2.2.2.1 x.2.1
def zpn : List (Nat × Head) := [
    ]
def zpo (N : Nat) : List (Nat × Sg) := [(192, g192 N), (108, g108 N)]
theorem zlj (N : Nat) : zbB Try.prog pd.els (zpo N) := ⟨zoc N, ⟨zkX N, trivial⟩⟩
theorem zlk (N : Nat) : SgOK Try.prog pd.els 114 (g114 N) :=
  zkP zbC (zau (zlj N)) Try.func114 (zax (by kernel_rfl)) 3 (by decide) [(K.agg [.int, .ro .row, .ro .row, .ro .pair] rfl), (K.st .step)] [(K.agg [.int, .ro .row, .ro .row, .ro .pair] rfl), K.int, K.int] _ N zpn 4 fun x => by kernel_rfl
def p117 (N : Nat) (b0 : Int) (v1 v2 : List Row) (v3 : List Pr) : Option ((Int × List Row × List Row × List Pr × Unit) × (Int × Int × List Row × List Pr × Unit) × Unit) :=
  cond (hide false) (some (((b0, v1, v2, v3, ()), ((0 : Int), (0 : Int), [], [], ()), ()))) (Option.bind (zd0 N v1 v2) fun rr0 => Option.bind (p199 N v3) fun rr1 => some (((b0, v1, v2, v3, ()), ((↑v1.length : Int), b0, Prod.fst rr0, Prod.fst rr1, ()), ())))
def g117 (N : Nat) : Sg := sgIO 3 [(K.agg [.int, .ro .row, .ro .row, .ro .pair] rfl)] [(K.agg [.int, .ro .row, .ro .row, .ro .pair] rfl), (K.agg [.int, .int, .ro .row, .ro .pair] rfl)] fun x => p117 N x.1.1 x.1.2.1 x.1.2.2.1 x.1.2.2.2.1
def zpp : List (Nat × Head) := [
    ]
def zpq (N : Nat) : List (Nat × Sg) := [(2000198, ziN N), (199, g199 N)]
theorem zll (N : Nat) : zbB Try.prog pd.els (zpq N) := ⟨zh3 N, ⟨zn7 N, trivial⟩⟩
theorem zlm (N : Nat) : SgOK Try.prog pd.els 117 (g117 N) :=
  zkP zbC (zau (zll N)) Try.func117 (zax (by kernel_rfl)) 3 (by decide) [(K.agg [.int, .ro .row, .ro .row, .ro .pair] rfl)] [(K.agg [.int, .ro .row, .ro .row, .ro .pair] rfl), (K.agg [.int, .int, .ro .row, .ro .pair] rfl)] _ N zpp 4 fun x => by kernel_rfl
def zeM (N : Nat) (A_1000 : Int -> Int -> Int -> (List Row) -> (List Pr) -> Option (Int × Unit)) (log3 ob0_0 ob0_1 : Int) (ob0_2 : List Row) (ob0_3 : List Pr) : Option (Int × Unit) :=
  cond (hide (ltI log3 (6 : Int))) (cond (hide (ltI (hide (shlI (1 : Int) (UInt64.toNat (hide (u64I log3))))) (↑ob0_2.length : Int))) (A_1000 (hide (wr (log3 + (1 : Int)))) ob0_0 ob0_1 ob0_2 ob0_3) (some ((log3, ())))) (some ((log3, ())))
def zeN (N n : Nat) (log3 ob0_0 ob0_1 : Int) (ob0_2 : List Row) (ob0_3 : List Pr) : Option (Int × Unit) :=
  zap (fun A x => zeM N (fun log3 ob0_0 ob0_1 ob0_2 ob0_3 => A (((), (log3, ())), ((ob0_0, (ob0_1, (ob0_2, (ob0_3, ())))), ()))) x.1.2.1 x.2.1.1 x.2.1.2.1 x.2.1.2.2.1 x.2.1.2.2.2.1) n (((), (log3, ())), ((ob0_0, (ob0_1, (ob0_2, (ob0_3, ())))), ()))
def p120 (N : Nat) (c0 v1 : Int) (v2 : List Row) (v3 : List Pr) : Option (Int × Unit) :=
  zeN N N (1 : Int) c0 v1 v2 v3
def g120 (N : Nat) : Sg := sgK [(K.agg [.int, .int, .ro .row, .ro .pair] rfl)] [K.int] fun x => p120 N x.1.1 x.1.2.1 x.1.2.2.1 x.1.2.2.2.1
def zpr : List (Nat × Head) := [
    (1000, ⟨⟨18, [(1, .u (.c (.ptr0 1001000000 0))), (3, .u (.c (.int)))], [(1001000000, ⟨false, 0, 80, .lit [.int, .int, .ro .row, .ro .pair]⟩)]⟩, .fall⟩)]
def zps (N : Nat) : List (Nat × Sg) := []
theorem zln (N : Nat) : zbB Try.prog pd.els (zps N) := trivial
theorem zoh (N : Nat) : SgOK Try.prog pd.els 120 (g120 N) :=
  zbl zbC (zau (zln N)) Try.func120 (zax (by kernel_rfl)) [(K.agg [.int, .int, .ro .row, .ro .pair] rfl)] [K.int] _ N zpr 4 fun x => by kernel_rfl
def p112 (N : Nat) : Option (Bool × Unit) :=
  Option.bind (p113 N) fun rr0 => Option.bind (p114 N (Prod.fst (rr0.2.1)) (Prod.fst (Prod.snd (rr0.2.1))) (Prod.fst (Prod.snd (Prod.snd (rr0.2.1)))) (Prod.fst (Prod.snd (Prod.snd (Prod.snd (rr0.2.1))))) (Stp.mk (1 : Int) (0 : Int) (0 : Int) (0 : Int) (Fr.zero) (Fr.zero) (Fr.zero) (Fr.zero) (Fr.zero))) fun rr1 => Option.bind (p114 N (rr1.1.1) (Prod.fst (rr1.1.2)) (Prod.fst (Prod.snd (rr1.1.2))) (Prod.fst (Prod.snd (Prod.snd (rr1.1.2)))) (Stp.mk (1 : Int) (0 : Int) (0 : Int) (0 : Int) (Fr.zero) (Fr.zero) (Fr.zero) (Fr.zero) (Fr.zero))) fun rr2 => Option.bind (p114 N (rr2.1.1) (Prod.fst (rr2.1.2)) (Prod.fst (Prod.snd (rr2.1.2))) (Prod.fst (Prod.snd (Prod.snd (rr2.1.2)))) (Stp.mk (3 : Int) (0 : Int) (0 : Int) (0 : Int) (Fr.zero) (Fr.zero) (Fr.zero) (Fr.zero) (Fr.zero))) fun rr3 => Option.bind (p117 N (rr3.1.1) (Prod.fst (rr3.1.2)) (Prod.fst (Prod.snd (rr3.1.2))) (Prod.fst (Prod.snd (Prod.snd (rr3.1.2))))) fun rr4 => let w0 := Prod.snd (rr4.2.1); let w1 := Prod.fst (Prod.snd w0); cond (hide (eqI (Prod.fst (rr1.2.2)) (0 : Int))) (cond (hide (eqI (rr1.2.1) (0 : Int))) (cond (hide (eqI (Prod.fst (rr2.2.2)) (0 : Int))) (cond (hide (eqI (rr2.2.1) (1 : Int))) (cond (hide (eqI (Prod.fst (rr3.2.2)) (0 : Int))) (cond (hide (eqI (Prod.fst w0) (2 : Int))) (cond (hide (eqI (↑(List.length w1) : Int) (1 : Int))) (Option.bind (p120 N (Prod.fst (rr4.2.1)) (Prod.fst w0) w1 (Prod.fst (Prod.snd (Prod.snd w0)))) fun rr5 => cond (hide (eqI rr5.1 (1 : Int))) (Option.bind (p119 N (Prod.fst (rr4.2.1)) (Prod.fst w0) w1 (Prod.fst (Prod.snd (Prod.snd w0)))) fun rr6 => some ((hide (eqI rr6.1 (0 : Int)), ()))) (some ((false, ())))) (some ((false, ())))) (some ((false, ())))) (some ((false, ())))) (some ((false, ())))) (some ((false, ())))) (some ((false, ())))) (some ((false, ())))
def g112 (N : Nat) : Sg := sgK [] [K.bool] fun x => p112 N
def zpt : List (Nat × Head) := [
    ]
def zpu (N : Nat) : List (Nat × Sg) := [(113, g113 N), (114, g114 N), (117, g117 N), (120, g120 N), (119, g119 N)]
theorem zlo (N : Nat) : zbB Try.prog pd.els (zpu N) := ⟨zli N, ⟨zlk N, ⟨zlm N, ⟨zoh N, ⟨zlg N, trivial⟩⟩⟩⟩⟩
theorem zoi (N : Nat) : SgOK Try.prog pd.els 112 (g112 N) :=
  zbl zbC (zau (zlo N)) Try.func112 (zax (by kernel_rfl)) [] [K.bool] _ N zpt 4 fun x => by kernel_rfl
end
section
structure F5 where
  (k0 k1 k2 k3 k4 : Fr)
def F5.l (x : F5) : List Fr := [x.k0, x.k1, x.k2, x.k3, x.k4]
def F5.of? (l : List Fr) : Option F5 := match l with
  | [a, b, c, d, e] => some ⟨a, b, c, d, e⟩
  | _ => none
theorem F5.of_ok {l : List Fr} {x : F5} (h : F5.of? l = some x) : l = x.l := by
  unfold F5.of? at h
  split at h
  . cases h; rfl
  . cases h
end
section
def zlp (N : Nat) (A_12 : Int -> Int -> Int -> (List Int) -> (List Int) -> (List Row) -> (List Row) -> (List Pr) -> Option (Bool × Unit)) (k7 i8 ob0_0 : Int) (most5o kinds6o : List Int) (ob3 ob4 : List Row) (ob5 : List Pr) : Option (Bool × Unit) :=
  let u3 := Fr.zero
  let u1 := p114 N ob0_0 ob3 ob4 ob5 (Stp.mk (List.getD kinds6o k7.toNat (0 : Int)) (0 : Int) (1 : Int) (2 : Int) u3 u3 u3 u3 u3)
  let u2 := leI (0 : Int) k7 && ltI k7 (↑kinds6o.length : Int)
  must (leI (0 : Int) k7 && ltI k7 (↑most5o.length : Int)) (cond (hide (ltI i8 (List.getD most5o k7.toNat (0 : Int)))) (must u2 (Option.bind u1 fun rr3 => cond (hide !eqI (Prod.fst (rr3.2.2)) (0 : Int)) (some ((false, ()))) (A_12 k7 (hide (wr (i8 + (1 : Int)))) (rr3.1.1) most5o kinds6o (Prod.fst (rr3.1.2)) (Prod.fst (Prod.snd (rr3.1.2))) (Prod.fst (Prod.snd (Prod.snd (rr3.1.2))))))) (must u2 (Option.bind u1 fun rr0 => Option.bind (p117 N (rr0.1.1) (Prod.fst (rr0.1.2)) (Prod.fst (Prod.snd (rr0.1.2))) (Prod.fst (Prod.snd (Prod.snd (rr0.1.2))))) fun rr1 => cond (hide (eqI (Prod.fst (rr0.2.2)) (8 : Int))) (Option.bind (p119 N (Prod.fst (rr1.2.1)) (Prod.fst (Prod.snd (rr1.2.1))) (Prod.fst (Prod.snd (Prod.snd (rr1.2.1)))) (Prod.fst (Prod.snd (Prod.snd (Prod.snd (rr1.2.1)))))) fun rr2 => some ((hide (eqI rr2.1 (0 : Int)), ()))) (some ((false, ()))))))
def zlq (N n : Nat) (k7 i8 ob0_0 : Int) (most5o kinds6o : List Int) (ob3 ob4 : List Row) (ob5 : List Pr) : Option (Bool × Unit) :=
  zap (fun A x => zlp N (fun k7 i8 ob0_0 most5o kinds6o ob3 ob4 ob5 => A (((), ((), ((), (k7, (i8, ()))))), ((ob0_0, ((), ((), ((), ())))), (most5o, (kinds6o, (ob3, (ob4, (ob5, ())))))))) x.1.2.2.2.1 x.1.2.2.2.2.1 x.2.1.1 x.2.2.1 x.2.2.2.1 x.2.2.2.2.1 x.2.2.2.2.2.1 x.2.2.2.2.2.2.1) n (((), ((), ((), (k7, (i8, ()))))), ((ob0_0, ((), ((), ((), ())))), (most5o, (kinds6o, (ob3, (ob4, (ob5, ())))))))
def zoj (N : Nat) (A_5 : UInt8 -> Int -> Int -> (List Row) -> (List Row) -> (List Pr) -> Option (Bool × Unit)) (kind0 : UInt8) (i4 ob0_0 : Int) (ob1 ob2 : List Row) (ob3 : List Pr) : Option (Bool × Unit) :=
  cond (hide (ltI i4 (3 : Int))) (Option.bind (p114 N ob0_0 ob1 ob2 ob3 (Stp.mk (1 : Int) (0 : Int) (0 : Int) (0 : Int) (Fr.zero) (Fr.zero) (Fr.zero) (Fr.zero) (Fr.zero))) fun rr0 => A_5 kind0 (hide (wr (i4 + (1 : Int)))) (rr0.1.1) (Prod.fst (rr0.1.2)) (Prod.fst (Prod.snd (rr0.1.2))) (Prod.fst (Prod.snd (Prod.snd (rr0.1.2))))) (zlq N N (hide (↑(UInt8.toNat (hide (kind0 % (6 : UInt8)))) : Int)) (0 : Int) ob0_0 ([(197 : Int), (64 : Int), (64 : Int), (32 : Int), (200 : Int), (8 : Int)]) ([(1 : Int), (2 : Int), (4 : Int), (5 : Int), (6 : Int), (7 : Int)]) ob1 ob2 ob3)
def zok (N n : Nat) (kind0 : UInt8) (i4 ob0_0 : Int) (ob1 ob2 : List Row) (ob3 : List Pr) : Option (Bool × Unit) :=
  zap (fun A x => zoj N (fun kind0 i4 ob0_0 ob1 ob2 ob3 => A ((kind0, ((), (i4, ()))), ((ob0_0, ((), ((), ((), ())))), (ob1, (ob2, (ob3, ())))))) x.1.1 x.1.2.2.1 x.2.1.1 x.2.2.1 x.2.2.2.1 x.2.2.2.2.1) n ((kind0, ((), (i4, ()))), ((ob0_0, ((), ((), ((), ())))), (ob1, (ob2, (ob3, ())))))
def p28 (N : Nat) (kind0 : UInt8) : Option (Bool × Unit) :=
  Option.bind (p112 N) fun rr0 => cond (hide !rr0.1) (some ((false, ()))) (Option.bind (p113 N) fun rr1 => zok N N kind0 (0 : Int) (Prod.fst (rr1.2.1)) (Prod.fst (Prod.snd (rr1.2.1))) (Prod.fst (Prod.snd (Prod.snd (rr1.2.1)))) (Prod.fst (Prod.snd (Prod.snd (Prod.snd (rr1.2.1))))))
def zpv : List (Nat × Head) := [
    (5, ⟨⟨70, [(0, .u (.c (.u8))), (3, .u (.c (.ptr0 6000000 0))), (4, .u (.c (.int)))], [(6000000, ⟨false, 0, 0, .lit [.int, .row 6000001, .row 6000002, .row 6000003]⟩), (6000001, ⟨true, 0, 116, .vec .row⟩), (6000002, ⟨true, 0, 116, .vec .row⟩), (6000003, ⟨true, 0, 158, .vec .pair⟩)]⟩, .exit 0⟩),
    (12, ⟨⟨70, [(3, .u (.c (.ptr0 13000000 0))), (5, .u (.c (.row 13000001))), (6, .u (.c (.row 13000002))), (7, .u (.c (.int))), (8, .u (.c (.int)))], [(13000000, ⟨false, 0, 0, .lit [.int, .row 13000003, .row 13000004, .row 13000005]⟩), (13000001, ⟨true, 0, 3, .vec .int⟩), (13000002, ⟨true, 0, 3, .vec .int⟩), (13000003, ⟨true, 0, 116, .vec .row⟩), (13000004, ⟨true, 0, 116, .vec .row⟩), (13000005, ⟨true, 0, 158, .vec .pair⟩)]⟩, .exit 2⟩)]
def zol (N : Nat) : List (Nat × Sg) := [(112, g112 N), (113, g113 N), (114, g114 N), (117, g117 N), (119, g119 N)]
theorem zmH (N : Nat) : zbB Try.prog pd.els (zol N) := ⟨zoi N, ⟨zli N, ⟨zlk N, ⟨zlm N, ⟨zlg N, trivial⟩⟩⟩⟩⟩
end
end Go.Proofs.Ytgimohchocjgcaa.V
