import Derived.Test.YtgimohchocjgcaaVFM
set_option linter.unusedVariables false
set_option linter.unusedSimpArgs false
namespace Go.Proofs.Ytgimohchocjgcaa.V
section
def p193 (N : Nat) (a0 : Fr) : Option (Fr × Unit) :=
 Option.bind (p76 N (a0) (a0)) fun rr0 => Option.bind (p76 N (rr0.1) (rr0.1)) fun rr1 => Option.bind (p76 N (rr1.1) (a0)) fun rr2 => some ((rr2.1, ()))
def g193 (N : Nat) : Sg := sgK [K.fr] [K.fr] fun x => p193 N x.1
def zAv : List (Nat × Head) := [
  ]
def zAw (N : Nat) : List (Nat × Sg) := [(76, g76 N)]
theorem zqV (N : Nat) : zaK Try.prog pd.els (zAw N) := ⟨zws N, trivial⟩
theorem zx4 (N : Nat) : SgOK Try.prog pd.els 193 (g193 N) :=
 zaD zaN (zaj (zqV N)) Try.func193 (zap (by kernel_rfl)) [K.fr] [K.fr] _ N zAv 4 fun x => by kernel_rfl
def p195 (N : Nat) (at0 : Int) (w1 : List Int) : Option (Row × Unit) :=
 let u10 := (0 : Nat) + (1 : Nat) + (1 : Nat)
 let u1 := List.getD w1 u10 (0 : Int)
 let u2 := Fr.zero
 let u3 := List.getD w1 ((0 : Nat) + (1 : Nat)) (0 : Int)
 let u4 := List.getD w1 (0 : Nat) (0 : Int)
 let u5 := eqI at0 (↑((0 : Nat) + (1 : Nat) + (1 : Nat) + (1 : Nat) + (1 : Nat) + (1 : Nat) + (1 : Nat) + (1 : Nat)) : Int)
 let u6 := eqI at0 (↑((0 : Nat) + (1 : Nat) + (1 : Nat) + (1 : Nat) + (1 : Nat) + (1 : Nat) + (1 : Nat)) : Int)
 let u7 := eqI at0 (↑((0 : Nat) + (1 : Nat) + (1 : Nat) + (1 : Nat) + (1 : Nat) + (1 : Nat)) : Int)
 let u8 := eqI at0 (↑((0 : Nat) + (1 : Nat) + (1 : Nat) + (1 : Nat) + (1 : Nat)) : Int)
 let u9 := eqI at0 (↑((0 : Nat) + (1 : Nat) + (1 : Nat) + (1 : Nat)) : Int)
 let u11 := eqI at0 (↑((0 : Nat) + (1 : Nat)) : Int)
 let u12 := eqI at0 (↑(0 : Nat) : Int)
 must (leI (↑(3 : Nat) : Int) (↑w1.length : Int)) (must (leN ((0 : Nat) + (3 : Nat)) w1.length) (Option.bind (p75 N (1 : UInt64)) fun rr0 => cond u12 (must u12 (some ((Row.mk (rr0.1) u2 u2 u2 u2 u2 u2 u2 u4 u3 u1, ())))) (cond u11 (must u11 (some ((Row.mk u2 (rr0.1) u2 u2 u2 u2 u2 u2 u4 u3 u1, ())))) (cond (eqI at0 (↑u10 : Int)) (must (eqI at0 (↑u10 : Int)) (some ((Row.mk u2 u2 (rr0.1) u2 u2 u2 u2 u2 u4 u3 u1, ())))) (cond u9 (must u9 (some ((Row.mk u2 u2 u2 (rr0.1) u2 u2 u2 u2 u4 u3 u1, ())))) (cond u8 (must u8 (some ((Row.mk u2 u2 u2 u2 (rr0.1) u2 u2 u2 u4 u3 u1, ())))) (cond u7 (must u7 (some ((Row.mk u2 u2 u2 u2 u2 (rr0.1) u2 u2 u4 u3 u1, ())))) (cond u6 (must u6 (some ((Row.mk u2 u2 u2 u2 u2 u2 (rr0.1) u2 u4 u3 u1, ())))) (must u5 (must u5 (some ((Row.mk u2 u2 u2 u2 u2 u2 u2 (rr0.1) u4 u3 u1, ())))))))))))))
def g195 (N : Nat) : Sg := sgK [K.int, (K.ro .int)] [(K.st .row)] fun x => p195 N x.1 x.2.1
def zAx : List (Nat × Head) := [
  ]
def zAy (N : Nat) : List (Nat × Sg) := [(75, g75 N)]
theorem zqW (N : Nat) : zaK Try.prog pd.els (zAy N) := ⟨zwr N, trivial⟩
theorem zx5 (N : Nat) : SgOK Try.prog pd.els 195 (g195 N) :=
 zaD zaN (zaj (zqW N)) Try.func195 (zap (by kernel_rfl)) [K.int, (K.ro .int)] [(K.st .row)] _ N zAx 4 fun x => by kernel_rfl
def zqX (N : Nat) (A_4 : (List Fr) -> Int -> (List Fr) -> Fr -> Fr -> Option (Fr × Unit)) (t37 : List Fr) (t38 : Int) (ob0 : List Fr) (ob1 ob2 : Fr) : Option (Fr × Unit) :=
 cond (hide (ltI t38 (8 : Int))) (must (leI (0 : Int) t38 && (ltI t38 (↑(8 : Nat) : Int) && ltI t38 (↑t37.length : Int))) (must (leI (0 : Int) t38 && ltI t38 (↑(8 : Nat) : Int)) (Option.bind (p76 N ((List.getD ob0 t38.toNat (Fr.zero))) ((List.getD t37 t38.toNat (Fr.zero)))) fun rr0 => Option.bind (p80 N (ob2) (rr0.1)) fun rr1 => A_4 t37 (hide (wr (t38 + (1 : Int)))) ob0 (ob1) (rr1.1)))) (some ((ob2, ())))
def zqY (N n : Nat) (t37 : List Fr) (t38 : Int) (ob0 : List Fr) (ob1 ob2 : Fr) : Option (Fr × Unit) :=
 zan (fun A x => zqX N (fun t37 t38 ob0 ob1 ob2 => A (((), ((), ((), (t37, (t38, ()))))), (ob0, (ob1, (ob2, ()))))) x.1.2.2.2.1 x.1.2.2.2.2.1 x.2.1 x.2.2.1 x.2.2.2.1) n (((), ((), ((), (t37, (t38, ()))))), (ob0, (ob1, (ob2, ()))))
def p106 (N : Nat) (q0 : List Fr) (a1 b2 c3 next4 : Fr) : Option (Fr × Unit) :=
 must (Nat.beq q0.length (8 : Nat)) (Option.bind (p76 N (a1) (b2)) fun rr0 => Option.bind (p75 N (1 : UInt64)) fun rr1 => Option.bind (p76 N (a1) (a1)) fun rr2 => Option.bind (p82 N (rr2.1) (a1)) fun rr3 => Option.bind (p193 N (a1)) fun rr4 => Option.bind (p82 N (rr4.1) (c3)) fun rr5 => Option.bind (p80 N (a1) (b2)) fun rr6 => Option.bind (p82 N (rr6.1) (next4)) fun rr7 => zqY N N ([rr0.1, a1, b2, c3, rr1.1, rr3.1, rr5.1, rr7.1]) (0 : Int) q0 (Fr.zero) (Fr.zero))
def g106 (N : Nat) : Sg := sgK [(K.vec .fr), K.fr, K.fr, K.fr, K.fr] [K.fr] fun x => p106 N x.1 x.2.1 x.2.2.1 x.2.2.2.1 x.2.2.2.2.1
def zAz : List (Nat × Head) := [
  (4, ⟨⟨51, [(5, .u (.c (.ptr0 5000000 0))), (10, .u (.c (.ptr0 5000001 0))), (12, .u (.c (.ptr0 5000002 0))), (37, .u (.vec .fr)), (38, .u (.c (.int)))], [(5000000, ⟨false, 8, 106, .vec .fr⟩), (5000001, ⟨false, 4, 53, .fr⟩), (5000002, ⟨false, 4, 53, .fr⟩)]⟩, .exit 0⟩)]
def zAA (N : Nat) : List (Nat × Sg) := [(76, g76 N), (75, g75 N), (82, g82 N), (193, g193 N), (80, g80 N)]
theorem zqZ (N : Nat) : zaK Try.prog pd.els (zAA N) := ⟨zws N, ⟨zwr N, ⟨zwt N, ⟨zx4 N, ⟨zwu N, trivial⟩⟩⟩⟩⟩
theorem zx6 (N : Nat) : SgOK Try.prog pd.els 106 (g106 N) :=
 zaD zaN (zaj (zqZ N)) Try.func106 (zap (by kernel_rfl)) [(K.vec .fr), K.fr, K.fr, K.fr, K.fr] [K.fr] _ N zAz 4 fun x => by kernel_rfl
def p108 (N : Nat) (s0 : Stp) : Option (List Row × Int × Unit) :=
 let u2 := Fr.zero
 let u1 := some (([Row.mk (s0.q0) (s0.q1) (s0.q2) (s0.q3) (s0.q4) u2 u2 u2 (mxI s0.v0 (-1 : Int)) (mxI s0.v1 (-1 : Int)) (mxI s0.v2 (-1 : Int))], (0 : Int), ()))
 let u3 := [Stp.v0 s0, (-1 : Int), (-1 : Int)]
 let u4 := p195 N (6 : Int) ([Stp.v0 s0, (-1 : Int), Stp.v2 s0])
 let u5 := p195 N (7 : Int) ([Stp.v0 s0, Stp.v1 s0, (-1 : Int)])
 let u6 := hide (eqI s0.kind (1 : Int))
 let u7 := hide (eqI s0.kind (2 : Int))
 let u8 := hide (eqI s0.kind (3 : Int))
 let u9 := hide (eqI s0.kind (4 : Int))
 let u10 := hide (eqI s0.kind (5 : Int))
 let u11 := hide (eqI s0.kind (7 : Int))
 let u12 := some (([], (11 : Int), ()))
 let u13 := some (([], (0 : Int), ()))
 cond u6 (cond u6 u13 (cond u7 u1 (cond u8 (Option.bind (p195 N (5 : Int) u3) fun rr7 => some (([rr7.1], (0 : Int), ()))) (cond u9 (Option.bind u4 fun rr6 => some (([rr6.1], (0 : Int), ()))) (cond u10 (Option.bind u5 fun rr5 => some (([rr5.1, Row.mk u2 u2 u2 u2 u2 u2 u2 u2 s0.v2 (-1 : Int) (-1 : Int)], (0 : Int), ()))) (cond u11 (Option.bind (p195 N (1 : Int) u3) fun rr4 => some (([rr4.1], (0 : Int), ()))) u12)))))) (cond (hide (eqI s0.kind (6 : Int))) u13 (cond u7 u1 (cond u8 (Option.bind (p195 N (5 : Int) u3) fun rr3 => some (([rr3.1], (0 : Int), ()))) (cond u9 (Option.bind u4 fun rr2 => some (([rr2.1], (0 : Int), ()))) (cond u10 (Option.bind u5 fun rr1 => some (([rr1.1, Row.mk u2 u2 u2 u2 u2 u2 u2 u2 s0.v2 (-1 : Int) (-1 : Int)], (0 : Int), ()))) (cond u11 (Option.bind (p195 N (1 : Int) u3) fun rr0 => some (([rr0.1], (0 : Int), ()))) u12))))))
def g108 (N : Nat) : Sg := sgK [(K.st .step)] [(K.ro .row), K.int] fun x => p108 N x.1
def zAB : List (Nat × Head) := [
  ]
def zAC (N : Nat) : List (Nat × Sg) := [(195, g195 N)]
theorem zq0 (N : Nat) : zaK Try.prog pd.els (zAC N) := ⟨zx5 N, trivial⟩
theorem zx7 (N : Nat) : SgOK Try.prog pd.els 108 (g108 N) :=
 zaD zaN (zaj (zq0 N)) Try.func108 (zap (by kernel_rfl)) [(K.st .step)] [(K.ro .row), K.int] _ N zAB 4 fun x => by kernel_rfl
def p190 (N : Nat) (a0 b1 : Fr) : Option (Fr × Unit) :=
 Option.bind (p94 N (a0) (b1)) fun rr0 => some ((rr0.1, ()))
def g190 (N : Nat) : Sg := sgK [K.fr, K.fr] [K.fr] fun x => p190 N x.1 x.2.1
def zAD : List (Nat × Head) := [
  ]
def zAE (N : Nat) : List (Nat × Sg) := [(94, g94 N)]
theorem zq1 (N : Nat) : zaK Try.prog pd.els (zAE N) := ⟨zqN N, trivial⟩
theorem zx8 (N : Nat) : SgOK Try.prog pd.els 190 (g190 N) :=
 zaD zaN (zaj (zq1 N)) Try.func190 (zap (by kernel_rfl)) [K.fr, K.fr] [K.fr] _ N zAD 4 fun x => by kernel_rfl
def p194 (N : Nat) (a0 b1 : Fr) : Option (Fr × Unit) :=
 Option.bind (p81 N (a0) (b1)) fun rr0 => some ((rr0.1, ()))
def g194 (N : Nat) : Sg := sgK [K.fr, K.fr] [K.fr] fun x => p194 N x.1 x.2.1
def zAF : List (Nat × Head) := [
  ]
def zAG (N : Nat) : List (Nat × Sg) := [(81, g81 N)]
theorem zq2 (N : Nat) : zaK Try.prog pd.els (zAG N) := ⟨zqR N, trivial⟩
theorem zq3 (N : Nat) : SgOK Try.prog pd.els 194 (g194 N) :=
 zaD zaN (zaj (zq2 N)) Try.func194 (zap (by kernel_rfl)) [K.fr, K.fr] [K.fr] _ N zAF 4 fun x => by kernel_rfl
def zq4 (N : Nat) (A_5 : Int -> (List Fr) -> Fr -> (List Fr) -> Fr -> Option (Fr × Unit)) (i14 : Int) (ob0 : List Fr) (ob1 : Fr) (ob2 : List Fr) (ob3 : Fr) : Option (Fr × Unit) :=
 cond (hide (ltI i14 (8 : Int))) (must (leI (0 : Int) i14 && ltI i14 (↑(8 : Nat) : Int)) (must (leI (0 : Int) i14 && ltI i14 (↑(8 : Nat) : Int)) (Option.bind (p190 N ((List.getD ob0 i14.toNat (Fr.zero))) ((List.getD ob2 i14.toNat (Fr.zero)))) fun rr0 => Option.bind (p194 N (ob3) (rr0.1)) fun rr1 => A_5 (hide (wr (i14 + (1 : Int)))) ob0 (ob1) ob2 (rr1.1)))) (some ((ob3, ())))
def zq5 (N n : Nat) (i14 : Int) (ob0 : List Fr) (ob1 : Fr) (ob2 : List Fr) (ob3 : Fr) : Option (Fr × Unit) :=
 zan (fun A x => zq4 N (fun i14 ob0 ob1 ob2 ob3 => A (((), ((), ((), ((), (i14, ()))))), (ob0, (ob1, (ob2, (ob3, ())))))) x.1.2.2.2.2.1 x.2.1 x.2.2.1 x.2.2.2.1 x.2.2.2.2.1) n (((), ((), ((), ((), (i14, ()))))), (ob0, (ob1, (ob2, (ob3, ())))))
def p107 (N : Nat) (q0 : List Fr) (a1 b2 c3 next4 : Fr) : Option (Fr × Unit) :=
 must (Nat.beq q0.length (8 : Nat)) (Option.bind (p190 N (a1) (a1)) fun rr0 => Option.bind (p190 N (a1) (b2)) fun rr1 => Option.bind (p173 N (1 : UInt64)) fun rr2 => Option.bind (p83 N (rr0.1) (a1)) fun rr3 => Option.bind (p190 N (rr0.1) (rr0.1)) fun rr4 => Option.bind (p190 N (rr4.1) (a1)) fun rr5 => Option.bind (p83 N (rr5.1) (c3)) fun rr6 => Option.bind (p194 N (a1) (b2)) fun rr7 => Option.bind (p83 N (rr7.1) (next4)) fun rr8 => zq5 N N (0 : Int) q0 (Fr.zero) ([rr1.1, a1, b2, c3, rr2.1, rr3.1, rr6.1, rr8.1]) (Fr.zero))
def g107 (N : Nat) : Sg := sgK [(K.vec .fr), K.fr, K.fr, K.fr, K.fr] [K.fr] fun x => p107 N x.1 x.2.1 x.2.2.1 x.2.2.2.1 x.2.2.2.2.1
def zAH : List (Nat × Head) := [
  (5, ⟨⟨55, [(5, .u (.c (.ptr0 6000000 0))), (10, .u (.c (.ptr0 6000001 0))), (12, .u (.c (.ptr0 6000002 0))), (13, .u (.c (.ptr0 6000003 0))), (14, .u (.c (.int)))], [(6000000, ⟨false, 8, 106, .vec .fr⟩), (6000001, ⟨false, 4, 53, .fr⟩), (6000002, ⟨false, 8, 106, .vec .fr⟩), (6000003, ⟨false, 4, 53, .fr⟩)]⟩, .exit 0⟩)]
def zAI (N : Nat) : List (Nat × Sg) := [(190, g190 N), (173, g173 N), (83, g83 N), (194, g194 N)]
theorem zq6 (N : Nat) : zaK Try.prog pd.els (zAI N) := ⟨zx8 N, ⟨zjE N, ⟨zwv N, ⟨zq3 N, trivial⟩⟩⟩⟩
theorem zx9 (N : Nat) : SgOK Try.prog pd.els 107 (g107 N) :=
 zaD zaN (zaj (zq6 N)) Try.func107 (zap (by kernel_rfl)) [(K.vec .fr), K.fr, K.fr, K.fr, K.fr] [K.fr] _ N zAH 4 fun x => by kernel_rfl
end
section
def zya (N : Nat) (A_4 : (List Fr) -> (List Fr) -> Int -> Option (Bool × Unit)) (a0 b1 : List Fr) (i5 : Int) : Option (Bool × Unit) :=
 let u1 := Fr.mk (0 : UInt64) (0 : UInt64) (0 : UInt64) (0 : UInt64)
 let u2 := List.getD a0 i5.toNat u1
 let u3 := List.getD b1 i5.toNat u1
 cond (hide (ltI i5 (↑a0.length : Int))) (must (leI (0 : Int) i5 && ltI i5 (↑a0.length : Int)) (must (leI (0 : Int) i5 && ltI i5 (↑b1.length : Int)) (cond (hide !eqL El.u64 [Fr.a0 u2, Fr.a1 u2, Fr.a2 u2, Fr.a3 u2] [Fr.a0 u3, Fr.a1 u3, Fr.a2 u3, Fr.a3 u3]) (some ((false, ()))) (A_4 a0 b1 (hide (wr (i5 + (1 : Int)))))))) (some ((true, ())))
def zyb (N n : Nat) (a0 b1 : List Fr) (i5 : Int) : Option (Bool × Unit) :=
 zan (fun A x => zya N (fun a0 b1 i5 => A ((a0, (b1, (i5, ()))), ())) x.1.1 x.1.2.1 x.1.2.2.1) n ((a0, (b1, (i5, ()))), ())
def p93 (N : Nat) (a0 b1 : List Fr) : Option (Bool × Unit) :=
 cond (hide !eqI (↑a0.length : Int) (↑b1.length : Int)) (some ((false, ()))) (zyb N N a0 b1 (0 : Int))
def g93 (N : Nat) : Sg := sgK [(K.ro .fr), (K.ro .fr)] [K.bool] fun x => p93 N x.1 x.2.1
def zDV : List (Nat × Head) := [
  (4, ⟨⟨26, [(0, .u (.c (.ro .fr))), (1, .u (.c (.ro .fr))), (5, .u (.c (.int)))], []⟩, .exit 0⟩)]
def zDW (N : Nat) : List (Nat × Sg) := []
theorem zuM (N : Nat) : zaK Try.prog pd.els (zDW N) := trivial
theorem zAJ (N : Nat) : SgOK Try.prog pd.els 93 (g93 N) :=
 zaD zaN (zaj (zuM N)) Try.func93 (zap (by kernel_rfl)) [(K.ro .fr), (K.ro .fr)] [K.bool] _ N zDV 4 fun x => by kernel_rfl
end
section
def zrow : Row := Row.mk Fr.zero Fr.zero Fr.zero Fr.zero Fr.zero Fr.zero Fr.zero Fr.zero (0 : Int) (0 : Int) (0 : Int)
def zaH (x y : Row) : Bool := Fr.a0 x.q0 == Fr.a0 y.q0 && (Fr.a1 x.q0 == Fr.a1 y.q0 && (Fr.a2 x.q0 == Fr.a2 y.q0 && (Fr.a3 x.q0 == Fr.a3 y.q0 && true))) && (Fr.a0 x.q1 == Fr.a0 y.q1 && (Fr.a1 x.q1 == Fr.a1 y.q1 && (Fr.a2 x.q1 == Fr.a2 y.q1 && (Fr.a3 x.q1 == Fr.a3 y.q1 && true))) && (Fr.a0 x.q2 == Fr.a0 y.q2 && (Fr.a1 x.q2 == Fr.a1 y.q2 && (Fr.a2 x.q2 == Fr.a2 y.q2 && (Fr.a3 x.q2 == Fr.a3 y.q2 && true))) && (Fr.a0 x.q3 == Fr.a0 y.q3 && (Fr.a1 x.q3 == Fr.a1 y.q3 && (Fr.a2 x.q3 == Fr.a2 y.q3 && (Fr.a3 x.q3 == Fr.a3 y.q3 && true))) && (Fr.a0 x.q4 == Fr.a0 y.q4 && (Fr.a1 x.q4 == Fr.a1 y.q4 && (Fr.a2 x.q4 == Fr.a2 y.q4 && (Fr.a3 x.q4 == Fr.a3 y.q4 && true))) && (Fr.a0 x.q5 == Fr.a0 y.q5 && (Fr.a1 x.q5 == Fr.a1 y.q5 && (Fr.a2 x.q5 == Fr.a2 y.q5 && (Fr.a3 x.q5 == Fr.a3 y.q5 && true))) && (Fr.a0 x.q6 == Fr.a0 y.q6 && (Fr.a1 x.q6 == Fr.a1 y.q6 && (Fr.a2 x.q6 == Fr.a2 y.q6 && (Fr.a3 x.q6 == Fr.a3 y.q6 && true))) && (Fr.a0 x.q7 == Fr.a0 y.q7 && (Fr.a1 x.q7 == Fr.a1 y.q7 && (Fr.a2 x.q7 == Fr.a2 y.q7 && (Fr.a3 x.q7 == Fr.a3 y.q7 && true))) && true))))))) && (eqI x.w0 y.w0 && (eqI x.w1 y.w1 && (eqI x.w2 y.w2 && true)) && true)
end
section
def zq7 (N : Nat) (A_2 : (List Row) -> Int -> Int -> Option (Bool × Unit)) (A_5 : (List Row) -> Int -> Int -> (List Fr) -> Int -> Option (Bool × Unit)) (t8 : List Row) (t9 t10 : Int) (t15 : List Fr) (t16 : Int) : Option (Bool × Unit) :=
 cond (hide (ltI t16 (8 : Int))) (must (leI (0 : Int) t16 && (ltI t16 (↑(8 : Nat) : Int) && ltI t16 (↑t15.length : Int))) (Option.bind (p79 N ((List.getD t15 t16.toNat (Fr.zero)))) fun r0 => cond (hide !r0.1) (some ((false, ()))) (A_5 t8 t9 t10 t15 (hide (wr (t16 + (1 : Int))))))) (A_2 t8 t9 (hide (wr (t10 + (1 : Int)))))
def zq8 (N : Nat) (A_2 : (List Row) -> Int -> Int -> Option (Bool × Unit)) (n : Nat) (t8 : List Row) (t9 t10 : Int) (t15 : List Fr) (t16 : Int) : Option (Bool × Unit) :=
 zan (fun A x => zq7 N A_2 (fun t8 t9 t10 t15 t16 => A ((t8, (t9, (t10, (t15, (t16, ()))))), ())) x.1.1 x.1.2.1 x.1.2.2.1 x.1.2.2.2.1 x.1.2.2.2.2.1) n ((t8, (t9, (t10, (t15, (t16, ()))))), ())
def zq9 (N : Nat) (A_2 : (List Row) -> Int -> Int -> Option (Bool × Unit)) (t8 : List Row) (t9 t10 : Int) : Option (Bool × Unit) :=
 let u1 := List.getD t8 t10.toNat zrow
 let u2 := Row.q0 u1
 let u3 := Row.q1 u1
 let u4 := Row.q2 u1
 let u5 := Row.q3 u1
 let u6 := Row.q4 u1
 let u7 := Row.q5 u1
 let u8 := Row.q6 u1
 let u9 := Row.q7 u1
 cond (hide (ltI t10 t9)) (must (leI (0 : Int) t10 && ltI t10 (↑t8.length : Int)) (zq8 N A_2 N t8 t9 t10 ([Fr.mk (Fr.a0 u2) (Fr.a1 u2) (Fr.a2 u2) (Fr.a3 u2), Fr.mk (Fr.a0 u3) (Fr.a1 u3) (Fr.a2 u3) (Fr.a3 u3), Fr.mk (Fr.a0 u4) (Fr.a1 u4) (Fr.a2 u4) (Fr.a3 u4), Fr.mk (Fr.a0 u5) (Fr.a1 u5) (Fr.a2 u5) (Fr.a3 u5), Fr.mk (Fr.a0 u6) (Fr.a1 u6) (Fr.a2 u6) (Fr.a3 u6), Fr.mk (Fr.a0 u7) (Fr.a1 u7) (Fr.a2 u7) (Fr.a3 u7), Fr.mk (Fr.a0 u8) (Fr.a1 u8) (Fr.a2 u8) (Fr.a3 u8), Fr.mk (Fr.a0 u9) (Fr.a1 u9) (Fr.a2 u9) (Fr.a3 u9)]) (0 : Int))) (some ((true, ())))
def zra (N n : Nat) (t8 : List Row) (t9 t10 : Int) : Option (Bool × Unit) :=
 zan (fun A x => zq9 N (fun t8 t9 t10 => A ((t8, (t9, (t10, ()))), ())) x.1.1 x.1.2.1 x.1.2.2.1) n ((t8, (t9, (t10, ()))), ())
def p200 (N : Nat) (c0 v1 : Int) (v2 : List Row) (v3 : List Pr) : Option (Bool × Unit) :=
 zra N N v2 ((↑v2.length : Int)) (0 : Int)
def g200 (N : Nat) : Sg := sgK [(K.agg [.int, .int, .ro .row, .ro .pair] rfl)] [K.bool] fun x => p200 N x.1.1 x.1.2.1 x.1.2.2.1 x.1.2.2.2.1
def zAK : List (Nat × Head) := [
  (2, ⟨⟨24, [(8, .u (.c (.ro .row))), (9, .u (.c (.int))), (10, .u (.c (.int)))], []⟩, .exit 0⟩),
  (5, ⟨⟨24, [(8, .u (.c (.ro .row))), (9, .u (.c (.int))), (10, .u (.c (.int))), (15, .u (.vec .fr)), (16, .u (.c (.int)))], []⟩, .exit 2⟩)]
def zAL (N : Nat) : List (Nat × Sg) := [(79, g79 N)]
theorem zrb (N : Nat) : zaK Try.prog pd.els (zAL N) := ⟨zAf N, trivial⟩
theorem zyc (N : Nat) : SgOK Try.prog pd.els 200 (g200 N) :=
 zaD zaN (zaj (zrb N)) Try.func200 (zap (by kernel_rfl)) [(K.agg [.int, .int, .ro .row, .ro .pair] rfl)] [K.bool] _ N zAK 4 fun x => by kernel_rfl
def zl4 (N : Nat) (A_12 : (List Pr) -> Int -> Int -> Int -> Int -> (List Row) -> (List Pr) -> Option (Bool × Unit)) (t28 : List Pr) (t29 t30 ob0_0 ob0_1 : Int) (ob0_2 : List Row) (ob0_3 : List Pr) : Option (Bool × Unit) :=
 cond (hide (ltI t30 t29)) (must (leI (0 : Int) t30 && ltI t30 (↑t28.length : Int)) (cond (hide (ltI (mnI (Pr.x (List.getD t28 t30.toNat (Pr.mk (0 : Int) (0 : Int)))) (Pr.y (List.getD t28 t30.toNat (Pr.mk (0 : Int) (0 : Int))))) (0 : Int))) (some ((false, ()))) (cond (hide (leI ob0_1 (mxI (Pr.x (List.getD t28 t30.toNat (Pr.mk (0 : Int) (0 : Int)))) (Pr.y (List.getD t28 t30.toNat (Pr.mk (0 : Int) (0 : Int))))))) (some ((false, ()))) (A_12 t28 t29 (hide (wr (t30 + (1 : Int)))) ob0_0 ob0_1 ob0_2 ob0_3)))) (some ((true, ())))
def zl5 (N n : Nat) (t28 : List Pr) (t29 t30 ob0_0 ob0_1 : Int) (ob0_2 : List Row) (ob0_3 : List Pr) : Option (Bool × Unit) :=
 zan (fun A x => zl4 N (fun t28 t29 t30 ob0_0 ob0_1 ob0_2 ob0_3 => A (((), (t28, (t29, (t30, ())))), ((ob0_0, (ob0_1, (ob0_2, (ob0_3, ())))), ()))) x.1.2.1 x.1.2.2.1 x.1.2.2.2.1 x.2.1.1 x.2.1.2.1 x.2.1.2.2.1 x.2.1.2.2.2.1) n (((), (t28, (t29, (t30, ())))), ((ob0_0, (ob0_1, (ob0_2, (ob0_3, ())))), ()))
def zrc (N : Nat) (A_2 : (List Row) -> Int -> Int -> Int -> Int -> (List Row) -> (List Pr) -> Option (Bool × Unit)) (A_5 : (List Row) -> Int -> Int -> (List Int) -> Int -> Int -> Int -> (List Row) -> (List Pr) -> Option (Bool × Unit)) (t10 : List Row) (t11 t12 : Int) (t17 : List Int) (t18 ob0_0 ob0_1 : Int) (ob0_2 : List Row) (ob0_3 : List Pr) : Option (Bool × Unit) :=
 cond (hide (ltI t18 (3 : Int))) (must (leI (0 : Int) t18 && (ltI t18 (↑(3 : Nat) : Int) && ltI t18 (↑t17.length : Int))) (cond (hide (leI ob0_1 (List.getD t17 t18.toNat (0 : Int)))) (some ((false, ()))) (A_5 t10 t11 t12 t17 (hide (wr (t18 + (1 : Int)))) ob0_0 ob0_1 ob0_2 ob0_3))) (A_2 t10 t11 (hide (wr (t12 + (1 : Int)))) ob0_0 ob0_1 ob0_2 ob0_3)
def zrd (N : Nat) (A_2 : (List Row) -> Int -> Int -> Int -> Int -> (List Row) -> (List Pr) -> Option (Bool × Unit)) (n : Nat) (t10 : List Row) (t11 t12 : Int) (t17 : List Int) (t18 ob0_0 ob0_1 : Int) (ob0_2 : List Row) (ob0_3 : List Pr) : Option (Bool × Unit) :=
 zan (fun A x => zrc N A_2 (fun t10 t11 t12 t17 t18 ob0_0 ob0_1 ob0_2 ob0_3 => A (((), (t10, (t11, (t12, (t17, (t18, ())))))), ((ob0_0, (ob0_1, (ob0_2, (ob0_3, ())))), ()))) x.1.2.1 x.1.2.2.1 x.1.2.2.2.1 x.1.2.2.2.2.1 x.1.2.2.2.2.2.1 x.2.1.1 x.2.1.2.1 x.2.1.2.2.1 x.2.1.2.2.2.1) n (((), (t10, (t11, (t12, (t17, (t18, ())))))), ((ob0_0, (ob0_1, (ob0_2, (ob0_3, ())))), ()))
def zre (N : Nat) (A_2 : (List Row) -> Int -> Int -> Int -> Int -> (List Row) -> (List Pr) -> Option (Bool × Unit)) (t10 : List Row) (t11 t12 ob0_0 ob0_1 : Int) (ob0_2 : List Row) (ob0_3 : List Pr) : Option (Bool × Unit) :=
 cond (hide (ltI t12 t11)) (must (leI (0 : Int) t12 && ltI t12 (↑t10.length : Int)) (zrd N A_2 N t10 t11 t12 ([Row.w0 (List.getD t10 t12.toNat zrow), Row.w1 (List.getD t10 t12.toNat zrow), Row.w2 (List.getD t10 t12.toNat zrow)]) (0 : Int) ob0_0 ob0_1 ob0_2 ob0_3)) (zl5 N N ob0_3 ((↑ob0_3.length : Int)) (0 : Int) ob0_0 ob0_1 ob0_2 ob0_3)
def zrf (N n : Nat) (t10 : List Row) (t11 t12 ob0_0 ob0_1 : Int) (ob0_2 : List Row) (ob0_3 : List Pr) : Option (Bool × Unit) :=
 zan (fun A x => zre N (fun t10 t11 t12 ob0_0 ob0_1 ob0_2 ob0_3 => A (((), (t10, (t11, (t12, ())))), ((ob0_0, (ob0_1, (ob0_2, (ob0_3, ())))), ()))) x.1.2.1 x.1.2.2.1 x.1.2.2.2.1 x.2.1.1 x.2.1.2.1 x.2.1.2.2.1 x.2.1.2.2.2.1) n (((), (t10, (t11, (t12, ())))), ((ob0_0, (ob0_1, (ob0_2, (ob0_3, ())))), ()))
def p201 (N : Nat) (c0 v1 : Int) (v2 : List Row) (v3 : List Pr) : Option (Bool × Unit) :=
 zrf N N v2 ((↑v2.length : Int)) (0 : Int) c0 v1 v2 v3
def g201 (N : Nat) : Sg := sgK [(K.agg [.int, .int, .ro .row, .ro .pair] rfl)] [K.bool] fun x => p201 N x.1.1 x.1.2.1 x.1.2.2.1 x.1.2.2.2.1
def zAM : List (Nat × Head) := [
  (2, ⟨⟨51, [(1, .u (.c (.ptr0 3000000 0))), (10, .u (.c (.ro .row))), (11, .u (.c (.int))), (12, .u (.c (.int)))], [(3000000, ⟨false, 0, 80, .lit [.int, .int, .ro .row, .ro .pair]⟩)]⟩, .exit 0⟩),
  (12, ⟨⟨51, [(1, .u (.c (.ptr0 13000000 0))), (28, .u (.c (.ro .pair))), (29, .u (.c (.int))), (30, .u (.c (.int)))], [(13000000, ⟨false, 0, 80, .lit [.int, .int, .ro .row, .ro .pair]⟩)]⟩, .exit 4⟩),
  (5, ⟨⟨51, [(1, .u (.c (.ptr0 6000000 0))), (10, .u (.c (.ro .row))), (11, .u (.c (.int))), (12, .u (.c (.int))), (17, .u (.vec .int)), (18, .u (.c (.int)))], [(6000000, ⟨false, 0, 80, .lit [.int, .int, .ro .row, .ro .pair]⟩)]⟩, .exit 2⟩)]
def zAN (N : Nat) : List (Nat × Sg) := []
theorem zrg (N : Nat) : zaK Try.prog pd.els (zAN N) := trivial
theorem zyd (N : Nat) : SgOK Try.prog pd.els 201 (g201 N) :=
 zaD zaN (zaj (zrg N)) Try.func201 (zap (by kernel_rfl)) [(K.agg [.int, .int, .ro .row, .ro .pair] rfl)] [K.bool] _ N zAM 4 fun x => by kernel_rfl
def p220 (N : Nat) (r0 : Row) : Option (Bool × Unit) :=
 Option.bind (p108 N (Stp.mk (7 : Int) r0.w0 (0 : Int) (0 : Int) (Fr.zero) (Fr.zero) (Fr.zero) (Fr.zero) (Fr.zero))) fun rr0 => cond (hide (leI (0 : Int) r0.w0)) (must (ltI (0 : Int) (↑rr0.1.length : Int)) (some ((hide (zaH r0 (List.getD rr0.1 (0 : Nat) zrow)), ())))) (some ((false, ())))
def g220 (N : Nat) : Sg := sgK [(K.st .row)] [K.bool] fun x => p220 N x.1
def zAO : List (Nat × Head) := [
  ]
def zAP (N : Nat) : List (Nat × Sg) := [(108, g108 N)]
theorem zrh (N : Nat) : zaK Try.prog pd.els (zAP N) := ⟨zx7 N, trivial⟩
theorem zye (N : Nat) : SgOK Try.prog pd.els 220 (g220 N) :=
 zaD zaN (zaj (zrh N)) Try.func220 (zap (by kernel_rfl)) [(K.st .row)] [K.bool] _ N zAO 4 fun x => by kernel_rfl
def zri (N : Nat) (A_2 : (List Row) -> Int -> Int -> Int -> Int -> (List Row) -> (List Pr) -> Option (Bool × Unit)) (t6 : List Row) (t7 t8 ob0_0 ob0_1 : Int) (ob0_2 : List Row) (ob0_3 : List Pr) : Option (Bool × Unit) :=
 let u1 := List.getD t6 t8.toNat zrow
 let u2 := cond (hide (ltI (mnI (mnI (Row.w0 u1) (Row.w1 u1)) (Row.w2 u1)) (-1 : Int))) (some ((false, ()))) (A_2 t6 t7 (hide (wr (t8 + (1 : Int)))) ob0_0 ob0_1 ob0_2 ob0_3)
 let u3 := Row.q0 u1
 let u4 := Row.q1 u1
 let u5 := Row.q2 u1
 let u6 := Row.q3 u1
 let u7 := Row.q4 u1
 let u8 := Row.q5 u1
 let u9 := Row.q6 u1
 let u10 := Row.q7 u1
 cond (hide (ltI t8 t7)) (must (leI (0 : Int) t8 && ltI t8 (↑t6.length : Int)) (cond (hide (ltI t8 ob0_0)) (Option.bind (p220 N (Row.mk (Fr.mk (Fr.a0 u3) (Fr.a1 u3) (Fr.a2 u3) (Fr.a3 u3)) (Fr.mk (Fr.a0 u4) (Fr.a1 u4) (Fr.a2 u4) (Fr.a3 u4)) (Fr.mk (Fr.a0 u5) (Fr.a1 u5) (Fr.a2 u5) (Fr.a3 u5)) (Fr.mk (Fr.a0 u6) (Fr.a1 u6) (Fr.a2 u6) (Fr.a3 u6)) (Fr.mk (Fr.a0 u7) (Fr.a1 u7) (Fr.a2 u7) (Fr.a3 u7)) (Fr.mk (Fr.a0 u8) (Fr.a1 u8) (Fr.a2 u8) (Fr.a3 u8)) (Fr.mk (Fr.a0 u9) (Fr.a1 u9) (Fr.a2 u9) (Fr.a3 u9)) (Fr.mk (Fr.a0 u10) (Fr.a1 u10) (Fr.a2 u10) (Fr.a3 u10)) (Row.w0 u1) (Row.w1 u1) (Row.w2 u1))) fun r0 => cond (hide !r0.1) (some ((false, ()))) u2) u2)) (some ((true, ())))
def zrj (N n : Nat) (t6 : List Row) (t7 t8 ob0_0 ob0_1 : Int) (ob0_2 : List Row) (ob0_3 : List Pr) : Option (Bool × Unit) :=
 zan (fun A x => zri N (fun t6 t7 t8 ob0_0 ob0_1 ob0_2 ob0_3 => A (((), (t6, (t7, (t8, ())))), ((ob0_0, (ob0_1, (ob0_2, (ob0_3, ())))), ()))) x.1.2.1 x.1.2.2.1 x.1.2.2.2.1 x.2.1.1 x.2.1.2.1 x.2.1.2.2.1 x.2.1.2.2.2.1) n (((), (t6, (t7, (t8, ())))), ((ob0_0, (ob0_1, (ob0_2, (ob0_3, ())))), ()))
def p202 (N : Nat) (c0 v1 : Int) (v2 : List Row) (v3 : List Pr) : Option (Bool × Unit) :=
 zrj N N v2 ((↑v2.length : Int)) (0 : Int) c0 v1 v2 v3
def g202 (N : Nat) : Sg := sgK [(K.agg [.int, .int, .ro .row, .ro .pair] rfl)] [K.bool] fun x => p202 N x.1.1 x.1.2.1 x.1.2.2.1 x.1.2.2.2.1
def zAQ : List (Nat × Head) := [
  (2, ⟨⟨36, [(1, .u (.c (.ptr0 3000000 0))), (6, .u (.c (.ro .row))), (7, .u (.c (.int))), (8, .u (.c (.int)))], [(3000000, ⟨false, 0, 80, .lit [.int, .int, .ro .row, .ro .pair]⟩)]⟩, .exit 0⟩)]
def zAR (N : Nat) : List (Nat × Sg) := [(220, g220 N)]
theorem zrk (N : Nat) : zaK Try.prog pd.els (zAR N) := ⟨zye N, trivial⟩
theorem zyf (N : Nat) : SgOK Try.prog pd.els 202 (g202 N) :=
 zaD zaN (zaj (zrk N)) Try.func202 (zap (by kernel_rfl)) [(K.agg [.int, .int, .ro .row, .ro .pair] rfl)] [K.bool] _ N zAQ 4 fun x => by kernel_rfl
def p119 (N : Nat) (c0 v1 : Int) (v2 : List Row) (v3 : List Pr) : Option (Int × Unit) :=
 let u1 := some (((10 : Int), ()))
 let u2 := some (((1 : Int), ()))
 let u3 := some (((4 : Int), ()))
 let u4 := some (((3 : Int), ()))
 let u5 := some (((0 : Int), ()))
 let u6 := p200 N c0 v1 v2 v3
 let u7 := p201 N c0 v1 v2 v3
 let u8 := p202 N c0 v1 v2 v3
 let u9 := hide (ltI c0 (0 : Int))
 let u10 := hide (ltI v1 (0 : Int))
 let u11 := hide (ltI (↑v2.length : Int) c0)
 let u12 := some (((8 : Int), ()))
 let u13 := hide (ltI (64 : Int) (↑v2.length : Int))
 let u14 := hide (ltI (200 : Int) v1)
 cond (hide (ltI (8 : Int) c0)) (cond (hide (ltI (8 : Int) c0)) u12 (cond u9 (cond u9 u2 (Option.bind u6 fun r33 => cond (hide !r33.1) u3 (Option.bind u7 fun r34 => cond (hide !r34.1) u1 (Option.bind u8 fun r35 => cond (hide !r35.1) u4 u5)))) (cond u10 (cond u10 u2 (Option.bind u6 fun r30 => cond (hide !r30.1) u3 (Option.bind u7 fun r31 => cond (hide !r31.1) u1 (Option.bind u8 fun r32 => cond (hide !r32.1) u4 u5)))) (cond u11 u2 (Option.bind u6 fun r27 => cond (hide !r27.1) u3 (Option.bind u7 fun r28 => cond (hide !r28.1) u1 (Option.bind u8 fun r29 => cond (hide !r29.1) u4 u5))))))) (cond u14 (cond u14 u12 (cond u9 (cond u9 u2 (Option.bind u6 fun r24 => cond (hide !r24.1) u3 (Option.bind u7 fun r25 => cond (hide !r25.1) u1 (Option.bind u8 fun r26 => cond (hide !r26.1) u4 u5)))) (cond u10 (cond u10 u2 (Option.bind u6 fun r21 => cond (hide !r21.1) u3 (Option.bind u7 fun r22 => cond (hide !r22.1) u1 (Option.bind u8 fun r23 => cond (hide !r23.1) u4 u5)))) (cond u11 u2 (Option.bind u6 fun r18 => cond (hide !r18.1) u3 (Option.bind u7 fun r19 => cond (hide !r19.1) u1 (Option.bind u8 fun r20 => cond (hide !r20.1) u4 u5))))))) (cond u13 (cond u13 u12 (cond u9 (cond u9 u2 (Option.bind u6 fun r15 => cond (hide !r15.1) u3 (Option.bind u7 fun r16 => cond (hide !r16.1) u1 (Option.bind u8 fun r17 => cond (hide !r17.1) u4 u5)))) (cond u10 (cond u10 u2 (Option.bind u6 fun r12 => cond (hide !r12.1) u3 (Option.bind u7 fun r13 => cond (hide !r13.1) u1 (Option.bind u8 fun r14 => cond (hide !r14.1) u4 u5)))) (cond u11 u2 (Option.bind u6 fun r9 => cond (hide !r9.1) u3 (Option.bind u7 fun r10 => cond (hide !r10.1) u1 (Option.bind u8 fun r11 => cond (hide !r11.1) u4 u5))))))) (cond (hide (ltI (200 : Int) (↑v3.length : Int))) u12 (cond u9 (cond u9 u2 (Option.bind u6 fun r6 => cond (hide !r6.1) u3 (Option.bind u7 fun r7 => cond (hide !r7.1) u1 (Option.bind u8 fun r8 => cond (hide !r8.1) u4 u5)))) (cond u10 (cond u10 u2 (Option.bind u6 fun r3 => cond (hide !r3.1) u3 (Option.bind u7 fun r4 => cond (hide !r4.1) u1 (Option.bind u8 fun r5 => cond (hide !r5.1) u4 u5)))) (cond u11 u2 (Option.bind u6 fun r0 => cond (hide !r0.1) u3 (Option.bind u7 fun r1 => cond (hide !r1.1) u1 (Option.bind u8 fun r2 => cond (hide !r2.1) u4 u5)))))))))
def g119 (N : Nat) : Sg := sgK [(K.agg [.int, .int, .ro .row, .ro .pair] rfl)] [K.int] fun x => p119 N x.1.1 x.1.2.1 x.1.2.2.1 x.1.2.2.2.1
def zAS : List (Nat × Head) := [
  ]
def zAT (N : Nat) : List (Nat × Sg) := [(200, g200 N), (201, g201 N), (202, g202 N)]
theorem zrl (N : Nat) : zaK Try.prog pd.els (zAT N) := ⟨zyc N, ⟨zyd N, ⟨zyf N, trivial⟩⟩⟩
theorem zl6 (N : Nat) : SgOK Try.prog pd.els 119 (g119 N) :=
 zaD zaN (zaj (zrl N)) Try.func119 (zap (by kernel_rfl)) [(K.agg [.int, .int, .ro .row, .ro .pair] rfl)] [K.int] _ N zAS 4 fun x => by kernel_rfl
def zl7 (N : Nat) (A_1000 : Int -> Int -> (List Row) -> (List Pr) -> (List Int) -> Option (List Int × Unit)) (A_19 : Bool -> Int -> Int -> Int -> Int -> (List Row) -> (List Pr) -> (List Int) -> Option (List Int × Unit)) (turned5 : Bool) (t64 t65 ob0_0 ob0_1 : Int) (ob0_2 : List Row) (ob0_3 : List Pr) (l3o : List Int) : Option (List Int × Unit) :=
 let u1 := List.getD l3o t65.toNat (0 : Int)
 let u2 := (↑l3o.length : Int)
 let u3 := List.getD l3o (Int.toNat u1) (0 : Int)
 let u4 := leI (0 : Int) t65 && ltI t65 u2
 let u5 := leI (0 : Int) u1 && ltI u1 u2
 let u6 := hide (wr (t65 + (1 : Int)))
 cond (hide (ltI t65 t64)) (must u4 (must u5 (cond (hide (ltI u3 u1)) (must u5 (must u4 (A_19 true t64 u6 ob0_0 ob0_1 ob0_2 ob0_3 (setL l3o t65.toNat u3)))) (A_19 turned5 t64 u6 ob0_0 ob0_1 ob0_2 ob0_3 l3o)))) (cond turned5 (A_1000 ob0_0 ob0_1 ob0_2 ob0_3 l3o) (some ((l3o, ()))))
def zl8 (N : Nat) (A_1000 : Int -> Int -> (List Row) -> (List Pr) -> (List Int) -> Option (List Int × Unit)) (n : Nat) (turned5 : Bool) (t64 t65 ob0_0 ob0_1 : Int) (ob0_2 : List Row) (ob0_3 : List Pr) (l3o : List Int) : Option (List Int × Unit) :=
 zan (fun A x => zl7 N A_1000 (fun turned5 t64 t65 ob0_0 ob0_1 ob0_2 ob0_3 l3o => A (((), ((), (turned5, ((), (t64, (t65, ())))))), ((ob0_0, (ob0_1, (ob0_2, (ob0_3, ())))), (l3o, ())))) x.1.2.2.1 x.1.2.2.2.2.1 x.1.2.2.2.2.2.1 x.2.1.1 x.2.1.2.1 x.2.1.2.2.1 x.2.1.2.2.2.1 x.2.2.1) n (((), ((), (turned5, ((), (t64, (t65, ())))))), ((ob0_0, (ob0_1, (ob0_2, (ob0_3, ())))), (l3o, ())))
def zl9 (N : Nat) (A_1000 : Int -> Int -> (List Row) -> (List Pr) -> (List Int) -> Option (List Int × Unit)) (A_11 : Bool -> (List Pr) -> Int -> Int -> Int -> Int -> (List Row) -> (List Pr) -> (List Int) -> Option (List Int × Unit)) (turned5 : Bool) (t29 : List Pr) (t30 t31 ob0_0 ob0_1 : Int) (ob0_2 : List Row) (ob0_3 : List Pr) (l3o : List Int) : Option (List Int × Unit) :=
 let u1 := List.getD t29 t31.toNat (Pr.mk (0 : Int) (0 : Int))
 let u4 := Int.toNat (Pr.x u1)
 let u9 := List.getD l3o u4 (0 : Int)
 let u7 := Pr.y u1
 let u5 := List.getD l3o (Int.toNat u7) (0 : Int)
 let u2 := mnI u9 u5
 let u6 := (↑l3o.length : Int)
 let u3 := leI (0 : Int) (Pr.x u1) && ltI (Pr.x u1) u6
 let u8 := hide (wr (t31 + (1 : Int)))
 cond (hide (ltI t31 t30)) (must (leI (0 : Int) t31 && ltI t31 (↑t29.length : Int)) (must u3 (must (leI (0 : Int) u7 && ltI u7 u6) (cond (hide !eqI u9 u5) (must u3 (must (leI (0 : Int) u7 && ltI u7 (↑(List.length (setL l3o u4 u2)) : Int)) (A_11 true t29 t30 u8 ob0_0 ob0_1 ob0_2 ob0_3 (setL (setL l3o u4 u2) (Int.toNat u7) u2)))) (A_11 turned5 t29 t30 u8 ob0_0 ob0_1 ob0_2 ob0_3 l3o))))) (zl8 N A_1000 N turned5 (u6) (0 : Int) ob0_0 ob0_1 ob0_2 ob0_3 l3o)
def zma (N : Nat) (A_1000 : Int -> Int -> (List Row) -> (List Pr) -> (List Int) -> Option (List Int × Unit)) (n : Nat) (turned5 : Bool) (t29 : List Pr) (t30 t31 ob0_0 ob0_1 : Int) (ob0_2 : List Row) (ob0_3 : List Pr) (l3o : List Int) : Option (List Int × Unit) :=
 zan (fun A x => zl9 N A_1000 (fun turned5 t29 t30 t31 ob0_0 ob0_1 ob0_2 ob0_3 l3o => A (((), ((), (turned5, (t29, (t30, (t31, ())))))), ((ob0_0, (ob0_1, (ob0_2, (ob0_3, ())))), (l3o, ())))) x.1.2.2.1 x.1.2.2.2.1 x.1.2.2.2.2.1 x.1.2.2.2.2.2.1 x.2.1.1 x.2.1.2.1 x.2.1.2.2.1 x.2.1.2.2.2.1 x.2.2.1) n (((), ((), (turned5, (t29, (t30, (t31, ())))))), ((ob0_0, (ob0_1, (ob0_2, (ob0_3, ())))), (l3o, ())))
def zgZ (N : Nat) (A_1000 : Int -> Int -> (List Row) -> (List Pr) -> (List Int) -> Option (List Int × Unit)) (ob0_0 ob0_1 : Int) (ob0_2 : List Row) (ob0_3 : List Pr) (l3o : List Int) : Option (List Int × Unit) :=
 zma N A_1000 N false ob0_3 ((↑ob0_3.length : Int)) (0 : Int) ob0_0 ob0_1 ob0_2 ob0_3 l3o
def zg0 (N n : Nat) (ob0_0 ob0_1 : Int) (ob0_2 : List Row) (ob0_3 : List Pr) (l3o : List Int) : Option (List Int × Unit) :=
 zan (fun A x => zgZ N (fun ob0_0 ob0_1 ob0_2 ob0_3 l3o => A (((), ((), ())), ((ob0_0, (ob0_1, (ob0_2, (ob0_3, ())))), (l3o, ())))) x.2.1.1 x.2.1.2.1 x.2.1.2.2.1 x.2.1.2.2.2.1 x.2.2.1) n (((), ((), ())), ((ob0_0, (ob0_1, (ob0_2, (ob0_3, ())))), (l3o, ())))
def zrm (N : Nat) (A_5 : Int -> Int -> Int -> Int -> (List Row) -> (List Pr) -> (List Int) -> Option (List Int × Unit)) (t19 t20 ob0_0 ob0_1 : Int) (ob0_2 : List Row) (ob0_3 : List Pr) (l3o : List Int) : Option (List Int × Unit) :=
 cond (hide (ltI t20 t19)) (must (leI (0 : Int) t20 && ltI t20 (↑l3o.length : Int)) (A_5 t19 (hide (wr (t20 + (1 : Int)))) ob0_0 ob0_1 ob0_2 ob0_3 (setL l3o t20.toNat t20))) (zg0 N N ob0_0 ob0_1 ob0_2 ob0_3 l3o)
def zrn (N n : Nat) (t19 t20 ob0_0 ob0_1 : Int) (ob0_2 : List Row) (ob0_3 : List Pr) (l3o : List Int) : Option (List Int × Unit) :=
 zan (fun A x => zrm N (fun t19 t20 ob0_0 ob0_1 ob0_2 ob0_3 l3o => A (((), ((), (t19, (t20, ())))), ((ob0_0, (ob0_1, (ob0_2, (ob0_3, ())))), (l3o, ())))) x.1.2.2.1 x.1.2.2.2.1 x.2.1.1 x.2.1.2.1 x.2.1.2.2.1 x.2.1.2.2.2.1 x.2.2.1) n (((), ((), (t19, (t20, ())))), ((ob0_0, (ob0_1, (ob0_2, (ob0_3, ())))), (l3o, ())))
def p134 (N : Nat) (c0 v1 : Int) (v2 : List Row) (v3 : List Pr) : Option (List Int × Unit) :=
 Option.bind (p119 N c0 v1 v2 v3) fun r0 => cond (hide !eqI r0.1 (0 : Int)) (some (([], ()))) (must (leI (0 : Int) v1 && (eqI v1 v1 && leN (Int.toNat v1 * (8 : Nat)) (140737488355328 : Nat))) (zrn N N ((↑(List.length (List.replicate v1.toNat (0 : Int))) : Int)) (0 : Int) c0 v1 v2 v3 (List.replicate v1.toNat (0 : Int))))
def g134 (N : Nat) : Sg := sgK [(K.agg [.int, .int, .ro .row, .ro .pair] rfl)] [(K.ro .int)] fun x => p134 N x.1.1 x.1.2.1 x.1.2.2.1 x.1.2.2.2.1
def zAU : List (Nat × Head) := [
  (5, ⟨⟨86, [(1, .u (.c (.ptr0 6000000 0))), (3, .u (.c (.row 6000001))), (19, .u (.c (.int))), (20, .u (.c (.int)))], [(6000000, ⟨false, 0, 80, .lit [.int, .int, .ro .row, .ro .pair]⟩), (6000001, ⟨true, 0, 3, .vec .int⟩)]⟩, .exit 0⟩),
  (1000, ⟨⟨86, [(1, .u (.c (.ptr0 1001000000 0))), (3, .u (.c (.row 1001000001)))], [(1001000000, ⟨false, 0, 80, .lit [.int, .int, .ro .row, .ro .pair]⟩), (1001000001, ⟨true, 0, 3, .vec .int⟩)]⟩, .fall⟩),
  (11, ⟨⟨86, [(1, .u (.c (.ptr0 12000000 0))), (3, .u (.c (.row 12000001))), (5, .u (.c (.bool))), (29, .u (.c (.ro .pair))), (30, .u (.c (.int))), (31, .u (.c (.int)))], [(12000000, ⟨false, 0, 80, .lit [.int, .int, .ro .row, .ro .pair]⟩), (12000001, ⟨true, 0, 3, .vec .int⟩)]⟩, .exit 2⟩),
  (19, ⟨⟨86, [(1, .u (.c (.ptr0 20000000 0))), (3, .u (.c (.row 20000001))), (5, .u (.c (.bool))), (63, .u (.c (.row 20000001))), (64, .u (.c (.int))), (65, .u (.c (.int)))], [(20000000, ⟨false, 0, 80, .lit [.int, .int, .ro .row, .ro .pair]⟩), (20000001, ⟨true, 0, 3, .vec .int⟩)]⟩, .exit 4⟩)]
def zAV (N : Nat) : List (Nat × Sg) := [(119, g119 N)]
theorem zro (N : Nat) : zaK Try.prog pd.els (zAV N) := ⟨zl6 N, trivial⟩
theorem zyg (N : Nat) : SgOK Try.prog pd.els 134 (g134 N) :=
 zaD zaN (zaj (zro N)) Try.func134 (zap (by kernel_rfl)) [(K.agg [.int, .int, .ro .row, .ro .pair] rfl)] [(K.ro .int)] _ N zAU 4 fun x => by kernel_rfl
end
section
def zmb (N : Nat) (A_7 : Bool -> Int -> Int -> (List Row) -> (List Pr) -> (List Int) -> Option (List Int × Unit)) (A_10 : Bool -> Int -> Int -> Int -> (List Row) -> (List Pr) -> (List Int) -> Option (List Int × Unit)) (again5 : Bool) (i6 ob0_0 ob0_1 : Int) (ob0_2 : List Row) (ob0_3 : List Pr) (l3o : List Int) : Option (List Int × Unit) :=
 let u1 := List.getD ob0_3 i6.toNat (Pr.mk (0 : Int) (0 : Int))
 let u6 := Int.toNat (Pr.x u1)
 let u11 := List.getD l3o u6 (0 : Int)
 let u14 := Pr.y u1
 let u8 := Int.toNat u14
 let u12 := List.getD l3o u8 (0 : Int)
 let u2 := mnI u11 u12
 let u4 := leI (0 : Int) (Pr.x u1) && ltI (Pr.x u1) (↑l3o.length : Int)
 let u10 := setL l3o u6 u2
 let u5 := leI (0 : Int) u14 && ltI u14 (↑(List.length u10) : Int)
 let u13 := hide (wr (i6 + (1 : Int)))
 let u3 := must u4 (must u5 (A_10 true u13 ob0_0 ob0_1 ob0_2 ob0_3 (setL u10 u8 u2)))
 let u7 := leI (0 : Int) u14 && ltI u14 (↑l3o.length : Int)
 let u9 := leI (0 : Int) i6 && ltI i6 (↑ob0_3.length : Int)
 cond (hide (ltI i6 (↑ob0_3.length : Int))) (must u9 (must u9 (must u4 (must u7 (cond again5 u3 (must u4 (cond (hide !eqI u11 u2) u3 (must u7 (must u4 (must u5 (A_10 (hide !eqI u12 u2) u13 ob0_0 ob0_1 ob0_2 ob0_3 (setL u10 u8 u2)))))))))))) (A_7 again5 ob0_0 ob0_1 ob0_2 ob0_3 l3o)
def zmc (N : Nat) (A_7 : Bool -> Int -> Int -> (List Row) -> (List Pr) -> (List Int) -> Option (List Int × Unit)) (n : Nat) (again5 : Bool) (i6 ob0_0 ob0_1 : Int) (ob0_2 : List Row) (ob0_3 : List Pr) (l3o : List Int) : Option (List Int × Unit) :=
 zan (fun A x => zmb N A_7 (fun again5 i6 ob0_0 ob0_1 ob0_2 ob0_3 l3o => A (((), ((), (again5, (i6, ())))), ((ob0_0, (ob0_1, (ob0_2, (ob0_3, ())))), (l3o, ())))) x.1.2.2.1 x.1.2.2.2.1 x.2.1.1 x.2.1.2.1 x.2.1.2.2.1 x.2.1.2.2.2.1 x.2.2.1) n (((), ((), (again5, (i6, ())))), ((ob0_0, (ob0_1, (ob0_2, (ob0_3, ())))), (l3o, ())))
def zrp (N : Nat) (A_7 : Bool -> Int -> Int -> (List Row) -> (List Pr) -> (List Int) -> Option (List Int × Unit)) (again5 : Bool) (ob0_0 ob0_1 : Int) (ob0_2 : List Row) (ob0_3 : List Pr) (l3o : List Int) : Option (List Int × Unit) :=
 cond again5 (zmc N A_7 N false (0 : Int) ob0_0 ob0_1 ob0_2 ob0_3 l3o) (some ((l3o, ())))
def zrq (N n : Nat) (again5 : Bool) (ob0_0 ob0_1 : Int) (ob0_2 : List Row) (ob0_3 : List Pr) (l3o : List Int) : Option (List Int × Unit) :=
 zan (fun A x => zrp N (fun again5 ob0_0 ob0_1 ob0_2 ob0_3 l3o => A (((), ((), (again5, ()))), ((ob0_0, (ob0_1, (ob0_2, (ob0_3, ())))), (l3o, ())))) x.1.2.2.1 x.2.1.1 x.2.1.2.1 x.2.1.2.2.1 x.2.1.2.2.2.1 x.2.2.1) n (((), ((), (again5, ()))), ((ob0_0, (ob0_1, (ob0_2, (ob0_3, ())))), (l3o, ())))
def zrr (N : Nat) (A_3 : Int -> Int -> Int -> (List Row) -> (List Pr) -> (List Int) -> Option (List Int × Unit)) (i4 ob0_0 ob0_1 : Int) (ob0_2 : List Row) (ob0_3 : List Pr) (l3o : List Int) : Option (List Int × Unit) :=
 cond (hide (ltI i4 ob0_1)) (must (leI (0 : Int) i4 && ltI i4 (↑l3o.length : Int)) (A_3 (hide (wr (i4 + (1 : Int)))) ob0_0 ob0_1 ob0_2 ob0_3 (setL l3o i4.toNat i4))) (zrq N N true ob0_0 ob0_1 ob0_2 ob0_3 l3o)
def zrs (N n : Nat) (i4 ob0_0 ob0_1 : Int) (ob0_2 : List Row) (ob0_3 : List Pr) (l3o : List Int) : Option (List Int × Unit) :=
 zan (fun A x => zrr N (fun i4 ob0_0 ob0_1 ob0_2 ob0_3 l3o => A (((), ((), (i4, ()))), ((ob0_0, (ob0_1, (ob0_2, (ob0_3, ())))), (l3o, ())))) x.1.2.2.1 x.2.1.1 x.2.1.2.1 x.2.1.2.2.1 x.2.1.2.2.2.1 x.2.2.1) n (((), ((), (i4, ()))), ((ob0_0, (ob0_1, (ob0_2, (ob0_3, ())))), (l3o, ())))
def p135 (N : Nat) (c0 v1 : Int) (v2 : List Row) (v3 : List Pr) : Option (List Int × Unit) :=
 must (leI (0 : Int) v1 && (eqI v1 v1 && leN (Int.toNat v1 * (8 : Nat)) (140737488355328 : Nat))) (zrs N N (0 : Int) c0 v1 v2 v3 (List.replicate v1.toNat (0 : Int)))
def g135 (N : Nat) : Sg := sgK [(K.agg [.int, .int, .ro .row, .ro .pair] rfl)] [(K.ro .int)] fun x => p135 N x.1.1 x.1.2.1 x.1.2.2.1 x.1.2.2.2.1
def zAW : List (Nat × Head) := [
  (3, ⟨⟨78, [(1, .u (.c (.ptr0 4000000 0))), (3, .u (.c (.row 4000001))), (4, .u (.c (.int)))], [(4000000, ⟨false, 0, 80, .lit [.int, .int, .ro .row, .ro .pair]⟩), (4000001, ⟨true, 0, 3, .vec .int⟩)]⟩, .exit 0⟩),
  (7, ⟨⟨78, [(1, .u (.c (.ptr0 8000000 0))), (3, .u (.c (.row 8000001))), (5, .u (.c (.bool)))], [(8000000, ⟨false, 0, 80, .lit [.int, .int, .ro .row, .ro .pair]⟩), (8000001, ⟨true, 0, 3, .vec .int⟩)]⟩, .exit 2⟩),
  (10, ⟨⟨78, [(1, .u (.c (.ptr0 11000000 0))), (3, .u (.c (.row 11000001))), (5, .u (.c (.bool))), (6, .u (.c (.int)))], [(11000000, ⟨false, 0, 80, .lit [.int, .int, .ro .row, .ro .pair]⟩), (11000001, ⟨true, 0, 3, .vec .int⟩)]⟩, .exit 4⟩)]
def zAX (N : Nat) : List (Nat × Sg) := []
theorem zrt (N : Nat) : zaK Try.prog pd.els (zAX N) := trivial
theorem zyh (N : Nat) : SgOK Try.prog pd.els 135 (g135 N) :=
 zaD zaN (zaj (zrt N)) Try.func135 (zap (by kernel_rfl)) [(K.agg [.int, .int, .ro .row, .ro .pair] rfl)] [(K.ro .int)] _ N zAW 4 fun x => by kernel_rfl
def p189 (N : Nat) (c0 log1 : Int) (cell2 : List Row) (v3 : List Pr) (v4 v5 : Int) : Option (Int × Unit) :=
 let u1 := hide (shlI (1 : Int) (UInt64.toNat (UInt64.ofNat v4.toNat)))
 let u3 := hide (Int.tmod v5 u1)
 let u2 := List.getD cell2 (Int.toNat u3) zrow
 let u4 := hide (wr (Int.tdiv v5 u1))
 let u5 := !eqI u1 (0 : Int)
 must (leI (0 : Int) v4) (must (ltI v4 (18446744073709551616 : Int)) (must u5 (cond (hide (leI (↑cell2.length : Int) u3)) (some (((-1 : Int), ()))) (must u5 (must u5 (must (leI (0 : Int) u3 && ltI u3 (↑cell2.length : Int)) (cond (eqI u4 (↑(0 : Nat) : Int)) (some ((Row.w0 u2, ()))) (cond (eqI u4 (↑((0 : Nat) + (1 : Nat)) : Int)) (some ((Row.w1 u2, ()))) (must (eqI u4 (↑((0 : Nat) + (1 : Nat) + (1 : Nat)) : Int)) (some ((Row.w2 u2, ()))))))))))))
def g189 (N : Nat) : Sg := sgK [(K.agg [.int, .int, .ro .row, .ro .pair] rfl), K.int, K.int] [K.int] fun x => p189 N x.1.1 x.1.2.1 x.1.2.2.1 x.1.2.2.2.1 x.2.1 x.2.2.1
def zAY : List (Nat × Head) := [
  ]
def zAZ (N : Nat) : List (Nat × Sg) := []
theorem zru (N : Nat) : zaK Try.prog pd.els (zAZ N) := trivial
theorem zyi (N : Nat) : SgOK Try.prog pd.els 189 (g189 N) :=
 zaD zaN (zaj (zru N)) Try.func189 (zap (by kernel_rfl)) [(K.agg [.int, .int, .ro .row, .ro .pair] rfl), K.int, K.int] [K.int] _ N zAY 4 fun x => by kernel_rfl
end
end Go.Proofs.Ytgimohchocjgcaa.V
