import Derived.Test.YtgimohchocjgcaaVWB1
import Derived.Test.YtgimohchocjgcaaVME
set_option linter.unusedVariables false
set_option linter.unusedSimpArgs false
namespace Go.Proofs.Ytgimohchocjgcaa.V
section
def p218 (N : Nat) : Option (Fr × Unit) :=
 Option.bind (p173 N (1 : UInt64)) fun rr0 => some ((rr0.1, ()))
def g218 (N : Nat) : Sg := sgK [] [K.fr] fun x => p218 N
def zA0 : List (Nat × Head) := [
  ]
def zA1 (N : Nat) : List (Nat × Sg) := [(173, g173 N)]
theorem zrv (N : Nat) : zaK Try.prog pd.els (zA1 N) := ⟨zjE N, trivial⟩
theorem zyj (N : Nat) : SgOK Try.prog pd.els 218 (g218 N) :=
 zaD zaN (zaj (zrv N)) Try.func218 (zap (by kernel_rfl)) [] [K.fr] _ N zA0 4 fun x => by kernel_rfl
def zmd (N : Nat) (A_14 : Int -> Row -> (List Int) -> Option (List Row × Int × Unit)) (i7 : Int) (ob0 : Row) (ob1 : List Int) : Option (List Row × Int × Unit) :=
 let u1 := mxI (List.getD ob1 i7.toNat (0 : Int)) (-1 : Int)
 let u2 := (↑((0 : Nat) + (1 : Nat) + (1 : Nat)) : Int)
 let u3 := (↑((0 : Nat) + (1 : Nat)) : Int)
 let u4 := (↑(0 : Nat) : Int)
 cond (hide (ltI i7 (3 : Int))) (must (leI (0 : Int) i7 && ltI i7 (↑(3 : Nat) : Int)) (cond (eqI i7 u4) (must (eqI i7 u4) (A_14 (hide (wr (u4 + (1 : Int)))) (Row.mk (ob0.q0) (ob0.q1) (ob0.q2) (ob0.q3) (ob0.q4) (ob0.q5) (ob0.q6) (ob0.q7) u1 ob0.w1 ob0.w2) ob1)) (cond (eqI i7 u3) (must (eqI i7 u3) (A_14 (hide (wr (u3 + (1 : Int)))) (Row.mk (ob0.q0) (ob0.q1) (ob0.q2) (ob0.q3) (ob0.q4) (ob0.q5) (ob0.q6) (ob0.q7) ob0.w0 u1 ob0.w2) ob1)) (must (eqI i7 u2) (must (eqI i7 u2) (A_14 (hide (wr (u2 + (1 : Int)))) (Row.mk (ob0.q0) (ob0.q1) (ob0.q2) (ob0.q3) (ob0.q4) (ob0.q5) (ob0.q6) (ob0.q7) ob0.w0 ob0.w1 u1) ob1)))))) (some (([ob0], (0 : Int), ())))
def zme (N n : Nat) (i7 : Int) (ob0 : Row) (ob1 : List Int) : Option (List Row × Int × Unit) :=
 zan (fun A x => zmd N (fun i7 ob0 ob1 => A (((), ((), (i7, ()))), (ob0, (ob1, ())))) x.1.2.2.1 x.2.1 x.2.2.1) n (((), ((), (i7, ()))), (ob0, (ob1, ())))
def zmf (N : Nat) (A_10 : Int -> Stp -> Row -> (List Int) -> Option (List Row × Int × Unit)) (i6 : Int) (ob0 : Stp) (ob1 : Row) (ob2 : List Int) : Option (List Row × Int × Unit) :=
 let u1 := cond (eqI i6 (↑((0 : Nat) + (1 : Nat) + (1 : Nat) + (1 : Nat) + (1 : Nat) + (1 : Nat)) : Int)) (none) (cond (eqI i6 (↑((0 : Nat) + (1 : Nat) + (1 : Nat) + (1 : Nat) + (1 : Nat) + (1 : Nat) + (1 : Nat)) : Int)) (none) (must (eqI i6 (↑((0 : Nat) + (1 : Nat) + (1 : Nat) + (1 : Nat) + (1 : Nat) + (1 : Nat) + (1 : Nat) + (1 : Nat)) : Int)) (none)))
 let u2 := (↑((0 : Nat) + (1 : Nat) + (1 : Nat) + (1 : Nat) + (1 : Nat)) : Int)
 let u3 := (↑((0 : Nat) + (1 : Nat) + (1 : Nat) + (1 : Nat)) : Int)
 let u8 := (↑((0 : Nat) + (1 : Nat) + (1 : Nat)) : Int)
 let u4 := eqI i6 u8
 let u11 := (↑((0 : Nat) + (1 : Nat)) : Int)
 let u5 := eqI i6 u11
 let u6 := eqI i6 (↑(0 : Nat) : Int)
 let u9 := eqI i6 u3
 let u10 := eqI i6 u2
 let u7 := cond u9 (none) (cond u10 (none) u1)
 cond (hide (ltI i6 (5 : Int))) (cond u6 (must u6 (cond u6 (A_10 (hide (wr ((↑(0 : Nat) : Int) + (1 : Int)))) (ob0) (Row.mk (ob0.q0) (ob1.q1) (ob1.q2) (ob1.q3) (ob1.q4) (ob1.q5) (ob1.q6) (ob1.q7) ob1.w0 ob1.w1 ob1.w2) ob2) (cond u5 (none) (cond u4 (none) u7)))) (cond u5 (must u5 (cond u6 (none) (cond u5 (A_10 (hide (wr (u11 + (1 : Int)))) (ob0) (Row.mk (ob1.q0) (ob0.q1) (ob1.q2) (ob1.q3) (ob1.q4) (ob1.q5) (ob1.q6) (ob1.q7) ob1.w0 ob1.w1 ob1.w2) ob2) (cond u4 (none) u7)))) (cond u4 (must u4 (cond u6 (none) (cond u5 (none) (cond u4 (A_10 (hide (wr (u8 + (1 : Int)))) (ob0) (Row.mk (ob1.q0) (ob1.q1) (ob0.q2) (ob1.q3) (ob1.q4) (ob1.q5) (ob1.q6) (ob1.q7) ob1.w0 ob1.w1 ob1.w2) ob2) u7)))) (cond u9 (must u9 (cond u6 (none) (cond u5 (none) (cond u4 (none) (cond u9 (A_10 (hide (wr (u3 + (1 : Int)))) (ob0) (Row.mk (ob1.q0) (ob1.q1) (ob1.q2) (ob0.q3) (ob1.q4) (ob1.q5) (ob1.q6) (ob1.q7) ob1.w0 ob1.w1 ob1.w2) ob2) (cond u10 (none) u1)))))) (must u10 (must u10 (cond u6 (none) (cond u5 (none) (cond u4 (none) (cond u9 (none) (cond u10 (A_10 (hide (wr (u2 + (1 : Int)))) (ob0) (Row.mk (ob1.q0) (ob1.q1) (ob1.q2) (ob1.q3) (ob0.q4) (ob1.q5) (ob1.q6) (ob1.q7) ob1.w0 ob1.w1 ob1.w2) ob2) u1))))))))))) (zme N N (0 : Int) (ob1) ob2)
def zmg (N n : Nat) (i6 : Int) (ob0 : Stp) (ob1 : Row) (ob2 : List Int) : Option (List Row × Int × Unit) :=
 zan (fun A x => zmf N (fun i6 ob0 ob1 ob2 => A (((), ((), ((), (i6, ())))), (ob0, (ob1, (ob2, ()))))) x.1.2.2.2.1 x.2.1 x.2.2.1 x.2.2.2.1) n (((), ((), ((), (i6, ())))), (ob0, (ob1, (ob2, ()))))
def p197 (N : Nat) (s0 : Stp) : Option (List Row × Int × Unit) :=
 let u1 := Fr.zero
 let u2 := zmg N N (0 : Int) (s0) (Row.mk u1 u1 u1 u1 u1 u1 u1 u1 (-1 : Int) (-1 : Int) (-1 : Int)) ([Stp.v0 s0, Stp.v1 s0, Stp.v2 s0])
 let u3 := hide (eqI s0.kind (1 : Int))
 let u4 := hide (eqI s0.kind (2 : Int))
 let u5 := hide (eqI s0.kind (3 : Int))
 let u6 := hide (eqI s0.kind (4 : Int))
 let u7 := hide (eqI s0.kind (7 : Int))
 let u8 := hide (eqI s0.kind (5 : Int))
 let u9 := some (([], (11 : Int), ()))
 let u10 := some (([], (0 : Int), ()))
 cond u3 (cond u3 u10 (cond u4 u2 (cond u5 (Option.bind (p218 N) fun rr7 => some (([Row.mk u1 u1 u1 u1 u1 (rr7.1) u1 u1 s0.v0 (-1 : Int) (-1 : Int)], (0 : Int), ()))) (cond u6 (Option.bind (p218 N) fun rr6 => some (([Row.mk u1 u1 u1 u1 u1 u1 (rr6.1) u1 s0.v0 (-1 : Int) s0.v2], (0 : Int), ()))) (cond u7 (Option.bind (p218 N) fun rr5 => some (([Row.mk u1 (rr5.1) u1 u1 u1 u1 u1 u1 s0.v0 (-1 : Int) (-1 : Int)], (0 : Int), ()))) (cond u8 (Option.bind (p218 N) fun rr4 => some (([Row.mk u1 u1 u1 u1 u1 u1 u1 (rr4.1) s0.v0 s0.v1 (-1 : Int), Row.mk u1 u1 u1 u1 u1 u1 u1 u1 s0.v2 (-1 : Int) (-1 : Int)], (0 : Int), ()))) u9)))))) (cond (hide (eqI s0.kind (6 : Int))) u10 (cond u4 u2 (cond u5 (Option.bind (p218 N) fun rr3 => some (([Row.mk u1 u1 u1 u1 u1 (rr3.1) u1 u1 s0.v0 (-1 : Int) (-1 : Int)], (0 : Int), ()))) (cond u6 (Option.bind (p218 N) fun rr2 => some (([Row.mk u1 u1 u1 u1 u1 u1 (rr2.1) u1 s0.v0 (-1 : Int) s0.v2], (0 : Int), ()))) (cond u7 (Option.bind (p218 N) fun rr1 => some (([Row.mk u1 (rr1.1) u1 u1 u1 u1 u1 u1 s0.v0 (-1 : Int) (-1 : Int)], (0 : Int), ()))) (cond u8 (Option.bind (p218 N) fun rr0 => some (([Row.mk u1 u1 u1 u1 u1 u1 u1 (rr0.1) s0.v0 s0.v1 (-1 : Int), Row.mk u1 u1 u1 u1 u1 u1 u1 u1 s0.v2 (-1 : Int) (-1 : Int)], (0 : Int), ()))) u9))))))
def g197 (N : Nat) : Sg := sgK [(K.st .step)] [(K.ro .row), K.int] fun x => p197 N x.1
def zA2 : List (Nat × Head) := [
  (10, ⟨⟨93, [(1, .u (.c (.ptr0 11000000 0))), (4, .u (.c (.ptr0 11000001 0))), (5, .u (.c (.ptr0 11000002 0))), (6, .u (.c (.int)))], [(11000000, ⟨false, 0, 112, .st .step⟩), (11000001, ⟨false, 0, 116, .st .row⟩), (11000002, ⟨false, 3, 110, .vec .int⟩)]⟩, .exit 1⟩),
  (14, ⟨⟨93, [(4, .u (.c (.ptr0 15000000 0))), (5, .u (.c (.ptr0 15000001 0))), (7, .u (.c (.int)))], [(15000000, ⟨false, 0, 116, .st .row⟩), (15000001, ⟨false, 3, 110, .vec .int⟩)]⟩, .exit 3⟩)]
def zA3 (N : Nat) : List (Nat × Sg) := [(218, g218 N)]
theorem zrw (N : Nat) : zaK Try.prog pd.els (zA3 N) := ⟨zyj N, trivial⟩
theorem zrx (N : Nat) : SgOK Try.prog pd.els 197 (g197 N) :=
 zaD zaN (zaj (zrw N)) Try.func197 (zap (by kernel_rfl)) [(K.st .step)] [(K.ro .row), K.int] _ N zA2 4 fun x => by kernel_rfl
def zmh (N : Nat) (A_22 : Bool -> Bool -> Bool -> Int -> Int -> Int -> (List Row) -> (List Pr) -> Option (Int × Unit)) (A_25 : Bool -> Bool -> Bool -> Int -> Int -> Int -> Int -> (List Row) -> (List Pr) -> Option (Int × Unit)) (big3 unknown4 form5 : Bool) (i12 k13 ob0_0 ob0_1 : Int) (ob0_2 : List Row) (ob0_3 : List Pr) : Option (Int × Unit) :=
 let u1 := List.getD ob0_3 i12.toNat (Pr.mk (0 : Int) (0 : Int))
 let u2 := leI (0 : Int) i12 && ltI i12 (↑ob0_3.length : Int)
 let u3 := (↑((0 : Nat) + (1 : Nat)) : Int)
 let u4 := (↑(0 : Nat) : Int)
 let u5 := hide (wr (u4 + (1 : Int)))
 let u6 := hide (wr (u3 + (1 : Int)))
 cond (hide (ltI k13 (2 : Int))) (cond unknown4 (A_25 big3 true form5 i12 (hide (wr (k13 + (1 : Int)))) ob0_0 ob0_1 ob0_2 ob0_3) (must u2 (cond (eqI k13 u4) (must (eqI k13 u4) (cond (hide (ltI (Pr.x u1) (0 : Int))) (A_25 big3 true form5 i12 u5 ob0_0 ob0_1 ob0_2 ob0_3) (must u2 (A_25 big3 (hide (leI ob0_1 (Pr.x u1))) form5 i12 u5 ob0_0 ob0_1 ob0_2 ob0_3)))) (must (eqI k13 u3) (must (eqI k13 u3) (cond (hide (ltI (Pr.y u1) (0 : Int))) (A_25 big3 true form5 i12 u6 ob0_0 ob0_1 ob0_2 ob0_3) (must u2 (A_25 big3 (hide (leI ob0_1 (Pr.y u1))) form5 i12 u6 ob0_0 ob0_1 ob0_2 ob0_3)))))))) (A_22 big3 unknown4 form5 (hide (wr (i12 + (1 : Int)))) ob0_0 ob0_1 ob0_2 ob0_3)
def zmi (N : Nat) (A_22 : Bool -> Bool -> Bool -> Int -> Int -> Int -> (List Row) -> (List Pr) -> Option (Int × Unit)) (n : Nat) (big3 unknown4 form5 : Bool) (i12 k13 ob0_0 ob0_1 : Int) (ob0_2 : List Row) (ob0_3 : List Pr) : Option (Int × Unit) :=
 zan (fun A x => zmh N A_22 (fun big3 unknown4 form5 i12 k13 ob0_0 ob0_1 ob0_2 ob0_3 => A (((), (big3, (unknown4, (form5, (i12, (k13, ())))))), ((ob0_0, (ob0_1, (ob0_2, (ob0_3, ())))), ()))) x.1.2.1 x.1.2.2.1 x.1.2.2.2.1 x.1.2.2.2.2.1 x.1.2.2.2.2.2.1 x.2.1.1 x.2.1.2.1 x.2.1.2.2.1 x.2.1.2.2.2.1) n (((), (big3, (unknown4, (form5, (i12, (k13, ())))))), ((ob0_0, (ob0_1, (ob0_2, (ob0_3, ())))), ()))
def zmj (N : Nat) (A_22 : Bool -> Bool -> Bool -> Int -> Int -> Int -> (List Row) -> (List Pr) -> Option (Int × Unit)) (big3 unknown4 form5 : Bool) (i12 ob0_0 ob0_1 : Int) (ob0_2 : List Row) (ob0_3 : List Pr) : Option (Int × Unit) :=
 cond (hide (ltI i12 (↑ob0_3.length : Int))) (zmi N A_22 N big3 unknown4 form5 i12 (0 : Int) ob0_0 ob0_1 ob0_2 ob0_3) (cond big3 (some (((4 : Int), ()))) (cond unknown4 (some (((10 : Int), ()))) (cond form5 (some (((3 : Int), ()))) (some (((0 : Int), ()))))))
def zmk (N n : Nat) (big3 unknown4 form5 : Bool) (i12 ob0_0 ob0_1 : Int) (ob0_2 : List Row) (ob0_3 : List Pr) : Option (Int × Unit) :=
 zan (fun A x => zmj N (fun big3 unknown4 form5 i12 ob0_0 ob0_1 ob0_2 ob0_3 => A (((), (big3, (unknown4, (form5, (i12, ()))))), ((ob0_0, (ob0_1, (ob0_2, (ob0_3, ())))), ()))) x.1.2.1 x.1.2.2.1 x.1.2.2.2.1 x.1.2.2.2.2.1 x.2.1.1 x.2.1.2.1 x.2.1.2.2.1 x.2.1.2.2.2.1) n (((), (big3, (unknown4, (form5, (i12, ()))))), ((ob0_0, (ob0_1, (ob0_2, (ob0_3, ())))), ()))
def zml (N : Nat) (A_7 : Bool -> Bool -> Bool -> Int -> Int -> Int -> (List Row) -> (List Pr) -> Option (Int × Unit)) (A_15 : Bool -> Bool -> Bool -> Int -> Int -> Int -> Int -> (List Row) -> (List Pr) -> Row -> Option (Int × Unit)) (big3 unknown4 form5 : Bool) (i6 k9 ob0_0 ob0_1 : Int) (ob0_2 : List Row) (ob0_3 : List Pr) (ob1 : Row) : Option (Int × Unit) :=
 cond (hide (ltI k9 (3 : Int))) (cond unknown4 (cond form5 (A_15 big3 true true i6 (hide (wr (k9 + (1 : Int)))) ob0_0 ob0_1 ob0_2 ob0_3 (Row.mk (Fr.mk ob1.q0.a0 ob1.q0.a1 ob1.q0.a2 ob1.q0.a3) (Fr.mk ob1.q1.a0 ob1.q1.a1 ob1.q1.a2 ob1.q1.a3) (Fr.mk ob1.q2.a0 ob1.q2.a1 ob1.q2.a2 ob1.q2.a3) (Fr.mk ob1.q3.a0 ob1.q3.a1 ob1.q3.a2 ob1.q3.a3) (Fr.mk ob1.q4.a0 ob1.q4.a1 ob1.q4.a2 ob1.q4.a3) (Fr.mk ob1.q5.a0 ob1.q5.a1 ob1.q5.a2 ob1.q5.a3) (Fr.mk ob1.q6.a0 ob1.q6.a1 ob1.q6.a2 ob1.q6.a3) (Fr.mk ob1.q7.a0 ob1.q7.a1 ob1.q7.a2 ob1.q7.a3) ob1.w0 ob1.w1 ob1.w2)) (cond (eqI k9 (↑(0 : Nat) : Int)) (must (eqI k9 (↑(0 : Nat) : Int)) (A_15 big3 true (hide (ltI ob1.w0 (-1 : Int))) i6 (hide (wr ((↑(0 : Nat) : Int) + (1 : Int)))) ob0_0 ob0_1 ob0_2 ob0_3 (Row.mk (Fr.mk ob1.q0.a0 ob1.q0.a1 ob1.q0.a2 ob1.q0.a3) (Fr.mk ob1.q1.a0 ob1.q1.a1 ob1.q1.a2 ob1.q1.a3) (Fr.mk ob1.q2.a0 ob1.q2.a1 ob1.q2.a2 ob1.q2.a3) (Fr.mk ob1.q3.a0 ob1.q3.a1 ob1.q3.a2 ob1.q3.a3) (Fr.mk ob1.q4.a0 ob1.q4.a1 ob1.q4.a2 ob1.q4.a3) (Fr.mk ob1.q5.a0 ob1.q5.a1 ob1.q5.a2 ob1.q5.a3) (Fr.mk ob1.q6.a0 ob1.q6.a1 ob1.q6.a2 ob1.q6.a3) (Fr.mk ob1.q7.a0 ob1.q7.a1 ob1.q7.a2 ob1.q7.a3) ob1.w0 ob1.w1 ob1.w2))) (cond (eqI k9 (↑((0 : Nat) + (1 : Nat)) : Int)) (must (eqI k9 (↑((0 : Nat) + (1 : Nat)) : Int)) (A_15 big3 true (hide (ltI ob1.w1 (-1 : Int))) i6 (hide (wr ((↑((0 : Nat) + (1 : Nat)) : Int) + (1 : Int)))) ob0_0 ob0_1 ob0_2 ob0_3 (Row.mk (Fr.mk ob1.q0.a0 ob1.q0.a1 ob1.q0.a2 ob1.q0.a3) (Fr.mk ob1.q1.a0 ob1.q1.a1 ob1.q1.a2 ob1.q1.a3) (Fr.mk ob1.q2.a0 ob1.q2.a1 ob1.q2.a2 ob1.q2.a3) (Fr.mk ob1.q3.a0 ob1.q3.a1 ob1.q3.a2 ob1.q3.a3) (Fr.mk ob1.q4.a0 ob1.q4.a1 ob1.q4.a2 ob1.q4.a3) (Fr.mk ob1.q5.a0 ob1.q5.a1 ob1.q5.a2 ob1.q5.a3) (Fr.mk ob1.q6.a0 ob1.q6.a1 ob1.q6.a2 ob1.q6.a3) (Fr.mk ob1.q7.a0 ob1.q7.a1 ob1.q7.a2 ob1.q7.a3) ob1.w0 ob1.w1 ob1.w2))) (must (eqI k9 (↑((0 : Nat) + (1 : Nat) + (1 : Nat)) : Int)) (must (eqI k9 (↑((0 : Nat) + (1 : Nat) + (1 : Nat)) : Int)) (A_15 big3 true (hide (ltI ob1.w2 (-1 : Int))) i6 (hide (wr ((↑((0 : Nat) + (1 : Nat) + (1 : Nat)) : Int) + (1 : Int)))) ob0_0 ob0_1 ob0_2 ob0_3 (Row.mk (Fr.mk ob1.q0.a0 ob1.q0.a1 ob1.q0.a2 ob1.q0.a3) (Fr.mk ob1.q1.a0 ob1.q1.a1 ob1.q1.a2 ob1.q1.a3) (Fr.mk ob1.q2.a0 ob1.q2.a1 ob1.q2.a2 ob1.q2.a3) (Fr.mk ob1.q3.a0 ob1.q3.a1 ob1.q3.a2 ob1.q3.a3) (Fr.mk ob1.q4.a0 ob1.q4.a1 ob1.q4.a2 ob1.q4.a3) (Fr.mk ob1.q5.a0 ob1.q5.a1 ob1.q5.a2 ob1.q5.a3) (Fr.mk ob1.q6.a0 ob1.q6.a1 ob1.q6.a2 ob1.q6.a3) (Fr.mk ob1.q7.a0 ob1.q7.a1 ob1.q7.a2 ob1.q7.a3) ob1.w0 ob1.w1 ob1.w2))))))) (cond (eqI k9 (↑(0 : Nat) : Int)) (must (eqI k9 (↑(0 : Nat) : Int)) (cond form5 (A_15 big3 (hide (leI ob0_1 ob1.w0)) true i6 (hide (wr ((↑(0 : Nat) : Int) + (1 : Int)))) ob0_0 ob0_1 ob0_2 ob0_3 (Row.mk (Fr.mk ob1.q0.a0 ob1.q0.a1 ob1.q0.a2 ob1.q0.a3) (Fr.mk ob1.q1.a0 ob1.q1.a1 ob1.q1.a2 ob1.q1.a3) (Fr.mk ob1.q2.a0 ob1.q2.a1 ob1.q2.a2 ob1.q2.a3) (Fr.mk ob1.q3.a0 ob1.q3.a1 ob1.q3.a2 ob1.q3.a3) (Fr.mk ob1.q4.a0 ob1.q4.a1 ob1.q4.a2 ob1.q4.a3) (Fr.mk ob1.q5.a0 ob1.q5.a1 ob1.q5.a2 ob1.q5.a3) (Fr.mk ob1.q6.a0 ob1.q6.a1 ob1.q6.a2 ob1.q6.a3) (Fr.mk ob1.q7.a0 ob1.q7.a1 ob1.q7.a2 ob1.q7.a3) ob1.w0 ob1.w1 ob1.w2)) (A_15 big3 (hide (leI ob0_1 ob1.w0)) (hide (ltI ob1.w0 (-1 : Int))) i6 (hide (wr ((↑(0 : Nat) : Int) + (1 : Int)))) ob0_0 ob0_1 ob0_2 ob0_3 (Row.mk (Fr.mk ob1.q0.a0 ob1.q0.a1 ob1.q0.a2 ob1.q0.a3) (Fr.mk ob1.q1.a0 ob1.q1.a1 ob1.q1.a2 ob1.q1.a3) (Fr.mk ob1.q2.a0 ob1.q2.a1 ob1.q2.a2 ob1.q2.a3) (Fr.mk ob1.q3.a0 ob1.q3.a1 ob1.q3.a2 ob1.q3.a3) (Fr.mk ob1.q4.a0 ob1.q4.a1 ob1.q4.a2 ob1.q4.a3) (Fr.mk ob1.q5.a0 ob1.q5.a1 ob1.q5.a2 ob1.q5.a3) (Fr.mk ob1.q6.a0 ob1.q6.a1 ob1.q6.a2 ob1.q6.a3) (Fr.mk ob1.q7.a0 ob1.q7.a1 ob1.q7.a2 ob1.q7.a3) ob1.w0 ob1.w1 ob1.w2)))) (cond (eqI k9 (↑((0 : Nat) + (1 : Nat)) : Int)) (must (eqI k9 (↑((0 : Nat) + (1 : Nat)) : Int)) (cond form5 (A_15 big3 (hide (leI ob0_1 ob1.w1)) true i6 (hide (wr ((↑((0 : Nat) + (1 : Nat)) : Int) + (1 : Int)))) ob0_0 ob0_1 ob0_2 ob0_3 (Row.mk (Fr.mk ob1.q0.a0 ob1.q0.a1 ob1.q0.a2 ob1.q0.a3) (Fr.mk ob1.q1.a0 ob1.q1.a1 ob1.q1.a2 ob1.q1.a3) (Fr.mk ob1.q2.a0 ob1.q2.a1 ob1.q2.a2 ob1.q2.a3) (Fr.mk ob1.q3.a0 ob1.q3.a1 ob1.q3.a2 ob1.q3.a3) (Fr.mk ob1.q4.a0 ob1.q4.a1 ob1.q4.a2 ob1.q4.a3) (Fr.mk ob1.q5.a0 ob1.q5.a1 ob1.q5.a2 ob1.q5.a3) (Fr.mk ob1.q6.a0 ob1.q6.a1 ob1.q6.a2 ob1.q6.a3) (Fr.mk ob1.q7.a0 ob1.q7.a1 ob1.q7.a2 ob1.q7.a3) ob1.w0 ob1.w1 ob1.w2)) (A_15 big3 (hide (leI ob0_1 ob1.w1)) (hide (ltI ob1.w1 (-1 : Int))) i6 (hide (wr ((↑((0 : Nat) + (1 : Nat)) : Int) + (1 : Int)))) ob0_0 ob0_1 ob0_2 ob0_3 (Row.mk (Fr.mk ob1.q0.a0 ob1.q0.a1 ob1.q0.a2 ob1.q0.a3) (Fr.mk ob1.q1.a0 ob1.q1.a1 ob1.q1.a2 ob1.q1.a3) (Fr.mk ob1.q2.a0 ob1.q2.a1 ob1.q2.a2 ob1.q2.a3) (Fr.mk ob1.q3.a0 ob1.q3.a1 ob1.q3.a2 ob1.q3.a3) (Fr.mk ob1.q4.a0 ob1.q4.a1 ob1.q4.a2 ob1.q4.a3) (Fr.mk ob1.q5.a0 ob1.q5.a1 ob1.q5.a2 ob1.q5.a3) (Fr.mk ob1.q6.a0 ob1.q6.a1 ob1.q6.a2 ob1.q6.a3) (Fr.mk ob1.q7.a0 ob1.q7.a1 ob1.q7.a2 ob1.q7.a3) ob1.w0 ob1.w1 ob1.w2)))) (must (eqI k9 (↑((0 : Nat) + (1 : Nat) + (1 : Nat)) : Int)) (must (eqI k9 (↑((0 : Nat) + (1 : Nat) + (1 : Nat)) : Int)) (cond form5 (A_15 big3 (hide (leI ob0_1 ob1.w2)) true i6 (hide (wr ((↑((0 : Nat) + (1 : Nat) + (1 : Nat)) : Int) + (1 : Int)))) ob0_0 ob0_1 ob0_2 ob0_3 (Row.mk (Fr.mk ob1.q0.a0 ob1.q0.a1 ob1.q0.a2 ob1.q0.a3) (Fr.mk ob1.q1.a0 ob1.q1.a1 ob1.q1.a2 ob1.q1.a3) (Fr.mk ob1.q2.a0 ob1.q2.a1 ob1.q2.a2 ob1.q2.a3) (Fr.mk ob1.q3.a0 ob1.q3.a1 ob1.q3.a2 ob1.q3.a3) (Fr.mk ob1.q4.a0 ob1.q4.a1 ob1.q4.a2 ob1.q4.a3) (Fr.mk ob1.q5.a0 ob1.q5.a1 ob1.q5.a2 ob1.q5.a3) (Fr.mk ob1.q6.a0 ob1.q6.a1 ob1.q6.a2 ob1.q6.a3) (Fr.mk ob1.q7.a0 ob1.q7.a1 ob1.q7.a2 ob1.q7.a3) ob1.w0 ob1.w1 ob1.w2)) (A_15 big3 (hide (leI ob0_1 ob1.w2)) (hide (ltI ob1.w2 (-1 : Int))) i6 (hide (wr ((↑((0 : Nat) + (1 : Nat) + (1 : Nat)) : Int) + (1 : Int)))) ob0_0 ob0_1 ob0_2 ob0_3 (Row.mk (Fr.mk ob1.q0.a0 ob1.q0.a1 ob1.q0.a2 ob1.q0.a3) (Fr.mk ob1.q1.a0 ob1.q1.a1 ob1.q1.a2 ob1.q1.a3) (Fr.mk ob1.q2.a0 ob1.q2.a1 ob1.q2.a2 ob1.q2.a3) (Fr.mk ob1.q3.a0 ob1.q3.a1 ob1.q3.a2 ob1.q3.a3) (Fr.mk ob1.q4.a0 ob1.q4.a1 ob1.q4.a2 ob1.q4.a3) (Fr.mk ob1.q5.a0 ob1.q5.a1 ob1.q5.a2 ob1.q5.a3) (Fr.mk ob1.q6.a0 ob1.q6.a1 ob1.q6.a2 ob1.q6.a3) (Fr.mk ob1.q7.a0 ob1.q7.a1 ob1.q7.a2 ob1.q7.a3) ob1.w0 ob1.w1 ob1.w2)))))))) (Option.bind (p197 N (Stp.mk (7 : Int) ob1.w0 (0 : Int) (0 : Int) (Fr.mk (0 : UInt64) (0 : UInt64) (0 : UInt64) (0 : UInt64)) (Fr.mk (0 : UInt64) (0 : UInt64) (0 : UInt64) (0 : UInt64)) (Fr.mk (0 : UInt64) (0 : UInt64) (0 : UInt64) (0 : UInt64)) (Fr.mk (0 : UInt64) (0 : UInt64) (0 : UInt64) (0 : UInt64)) (Fr.mk (0 : UInt64) (0 : UInt64) (0 : UInt64) (0 : UInt64)))) fun rr0 => let w3 := List.getD rr0.1 (0 : Nat) (Row.mk (Fr.mk (0 : UInt64) (0 : UInt64) (0 : UInt64) (0 : UInt64)) (Fr.mk (0 : UInt64) (0 : UInt64) (0 : UInt64) (0 : UInt64)) (Fr.mk (0 : UInt64) (0 : UInt64) (0 : UInt64) (0 : UInt64)) (Fr.mk (0 : UInt64) (0 : UInt64) (0 : UInt64) (0 : UInt64)) (Fr.mk (0 : UInt64) (0 : UInt64) (0 : UInt64) (0 : UInt64)) (Fr.mk (0 : UInt64) (0 : UInt64) (0 : UInt64) (0 : UInt64)) (Fr.mk (0 : UInt64) (0 : UInt64) (0 : UInt64) (0 : UInt64)) (Fr.mk (0 : UInt64) (0 : UInt64) (0 : UInt64) (0 : UInt64)) (0 : Int) (0 : Int) (0 : Int)); cond form5 (A_7 big3 unknown4 true (hide (wr (i6 + (1 : Int)))) ob0_0 ob0_1 ob0_2 ob0_3) (cond (hide (ltI i6 ob0_0)) (cond (hide (ltI ob1.w0 (0 : Int))) (A_7 big3 unknown4 true (hide (wr (i6 + (1 : Int)))) ob0_0 ob0_1 ob0_2 ob0_3) (must (ltI (0 : Int) (↑rr0.1.length : Int)) (A_7 big3 unknown4 (hide !(Fr.a0 ob1.q0 == Fr.a0 (Row.q0 w3) && (Fr.a1 ob1.q0 == Fr.a1 (Row.q0 w3) && (Fr.a2 ob1.q0 == Fr.a2 (Row.q0 w3) && (Fr.a3 ob1.q0 == Fr.a3 (Row.q0 w3) && true))) && (Fr.a0 ob1.q1 == Fr.a0 (Row.q1 w3) && (Fr.a1 ob1.q1 == Fr.a1 (Row.q1 w3) && (Fr.a2 ob1.q1 == Fr.a2 (Row.q1 w3) && (Fr.a3 ob1.q1 == Fr.a3 (Row.q1 w3) && true))) && (Fr.a0 ob1.q2 == Fr.a0 (Row.q2 w3) && (Fr.a1 ob1.q2 == Fr.a1 (Row.q2 w3) && (Fr.a2 ob1.q2 == Fr.a2 (Row.q2 w3) && (Fr.a3 ob1.q2 == Fr.a3 (Row.q2 w3) && true))) && (Fr.a0 ob1.q3 == Fr.a0 (Row.q3 w3) && (Fr.a1 ob1.q3 == Fr.a1 (Row.q3 w3) && (Fr.a2 ob1.q3 == Fr.a2 (Row.q3 w3) && (Fr.a3 ob1.q3 == Fr.a3 (Row.q3 w3) && true))) && (Fr.a0 ob1.q4 == Fr.a0 (Row.q4 w3) && (Fr.a1 ob1.q4 == Fr.a1 (Row.q4 w3) && (Fr.a2 ob1.q4 == Fr.a2 (Row.q4 w3) && (Fr.a3 ob1.q4 == Fr.a3 (Row.q4 w3) && true))) && (Fr.a0 ob1.q5 == Fr.a0 (Row.q5 w3) && (Fr.a1 ob1.q5 == Fr.a1 (Row.q5 w3) && (Fr.a2 ob1.q5 == Fr.a2 (Row.q5 w3) && (Fr.a3 ob1.q5 == Fr.a3 (Row.q5 w3) && true))) && (Fr.a0 ob1.q6 == Fr.a0 (Row.q6 w3) && (Fr.a1 ob1.q6 == Fr.a1 (Row.q6 w3) && (Fr.a2 ob1.q6 == Fr.a2 (Row.q6 w3) && (Fr.a3 ob1.q6 == Fr.a3 (Row.q6 w3) && true))) && (Fr.a0 ob1.q7 == Fr.a0 (Row.q7 w3) && (Fr.a1 ob1.q7 == Fr.a1 (Row.q7 w3) && (Fr.a2 ob1.q7 == Fr.a2 (Row.q7 w3) && (Fr.a3 ob1.q7 == Fr.a3 (Row.q7 w3) && true))) && true))))))) && (eqI ob1.w0 (Row.w0 w3) && (eqI ob1.w1 (Row.w1 w3) && (eqI ob1.w2 (Row.w2 w3) && true)) && true))) (hide (wr (i6 + (1 : Int)))) ob0_0 ob0_1 ob0_2 ob0_3))) (A_7 big3 unknown4 false (hide (wr (i6 + (1 : Int)))) ob0_0 ob0_1 ob0_2 ob0_3)))
def zmm (N : Nat) (A_7 : Bool -> Bool -> Bool -> Int -> Int -> Int -> (List Row) -> (List Pr) -> Option (Int × Unit)) (n : Nat) (big3 unknown4 form5 : Bool) (i6 k9 ob0_0 ob0_1 : Int) (ob0_2 : List Row) (ob0_3 : List Pr) (ob1 : Row) : Option (Int × Unit) :=
 zan (fun A x => zml N A_7 (fun big3 unknown4 form5 i6 k9 ob0_0 ob0_1 ob0_2 ob0_3 ob1 => A (((), (big3, (unknown4, (form5, (i6, ((), (k9, ()))))))), ((ob0_0, (ob0_1, (ob0_2, (ob0_3, ())))), (ob1, ())))) x.1.2.1 x.1.2.2.1 x.1.2.2.2.1 x.1.2.2.2.2.1 x.1.2.2.2.2.2.2.1 x.2.1.1 x.2.1.2.1 x.2.1.2.2.1 x.2.1.2.2.2.1 x.2.2.1) n (((), (big3, (unknown4, (form5, (i6, ((), (k9, ()))))))), ((ob0_0, (ob0_1, (ob0_2, (ob0_3, ())))), (ob1, ())))
def zmn (N : Nat) (A_7 : Bool -> Bool -> Bool -> Int -> Int -> Int -> (List Row) -> (List Pr) -> Option (Int × Unit)) (A_11 : Bool -> Bool -> Bool -> Int -> Int -> Int -> Int -> (List Row) -> (List Pr) -> Row -> Option (Int × Unit)) (big3 unknown4 form5 : Bool) (i6 k8 ob0_0 ob0_1 : Int) (ob0_2 : List Row) (ob0_3 : List Pr) (ob1 : Row) : Option (Int × Unit) :=
 let u9 := Fr.mk ob1.q0.a0 ob1.q0.a1 ob1.q0.a2 ob1.q0.a3
 let u10 := Fr.mk ob1.q1.a0 ob1.q1.a1 ob1.q1.a2 ob1.q1.a3
 let u11 := Fr.mk ob1.q2.a0 ob1.q2.a1 ob1.q2.a2 ob1.q2.a3
 let u12 := Fr.mk ob1.q3.a0 ob1.q3.a1 ob1.q3.a2 ob1.q3.a3
 let u13 := Fr.mk ob1.q4.a0 ob1.q4.a1 ob1.q4.a2 ob1.q4.a3
 let u14 := Fr.mk ob1.q5.a0 ob1.q5.a1 ob1.q5.a2 ob1.q5.a3
 let u15 := Fr.mk ob1.q6.a0 ob1.q6.a1 ob1.q6.a2 ob1.q6.a3
 let u16 := Fr.mk ob1.q7.a0 ob1.q7.a1 ob1.q7.a2 ob1.q7.a3
 let u1 := Row.mk u9 u10 u11 u12 u13 u14 u15 u16 ob1.w0 ob1.w1 ob1.w2
 let u2 := (↑((0 : Nat) + (1 : Nat) + (1 : Nat) + (1 : Nat) + (1 : Nat) + (1 : Nat) + (1 : Nat) + (1 : Nat)) : Int)
 let u3 := (↑((0 : Nat) + (1 : Nat) + (1 : Nat) + (1 : Nat) + (1 : Nat) + (1 : Nat) + (1 : Nat)) : Int)
 let u4 := (↑((0 : Nat) + (1 : Nat) + (1 : Nat) + (1 : Nat) + (1 : Nat) + (1 : Nat)) : Int)
 let u5 := (↑((0 : Nat) + (1 : Nat) + (1 : Nat) + (1 : Nat) + (1 : Nat)) : Int)
 let u6 := (↑((0 : Nat) + (1 : Nat) + (1 : Nat) + (1 : Nat)) : Int)
 let u7 := (↑((0 : Nat) + (1 : Nat) + (1 : Nat)) : Int)
 let u8 := (↑((0 : Nat) + (1 : Nat)) : Int)
 let u17 := (↑(0 : Nat) : Int)
 cond (hide (ltI k8 (8 : Int))) (cond big3 (A_11 true unknown4 form5 i6 (hide (wr (k8 + (1 : Int)))) ob0_0 ob0_1 ob0_2 ob0_3 u1) (cond (eqI k8 u17) (must (eqI k8 u17) (Option.bind (p69 N u9) fun rr7 => A_11 (hide !rr7.1) unknown4 form5 i6 (hide (wr (u17 + (1 : Int)))) ob0_0 ob0_1 ob0_2 ob0_3 u1)) (cond (eqI k8 u8) (must (eqI k8 u8) (Option.bind (p69 N u10) fun rr6 => A_11 (hide !rr6.1) unknown4 form5 i6 (hide (wr (u8 + (1 : Int)))) ob0_0 ob0_1 ob0_2 ob0_3 u1)) (cond (eqI k8 u7) (must (eqI k8 u7) (Option.bind (p69 N u11) fun rr5 => A_11 (hide !rr5.1) unknown4 form5 i6 (hide (wr (u7 + (1 : Int)))) ob0_0 ob0_1 ob0_2 ob0_3 u1)) (cond (eqI k8 u6) (must (eqI k8 u6) (Option.bind (p69 N u12) fun rr4 => A_11 (hide !rr4.1) unknown4 form5 i6 (hide (wr (u6 + (1 : Int)))) ob0_0 ob0_1 ob0_2 ob0_3 u1)) (cond (eqI k8 u5) (must (eqI k8 u5) (Option.bind (p69 N u13) fun rr3 => A_11 (hide !rr3.1) unknown4 form5 i6 (hide (wr (u5 + (1 : Int)))) ob0_0 ob0_1 ob0_2 ob0_3 u1)) (cond (eqI k8 u4) (must (eqI k8 u4) (Option.bind (p69 N u14) fun rr2 => A_11 (hide !rr2.1) unknown4 form5 i6 (hide (wr (u4 + (1 : Int)))) ob0_0 ob0_1 ob0_2 ob0_3 u1)) (cond (eqI k8 u3) (must (eqI k8 u3) (Option.bind (p69 N u15) fun rr1 => A_11 (hide !rr1.1) unknown4 form5 i6 (hide (wr (u3 + (1 : Int)))) ob0_0 ob0_1 ob0_2 ob0_3 u1)) (must (eqI k8 u2) (must (eqI k8 u2) (Option.bind (p69 N u16) fun rr0 => A_11 (hide !rr0.1) unknown4 form5 i6 (hide (wr (u2 + (1 : Int)))) ob0_0 ob0_1 ob0_2 ob0_3 u1))))))))))) (zmm N A_7 N big3 unknown4 form5 i6 (0 : Int) ob0_0 ob0_1 ob0_2 ob0_3 u1)
def zmo (N : Nat) (A_7 : Bool -> Bool -> Bool -> Int -> Int -> Int -> (List Row) -> (List Pr) -> Option (Int × Unit)) (n : Nat) (big3 unknown4 form5 : Bool) (i6 k8 ob0_0 ob0_1 : Int) (ob0_2 : List Row) (ob0_3 : List Pr) (ob1 : Row) : Option (Int × Unit) :=
 zan (fun A x => zmn N A_7 (fun big3 unknown4 form5 i6 k8 ob0_0 ob0_1 ob0_2 ob0_3 ob1 => A (((), (big3, (unknown4, (form5, (i6, ((), (k8, ()))))))), ((ob0_0, (ob0_1, (ob0_2, (ob0_3, ())))), (ob1, ())))) x.1.2.1 x.1.2.2.1 x.1.2.2.2.1 x.1.2.2.2.2.1 x.1.2.2.2.2.2.2.1 x.2.1.1 x.2.1.2.1 x.2.1.2.2.1 x.2.1.2.2.2.1 x.2.2.1) n (((), (big3, (unknown4, (form5, (i6, ((), (k8, ()))))))), ((ob0_0, (ob0_1, (ob0_2, (ob0_3, ())))), (ob1, ())))
def zry (N : Nat) (A_7 : Bool -> Bool -> Bool -> Int -> Int -> Int -> (List Row) -> (List Pr) -> Option (Int × Unit)) (big3 unknown4 form5 : Bool) (i6 ob0_0 ob0_1 : Int) (ob0_2 : List Row) (ob0_3 : List Pr) : Option (Int × Unit) :=
 let u2 := Fr.mk (0 : UInt64) (0 : UInt64) (0 : UInt64) (0 : UInt64)
 let u1 := List.getD ob0_2 i6.toNat (Row.mk u2 u2 u2 u2 u2 u2 u2 u2 (0 : Int) (0 : Int) (0 : Int))
 let u3 := Row.q0 u1
 let u4 := Row.q1 u1
 let u5 := Row.q2 u1
 let u6 := Row.q3 u1
 let u7 := Row.q4 u1
 let u8 := Row.q5 u1
 let u9 := Row.q6 u1
 let u10 := Row.q7 u1
 cond (hide (ltI i6 (↑ob0_2.length : Int))) (must (leI (0 : Int) i6 && ltI i6 (↑ob0_2.length : Int)) (zmo N A_7 N big3 unknown4 form5 i6 (0 : Int) ob0_0 ob0_1 ob0_2 ob0_3 (Row.mk (Fr.mk (Fr.a0 u3) (Fr.a1 u3) (Fr.a2 u3) (Fr.a3 u3)) (Fr.mk (Fr.a0 u4) (Fr.a1 u4) (Fr.a2 u4) (Fr.a3 u4)) (Fr.mk (Fr.a0 u5) (Fr.a1 u5) (Fr.a2 u5) (Fr.a3 u5)) (Fr.mk (Fr.a0 u6) (Fr.a1 u6) (Fr.a2 u6) (Fr.a3 u6)) (Fr.mk (Fr.a0 u7) (Fr.a1 u7) (Fr.a2 u7) (Fr.a3 u7)) (Fr.mk (Fr.a0 u8) (Fr.a1 u8) (Fr.a2 u8) (Fr.a3 u8)) (Fr.mk (Fr.a0 u9) (Fr.a1 u9) (Fr.a2 u9) (Fr.a3 u9)) (Fr.mk (Fr.a0 u10) (Fr.a1 u10) (Fr.a2 u10) (Fr.a3 u10)) (Row.w0 u1) (Row.w1 u1) (Row.w2 u1)))) (zmk N N big3 unknown4 form5 (0 : Int) ob0_0 ob0_1 ob0_2 ob0_3)
def zrz (N n : Nat) (big3 unknown4 form5 : Bool) (i6 ob0_0 ob0_1 : Int) (ob0_2 : List Row) (ob0_3 : List Pr) : Option (Int × Unit) :=
 zan (fun A x => zry N (fun big3 unknown4 form5 i6 ob0_0 ob0_1 ob0_2 ob0_3 => A (((), (big3, (unknown4, (form5, (i6, ()))))), ((ob0_0, (ob0_1, (ob0_2, (ob0_3, ())))), ()))) x.1.2.1 x.1.2.2.1 x.1.2.2.2.1 x.1.2.2.2.2.1 x.2.1.1 x.2.1.2.1 x.2.1.2.2.1 x.2.1.2.2.2.1) n (((), (big3, (unknown4, (form5, (i6, ()))))), ((ob0_0, (ob0_1, (ob0_2, (ob0_3, ())))), ()))
def p130 (N : Nat) (c0 v1 : Int) (v2 : List Row) (v3 : List Pr) : Option (Int × Unit) :=
 cond (hide (ltI (8 : Int) c0)) (some (((8 : Int), ()))) (cond (hide (ltI (200 : Int) v1)) (some (((8 : Int), ()))) (cond (hide (ltI (64 : Int) (↑v2.length : Int))) (some (((8 : Int), ()))) (cond (hide (ltI (200 : Int) (↑v3.length : Int))) (some (((8 : Int), ()))) (cond (hide (ltI c0 (0 : Int))) (some (((1 : Int), ()))) (cond (hide (ltI v1 (0 : Int))) (some (((1 : Int), ()))) (cond (hide (ltI (↑v2.length : Int) c0)) (some (((1 : Int), ()))) (zrz N N false false false (0 : Int) c0 v1 v2 v3)))))))
def g130 (N : Nat) : Sg := sgK [(K.agg [.int, .int, .ro .row, .ro .pair] rfl)] [K.int] fun x => p130 N x.1.1 x.1.2.1 x.1.2.2.1 x.1.2.2.2.1
def zA4 : List (Nat × Head) := [
  (7, ⟨⟨166, [(1, .u (.c (.ptr0 8000000 0))), (3, .u (.c (.bool))), (4, .u (.c (.bool))), (5, .u (.c (.bool))), (6, .u (.c (.int)))], [(8000000, ⟨false, 0, 80, .lit [.int, .int, .ro .row, .ro .pair]⟩)]⟩, .exit 0⟩),
  (22, ⟨⟨166, [(1, .u (.c (.ptr0 23000000 0))), (3, .u (.c (.bool))), (4, .u (.c (.bool))), (5, .u (.c (.bool))), (12, .u (.c (.int)))], [(23000000, ⟨false, 0, 80, .lit [.int, .int, .ro .row, .ro .pair]⟩)]⟩, .exit 6⟩),
  (25, ⟨⟨166, [(1, .u (.c (.ptr0 26000000 0))), (3, .u (.c (.bool))), (4, .u (.c (.bool))), (5, .u (.c (.bool))), (12, .u (.c (.int))), (13, .u (.c (.int)))], [(26000000, ⟨false, 0, 80, .lit [.int, .int, .ro .row, .ro .pair]⟩)]⟩, .exit 8⟩),
  (11, ⟨⟨166, [(1, .u (.c (.ptr0 12000000 0))), (3, .u (.c (.bool))), (4, .u (.c (.bool))), (5, .u (.c (.bool))), (6, .u (.c (.int))), (7, .u (.c (.ptr0 12000001 0))), (8, .u (.c (.int)))], [(12000000, ⟨false, 0, 80, .lit [.int, .int, .ro .row, .ro .pair]⟩), (12000001, ⟨false, 0, 116, .st .row⟩)]⟩, .exit 2⟩),
  (15, ⟨⟨166, [(1, .u (.c (.ptr0 16000000 0))), (3, .u (.c (.bool))), (4, .u (.c (.bool))), (5, .u (.c (.bool))), (6, .u (.c (.int))), (7, .u (.c (.ptr0 16000001 0))), (9, .u (.c (.int)))], [(16000000, ⟨false, 0, 80, .lit [.int, .int, .ro .row, .ro .pair]⟩), (16000001, ⟨false, 0, 116, .st .row⟩)]⟩, .exit 4⟩)]
def zA5 (N : Nat) : List (Nat × Sg) := [(69, g69 N), (197, g197 N)]
theorem zrA (N : Nat) : zaK Try.prog pd.els (zA5 N) := ⟨zqD N, ⟨zrx N, trivial⟩⟩
theorem zyk (N : Nat) : SgOK Try.prog pd.els 130 (g130 N) :=
 zaD zaN (zaj (zrA N)) Try.func130 (zap (by kernel_rfl)) [(K.agg [.int, .int, .ro .row, .ro .pair] rfl)] [K.int] _ N zA4 4 fun x => by kernel_rfl
end
section
structure F5 where
 (k0 k1 k2 k3 k4 : Fr)
def F5.l (x : F5) : List Fr := [x.k0, x.k1, x.k2, x.k3, x.k4]
def F5.of? (l : List Fr) : Option F5 := match l with
 | [a, b, c, d, e] => some ⟨a, b, c, d, e⟩
 | _ => none
theorem F5.of_ok {l : List Fr} {x : F5} (h : F5.of? l = some x) : l = x.l := by
 unfold F5.of? at h
 split at h
 ·cases h; rfl
 ·cases h
def K.bl3 : K := ⟨TCs [.int, .ro .row, .ro .row] × Nat, fun x => .agg (zck [.int, .ro .row, .ro .row] x.1 ++ [.len x.2]), fun u => match u with
 | .agg xs => match zet [.int, .ro .row, .ro .row] (xs.take 3), xs.drop 3 with
  | some y, [.len n] => some (y, n)
  | _, _ => none
 | _ => none, fun u x h => by
 split at h
 ·rename_i xs
  split at h
  ·rename_i y n h1 h2
   cases h
   have h3 := zih (l := [.int, .ro .row, .ro .row]) rfl h1
   rw [← h3, ← h2, List.take_append_drop]
  ·cases h
 ·cases h⟩
end
end Go.Proofs.Ytgimohchocjgcaa.V
